/- WordShifts: for every word and any two numbers: Left, or Right, by two numbers, one behind the other, is that by their sum; Left by 1 is Add of the word and itself; Left and Right by one number cut bits off alone. No condition. -/
import Derived.Test.YtmplgmlfpfopbaaMLen
import Derived.Test.YtmplgmlfpfopbaaPWordx9
set_option linter.unusedVariables false
set_option linter.unusedSimpArgs false
namespace Go.Proofs.Ytmplgmlfpfopbaa.Pure
open Go.RowKit Go.Proofs.Ytmplgmlfpfopbaa.PWord Go.Proofs.Ytmplgmlfpfopbaa.MBits Go.Proofs.Ytmplgmlfpfopbaa.MWord Go.Proofs.YtmplgmlfpfopbaaW.PrintWords Go.Proofs.YtmplgmlfpfopbaaW.PrintLast Go.Proofs.YtmplgmlfpfopbaaW.PrintMore

theorem same {x y : W} (h : x = y) : ((hi x == hi y) && (lo x == lo y)) = true := by rw [beq2, h, beq_self_eq_true]
theorem amount (n : Int) : ∃ m : Nat, m < 130 ∧ wrap64 (Int.tmod (IntKind.u64.wrap n) 130) = (m : Int) := by
  rw [IntKind.wrap_u64, Int.tmod_eq_emod_of_nonneg (by omega), w64 (by omega) (by omega)]
  exact ⟨(n % 18446744073709551616 % 130).toNat, by omega, by omega⟩
theorem mask_bit (n : Nat) (i : Nat) : (mask (n : Int)).getLsbD i = (decide (i < n) && decide (i < 128)) := by
  unfold mask
  rw [BitVec.getLsbD_ushiftRight, BitVec.getLsbD_allOnes, Int.toNat_natCast]
  by_cases h : i < n <;> by_cases h2 : i < 128 <;> simp [h, h2] <;> omega
theorem right_left (x : W) (m : Nat) : (x <<< m) >>> m = x &&& mask (wrap64 (128 - (m : Int))) ∨ 128 < m := by
  by_cases hm : 128 < m
  · exact .inr hm
  · left
    have e : wrap64 (128 - (m : Int)) = ((128 - m : Nat) : Int) := by rw [w64 (by omega) (by omega)]; omega
    rw [e]
    apply BitVec.eq_of_getLsbD_eq
    intro i hi
    rw [BitVec.getLsbD_ushiftRight, BitVec.getLsbD_shiftLeft, BitVec.getLsbD_and, mask_bit]
    have e2 : m + i - m = i := by omega
    rw [e2]
    by_cases h : m + i < 128
    · have h2 : i < 128 - m := by omega
      simp [h, h2, hi]
    · have h2 : ¬ i < 128 - m := by omega
      simp [h, h2]
theorem right_left' (x : W) (m : Nat) (hm : m < 130) : (x <<< m) >>> m = x &&& mask (wrap64 (128 - (m : Int))) := by
  rcases right_left x m with h | h
  · exact h
  · have e : wrap64 (128 - (m : Int)) ≤ 0 := by rw [w64 (by omega) (by omega)]; omega
    have e2 : (wrap64 (128 - (m : Int))).toNat = 0 := by omega
    apply BitVec.eq_of_getLsbD_eq
    intro i hi
    have e3 : mask (wrap64 (128 - (m : Int))) = mask ((0 : Nat) : Int) := by unfold mask; rw [e2]; rfl
    rw [e3, BitVec.getLsbD_ushiftRight, BitVec.getLsbD_shiftLeft, BitVec.getLsbD_and, mask_bit]
    have h2 : ¬ m + i < 128 := by omega
    simp [h2]
theorem sub_bits (x y : W) (h : x &&& y = y) : x - y = x &&& ~~~y := by
  have h0 : (x &&& ~~~y) &&& y = 0#128 := by
    apply BitVec.eq_of_getLsbD_eq; intro i hi
    simp only [BitVec.getLsbD_and, BitVec.getLsbD_not, BitVec.getLsbD_zero]
    cases x.getLsbD i <;> cases y.getLsbD i <;> simp
  have h1 : (x &&& ~~~y) + y = (x &&& ~~~y) ||| y := BitVec.add_eq_or_of_and_eq_zero _ _ h0
  have h2 : (x &&& ~~~y) ||| y = x := by
    apply BitVec.eq_of_getLsbD_eq; intro i hi
    have hb := congrArg (fun z : W => z.getLsbD i) h
    simp only [BitVec.getLsbD_and] at hb
    simp only [BitVec.getLsbD_or, BitVec.getLsbD_and, BitVec.getLsbD_not, decide_eq_true hi]
    cases hx : x.getLsbD i <;> cases hy : y.getLsbD i <;> simp_all
  conv => lhs; rw [← h2, ← h1]
  exact BitVec.add_sub_cancel _ _
theorem left_right (x : W) (m : Nat) : (x >>> m) <<< m = x - (x &&& mask (m : Int)) := by
  rw [sub_bits]
  · apply BitVec.eq_of_getLsbD_eq; intro i hi
    rw [BitVec.getLsbD_shiftLeft, BitVec.getLsbD_ushiftRight, BitVec.getLsbD_and, BitVec.getLsbD_not, BitVec.getLsbD_and, mask_bit]
    by_cases h : i < m
    · simp [h, hi]
    · have e : m + (i - m) = i := by omega
      simp [h, hi, e]
  · apply BitVec.eq_of_getLsbD_eq; intro i hi
    simp only [BitVec.getLsbD_and]
    cases x.getLsbD i <;> simp

theorem WordShifts : turnoutlaw01_WordShifts.Pure := by
  refine ⟨fun a0 a1 n m ha0 ha1 hn hm => ?_, awake_only⟩
  obtain ⟨x, rfl, rfl⟩ := halves _ _ (bounds_u64 ha0) (bounds_u64 ha1)
  apply Ev.rounds
  unfold turnoutlaw01_WordShifts.f
  obtain ⟨p, hp, ep⟩ := amount n
  obtain ⟨q, hq, eq⟩ := amount m
  have es : wrap64 ((p : Int) + (q : Int)) = ((p + q : Nat) : Int) := by rw [w64 (by omega) (by omega)]; omega
  have en : wrap64 (-(q : Int)) = -(q : Int) := w64 (by omega) (by omega)
  have ez : (-(q : Int)).toNat = 0 := by omega
  have ew := w64 (n := 128 - (p : Int)) (by omega) (by omega)
  rw [ep, eq, es, en]
  refine Ev.bind awake_ev ?_
  refine Ev.ip rfl ?_
  refine Ev.pb (left_ev x p (by omega) (by omega)) ?_
  refine Ev.pb (left_ev _ q (by omega) (by omega)) ?_
  refine Ev.pb (left_ev x (p + q : Nat) (by omega) (by omega)) ?_
  simp only [Int.toNat_natCast]
  refine Ev.ip (same (BitVec.shiftLeft_add x p q).symm) ?_
  refine Ev.pb (right_ev x p (by omega) (by omega)) ?_
  refine Ev.pb (right_ev _ q (by omega) (by omega)) ?_
  refine Ev.pb (right_ev x (p + q : Nat) (by omega) (by omega)) ?_
  simp only [Int.toNat_natCast]
  refine Ev.ip (same (BitVec.shiftRight_add x p q).symm) ?_
  refine Ev.pb (left_ev x 1 (by omega) (by omega)) ?_
  refine Ev.pb (add_ev x x) ?_
  refine Ev.ip (same (by
    apply BitVec.eq_of_toNat_eq
    rw [BitVec.toNat_shiftLeft, BitVec.toNat_add, Nat.shiftLeft_eq]
    congr 1
    show x.toNat * 2 = _
    omega)) ?_
  refine Ev.pb (left_ev x p (by omega) (by omega)) ?_
  refine Ev.pb (right_ev _ p (by omega) (by omega)) ?_
  refine Ev.pb (cut_ev x _) ?_
  simp only [Int.toNat_natCast]
  refine Ev.ip (same (right_left' x p hp)) ?_
  refine Ev.pb (right_ev x p (by omega) (by omega)) ?_
  refine Ev.pb (left_ev _ p (by omega) (by omega)) ?_
  refine Ev.pb (cut_ev x p) ?_
  refine Ev.pb (sub_ev _ _) ?_
  simp only [Int.toNat_natCast]
  refine Ev.ip (same (left_right x p)) ?_
  refine Ev.pb (left_ev x _ (by omega) (by omega)) ?_
  rw [ez, BitVec.shiftLeft_zero]
  refine Ev.ip (same rfl) ?_
  refine Ev.pb (right_ev x _ (by omega) (by omega)) ?_
  rw [ez, BitVec.ushiftRight_zero, same rfl]
  exact Ev.now _
end Go.Proofs.Ytmplgmlfpfopbaa.Pure
