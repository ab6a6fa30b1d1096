/- WordCut: for every two words and two widths: what is cut is not above its Mask, and of that Size at most; cut, sums, differences, and all that goes bit by bit, of words that were cut ahead are those of the words. No condition. -/
import Derived.Test.YtmplgmlfpfopbaaMLenC
import Derived.Test.YtmplgmlfpfopbaaMLaws
import Derived.Test.YtmplgmlfpfopbaaPWordCx6
set_option linter.unusedVariables false
set_option linter.unusedSimpArgs false
namespace Go.Proofs.Ytmplgmlfpfopbaa.Pure
open Go.RowKit Go.Proofs.Ytmplgmlfpfopbaa.PWordC Go.Proofs.Ytmplgmlfpfopbaa.MBits Go.Proofs.Ytmplgmlfpfopbaa.MLaws Go.Proofs.Ytmplgmlfpfopbaa.MWordC Go.Proofs.YtmplgmlfpfopbaaW.PrintWords Go.Proofs.YtmplgmlfpfopbaaW.PrintLast Go.Proofs.YtmplgmlfpfopbaaW.PrintMore

theorem xor_ev (x y : W) : word_Xor.f (hi x) (lo x) (hi y) (lo y) = some (hi (x ^^^ y), lo (x ^^^ y)) := by
  unfold word_Xor.f; rw [xor_hi, xor_lo]
theorem cmp_le (x y : W) (h : x.toNat ≤ y.toNat) : ∃ r, word_Compare.f (hi x) (lo x) (hi y) (lo y) = some r ∧ r ≤ 0 := by
  unfold word_Compare.f
  refine ⟨_, rfl, ?_⟩
  have := toNat_eq x; have := toNat_eq y; have := loN_lt x; have := loN_lt y
  unfold hi lo
  split
  · omega
  · split
    · omega
    · omega
theorem amount (n : Int) : ∃ m : Nat, m < 131 ∧ wrap64 (Int.tmod (IntKind.u64.wrap n) 131) = (m : Int) := by
  rw [IntKind.wrap_u64, Int.tmod_eq_emod_of_nonneg (by omega), w64 (by omega) (by omega)]
  exact ⟨(n % 18446744073709551616 % 131).toNat, by omega, by omega⟩
theorem mask_msk (n : Nat) : mask (n : Int) = msk n := rfl
theorem cutn (x : W) (n : Nat) : word_Cut.f (hi x) (lo x) (n : Int) = some (hi (x &&& msk n), lo (x &&& msk n)) := cut_ev x n
theorem maskn (n : Nat) : word_Mask.f (n : Int) = some (hi (msk n), lo (msk n)) := mask_ev n

theorem cut_j0 (x y : W) (n : Nat) (hn : n < 131) : Ev (fun k => turnoutlaw01_WordCut.j0 k (n : Int) false (hi x) (lo x) (hi y) (lo y) (hi (x &&& msk n)) (lo (x &&& msk n)) (hi (y &&& msk n)) (lo (y &&& msk n))) true := by
  refine Ev.step (f := _) (fun k => by rw [turnoutlaw01_WordCut.j0]) ?_
  refine Ev.in (by decide) ?_
  refine Ev.pb (add_ev _ _) ?_
  refine Ev.pb (cutn _ n) ?_
  refine Ev.pb (add_ev _ _) ?_
  refine Ev.pb (cutn _ n) ?_
  refine Ev.ip (same (cut_add x y n)) ?_
  refine Ev.pb (sub_ev _ _) ?_
  refine Ev.pb (cutn _ n) ?_
  refine Ev.pb (sub_ev _ _) ?_
  refine Ev.pb (cutn _ n) ?_
  refine Ev.ip (same (cut_sub x y n)) ?_
  refine Ev.pb (xor_ev _ _) ?_
  refine Ev.pb (cutn _ n) ?_
  refine Ev.pb (xor_ev _ _) ?_
  refine Ev.ip (same (cut_xor x y n)) ?_
  refine Ev.pb (or_ev _ _) ?_
  refine Ev.pb (cutn _ n) ?_
  refine Ev.pb (or_ev _ _) ?_
  refine Ev.ip (same (cut_or x y n)) ?_
  refine Ev.pb (and_ev _ _) ?_
  refine Ev.pb (cutn _ n) ?_
  refine Ev.pb (and_ev _ _) ?_
  refine Ev.ip (same (cut_and x y n)) ?_
  refine Ev.pb (not_ev _) ?_
  refine Ev.pb (cutn _ n) ?_
  refine Ev.pb (not_ev _) ?_
  refine Ev.pb (cutn _ n) ?_
  refine Ev.ip (same (cut_not x n)) ?_
  refine Ev.bind (size_ev x) ?_
  have e : (decide (((len x.toNat : Nat) : Int) ≤ (n : Int)) == (hi (x &&& msk n) == hi x && lo (x &&& msk n) == lo x)) = true := by
    rw [beq2]
    have h1 : decide (((len x.toNat : Nat) : Int) ≤ (n : Int)) = decide (x.toNat < 2 ^ n) := by
      rw [Bool.eq_iff_iff, decide_eq_true_eq, decide_eq_true_eq, ← len_le]; omega
    have h2 : ((x &&& msk n) == x) = decide (x.toNat < 2 ^ n) := by
      rw [Bool.eq_iff_iff, beq_iff_eq, decide_eq_true_eq, cut_same]
    rw [h1, h2, beq_self_eq_true]
  rw [e]
  exact Ev.now _

theorem WordCut : turnoutlaw01_WordCut.Pure := by
  refine ⟨fun a0 a1 b0 b1 n m ha0 ha1 hb0 hb1 hn hm => ?_, awake_only⟩
  obtain ⟨x, rfl, rfl⟩ := halves _ _ (bounds_u64 ha0) (bounds_u64 ha1)
  obtain ⟨y, rfl, rfl⟩ := halves _ _ (bounds_u64 hb0) (bounds_u64 hb1)
  apply Ev.rounds
  unfold turnoutlaw01_WordCut.f
  obtain ⟨p, hp, ep⟩ := amount n
  obtain ⟨q, hq, eq⟩ := amount m
  have em : mn (p : Int) (q : Int) = ((min p q : Nat) : Int) := by unfold mn; split <;> omega
  rw [ep, eq, em]
  refine Ev.pb (cutn x p) ?_
  refine Ev.pb (cutn y p) ?_
  refine Ev.bind awake_ev ?_
  refine Ev.ip rfl ?_
  refine Ev.pb (maskn p) ?_
  obtain ⟨r, hr, hr0⟩ := cmp_le (x &&& msk p) (msk p) (by rw [BitVec.toNat_and]; exact Nat.and_le_right)
  refine Ev.pb hr ?_
  refine Ev.in (by omega) ?_
  refine Ev.bind (size_ev _) ?_
  have hl := (len_le _ _).2 (cut_lt x p)
  refine Ev.in (by omega) ?_
  refine Ev.pb (cutn _ p) ?_
  have e1 : (x &&& msk p) &&& msk p = x &&& msk p := by rw [cut_cut, Nat.min_self]
  refine Ev.in (by rw [other e1]; decide) ?_
  refine Ev.pb (cutn _ q) ?_
  refine Ev.pb (cutn _ p) ?_
  refine Ev.pb (cutn x (min p q)) ?_
  rw [other (cut_cut x p q)]
  exact cut_j0 x y p hp
end Go.Proofs.Ytmplgmlfpfopbaa.Pure
