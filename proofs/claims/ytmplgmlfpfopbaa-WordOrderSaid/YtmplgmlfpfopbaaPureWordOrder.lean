/- WordOrder: Compare is that of the texts, byte by byte; turned about it is turned; a word is not above another one, if it lacks bits of that alone; a sum that is below a part of it has gone round, and so has the other part. No condition. -/
import Derived.Test.YtmplgmlfpfopbaaMLenO
import Derived.Test.YtmplgmlfpfopbaaMLaws
import Derived.Test.YtmplgmlfpfopbaaMText
import Derived.Test.YtmplgmlfpfopbaaPWordOx6
set_option linter.unusedVariables false
set_option linter.unusedSimpArgs false
namespace Go.Proofs.Ytmplgmlfpfopbaa.Pure
open Go.RowKit Go.Proofs.Ytmplgmlfpfopbaa.PWordO Go.Proofs.Ytmplgmlfpfopbaa.MBits Go.Proofs.Ytmplgmlfpfopbaa.MLaws Go.Proofs.Ytmplgmlfpfopbaa.MText Go.Proofs.Ytmplgmlfpfopbaa.MWordO Go.Proofs.YtmplgmlfpfopbaaW.PrintWords Go.Proofs.YtmplgmlfpfopbaaW.PrintLast Go.Proofs.YtmplgmlfpfopbaaW.PrintMore

theorem row_ev (x : W) : ∀ n, n ≤ 16 → word_Text.row (hi x) (lo x) n = some ((List.range n).map fun i => (byteN x.toNat i : Int)) := by
  intro n
  induction n with
  | zero => intro _; rfl
  | succ n ih =>
    intro h
    unfold word_Text.row
    have e : (128 : Int) - 8 * ((n : Int) + 1) = ((120 - 8 * n : Nat) : Int) := by omega
    rw [ih (by omega), e, Option.bind_some, right_ev x _ (by omega) (by omega), Option.bind_some, Int.toNat_natCast]
    simp only
    rw [lo_byte x n (by omega), List.range_succ, List.map_append]; rfl
theorem text_ev (x : W) : word_Text.f (hi x) (lo x) = some (tx x) := by
  unfold word_Text.f
  rw [row_ev x 16 (Nat.le_refl _), Option.bind_some]
  congr 1
def cmp (x y : W) : Int := if x.toNat = y.toNat then 0 else if x.toNat < y.toNat then -1 else 1
theorem cmp_ev (x y : W) : word_Compare.f (hi x) (lo x) (hi y) (lo y) = some (cmp x y) := by
  unfold word_Compare.f cmp
  congr 1
  have := toNat_eq x; have := toNat_eq y; have := loN_lt x; have := loN_lt y
  unfold hi lo
  rcases Nat.lt_trichotomy x.toNat y.toNat with h | h | h
  · have c1 : ¬ ((hiN x : Int) = (hiN y : Int) ∧ (loN x : Int) = (loN y : Int)) := by omega
    have c2 : (hiN x : Int) < (hiN y : Int) ∨ (hiN x : Int) = (hiN y : Int) ∧ (loN x : Int) < (loN y : Int) := by omega
    have c3 : ¬ x.toNat = y.toNat := by omega
    rw [if_neg c1, if_pos c2, if_neg c3, if_pos h]
  · have c1 : (hiN x : Int) = (hiN y : Int) ∧ (loN x : Int) = (loN y : Int) := by omega
    rw [if_pos c1, if_pos h]
  · have c1 : ¬ ((hiN x : Int) = (hiN y : Int) ∧ (loN x : Int) = (loN y : Int)) := by omega
    have c2 : ¬ ((hiN x : Int) < (hiN y : Int) ∨ (hiN x : Int) = (hiN y : Int) ∧ (loN x : Int) < (loN y : Int)) := by omega
    have c3 : ¬ x.toNat = y.toNat := by omega
    have c4 : ¬ x.toNat < y.toNat := by omega
    rw [if_neg c1, if_neg c2, if_neg c3, if_neg c4]
theorem order_j1 (x y : W) (c : Int) (hc : c = cmp x y) : Ev (fun k => turnoutlaw01_WordOrder.j1 k (tx x) c (hi x) (lo x) (hi y) (lo y)) true := by
  refine Ev.step (f := _) (fun k => by rw [turnoutlaw01_WordOrder.j1]) ?_
  refine Ev.pb (and_ev x y) ?_
  refine Ev.pb (add_ev x y) ?_
  refine Ev.bind awake_ev ?_
  refine Ev.ip rfl ?_
  refine Ev.ip (by rw [tx_size]; rfl) ?_
  refine Ev.pb (cmp_ev x y) ?_
  refine Ev.ip hc.symm ?_
  refine Ev.pb (cmp_ev y x) ?_
  have hn : cmp y x = wrap64 (-c) := by
    rw [hc]; unfold cmp
    rcases Nat.lt_trichotomy x.toNat y.toNat with h | h | h
    · rw [if_neg (by omega), if_neg (by omega), if_neg (by omega), if_pos h, w64 (by omega) (by omega)]; rfl
    · rw [if_pos h.symm, if_pos h, w64 (by omega) (by omega)]; rfl
    · rw [if_neg (by omega), if_pos h, if_neg (by omega), if_neg (by omega), w64 (by omega) (by omega)]
  have h0 : (c == 0) = (x == y) := by
    rw [Bool.eq_iff_iff, beq_iff_eq, beq_iff_eq, hc]; unfold cmp
    constructor
    · intro h
      split at h
      · rename_i h1; exact BitVec.eq_of_toNat_eq h1
      · split at h <;> omega
    · intro h; rw [h, if_pos rfl]
  refine Ev.ip hn ?_
  refine Ev.ip (by rw [beq2, h0, beq_self_eq_true]) ?_
  refine Ev.pb (cmp_ev _ _) ?_
  have ha : (x &&& y).toNat ≤ x.toNat := by rw [BitVec.toNat_and]; exact Nat.and_le_left
  have ho : y.toNat ≤ (x ||| y).toNat := by rw [BitVec.toNat_or]; exact Nat.right_le_or
  refine Ev.ip (by unfold cmp; split <;> (try split) <;> omega) ?_
  refine Ev.pb (or_ev x y) ?_
  refine Ev.pb (cmp_ev _ _) ?_
  refine Ev.ip (by unfold cmp; split <;> (try split) <;> omega) ?_
  refine Ev.pb (cmp_ev _ _) ?_
  refine Ev.pb (cmp_ev _ _) ?_
  have hadd := add_toNat x y
  have hx := x.isLt; have hy := y.isLt
  have hneg : ∀ u v : W, decide (cmp u v < 0) = decide (u.toNat < v.toNat) := by
    intro u v
    rw [decide_eq_decide]; unfold cmp
    constructor
    · intro h; split at h
      · omega
      · split at h <;> omega
    · intro h; rw [if_neg (by omega), if_pos h]; omega
  refine Ev.ip ?_ ?_
  · show (decide (cmp (x + y) x < 0) == decide (cmp (x + y) y < 0)) = true
    rw [hneg, hneg, beq_iff_eq, decide_eq_decide, hadd]
    omega
  refine Ev.pb (sub_ev x y) ?_
  refine Ev.bind (size_ev (x - y)) ?_
  have hz : ((len (x - y).toNat : Nat) : Int) == 0 ↔ (x == y) = true := by
    have hs := sub_toNat x y
    have hl := len_le (x - y).toNat 0
    rw [beq_iff_eq, beq_iff_eq]
    constructor
    · intro h
      have : (x - y).toNat < 2 ^ 0 := hl.1 (by omega)
      apply BitVec.eq_of_toNat_eq; omega
    · intro h
      subst h
      have : len (x - x).toNat ≤ 0 := hl.2 (by omega)
      omega
  have hz2 : (((len (x - y).toNat : Nat) : Int) == 0) = (x == y) := Bool.eq_iff_iff.2 hz
  show Ev (fun _ => some ((c == 0) == (((len (x - y).toNat : Nat) : Int) == 0))) true
  rw [hz2, h0, beq_self_eq_true]
  exact Ev.now _
theorem WordOrder : turnoutlaw01_WordOrder.Pure := by
  refine ⟨fun a0 a1 b0 b1 ha0 ha1 hb0 hb1 => ?_, awake_only⟩
  obtain ⟨x, rfl, rfl⟩ := halves _ _ (bounds_u64 ha0) (bounds_u64 ha1)
  obtain ⟨y, rfl, rfl⟩ := halves _ _ (bounds_u64 hb0) (bounds_u64 hb1)
  apply Ev.rounds
  unfold turnoutlaw01_WordOrder.f
  refine Ev.pb (text_ev x) ?_
  refine Ev.pb (text_ev y) ?_
  rcases Nat.lt_trichotomy x.toNat y.toNat with h | h | h
  · refine Ev.ip (by rw [tx_less]; exact decide_eq_true h) ?_
    refine Ev.step (f := _) (fun k => by rw [turnoutlaw01_WordOrder.j0]) ?_
    refine Ev.in (by rw [tx_less, decide_eq_true_eq]; omega) ?_
    exact order_j1 x y _ (by unfold cmp; rw [if_neg (by omega), if_pos h])
  · refine Ev.in (by rw [tx_less, decide_eq_true_eq]; omega) ?_
    refine Ev.step (f := _) (fun k => by rw [turnoutlaw01_WordOrder.j0]) ?_
    refine Ev.in (by rw [tx_less, decide_eq_true_eq]; omega) ?_
    exact order_j1 x y _ (by unfold cmp; rw [if_pos h])
  · refine Ev.in (by rw [tx_less, decide_eq_true_eq]; omega) ?_
    refine Ev.step (f := _) (fun k => by rw [turnoutlaw01_WordOrder.j0]) ?_
    refine Ev.ip (by rw [tx_less]; exact decide_eq_true h) ?_
    exact order_j1 x y _ (by unfold cmp; rw [if_neg (by omega), if_neg (by omega)])
end Go.Proofs.Ytmplgmlfpfopbaa.Pure
