/- WordTells: how any two words compare, each mask, what any word is cut to, and its size, are the document's. No condition. -/
import Derived.Test.YtmplgmlfpfopbaaMRefK
import Derived.Test.YtmplgmlfpfopbaaPWordKx11
set_option linter.unusedVariables false
set_option linter.unusedSimpArgs false
namespace Go.Proofs.Ytmplgmlfpfopbaa.Pure
open Go.RowKit Go.Proofs.Ytmplgmlfpfopbaa.PWordK Go.Proofs.Ytmplgmlfpfopbaa.MBits Go.Proofs.Ytmplgmlfpfopbaa.MTab Go.Proofs.Ytmplgmlfpfopbaa.MWordK Go.Proofs.YtmplgmlfpfopbaaW.PrintWords Go.Proofs.YtmplgmlfpfopbaaW.PrintLast Go.Proofs.YtmplgmlfpfopbaaW.PrintMore

theorem same (x : W) : ((hi x == hi x) && (lo x == lo x)) = true := by simp
theorem cmp_ev (x y : W) : word_Compare.f (hi x) (lo x) (hi y) (lo y) = some (cmp x y) := by
  unfold word_Compare.f cmp
  congr 1
  have := toNat_eq x; have := toNat_eq y; have := loN_lt x; have := loN_lt y
  unfold hi lo
  rcases Nat.lt_trichotomy x.toNat y.toNat with h | h | h
  · have c1 : ¬ ((hiN x : Int) = (hiN y : Int) ∧ (loN x : Int) = (loN y : Int)) := by omega
    have c2 : (hiN x : Int) < (hiN y : Int) ∨ (hiN x : Int) = (hiN y : Int) ∧ (loN x : Int) < (loN y : Int) := by omega
    have c3 : ¬ x.toNat = y.toNat := by omega
    rw [if_neg c1, if_pos c2, if_neg c3, if_pos h]
  · have c1 : (hiN x : Int) = (hiN y : Int) ∧ (loN x : Int) = (loN y : Int) := by omega
    rw [if_pos c1, if_pos h]
  · have c1 : ¬ ((hiN x : Int) = (hiN y : Int) ∧ (loN x : Int) = (loN y : Int)) := by omega
    have c2 : ¬ ((hiN x : Int) < (hiN y : Int) ∨ (hiN x : Int) = (hiN y : Int) ∧ (loN x : Int) < (loN y : Int)) := by omega
    have c3 : ¬ x.toNat = y.toNat := by omega
    have c4 : ¬ x.toNat < y.toNat := by omega
    rw [if_neg c1, if_neg c2, if_neg c3, if_neg c4]
theorem WordTells : turnoutlaw01_WordTells.Pure := by
  refine ⟨fun a0 a1 b0 b1 n ha0 ha1 hb0 hb1 hn => ?_, awake_only⟩
  obtain ⟨x, rfl, rfl⟩ := halves _ _ (bounds_u64 ha0) (bounds_u64 ha1)
  obtain ⟨y, rfl, rfl⟩ := halves _ _ (bounds_u64 hb0) (bounds_u64 hb1)
  apply Ev.rounds
  unfold turnoutlaw01_WordTells.f
  refine Ev.pb (cmp_ev x y) ?_
  refine Ev.bind (rcmp_ev x y) ?_
  refine Ev.ip rfl ?_
  refine Ev.pb (mask_ev n) ?_
  refine Ev.bind (rmask_ev n) ?_
  refine Ev.ip (same _) ?_
  refine Ev.pb (cut_ev x n) ?_
  refine Ev.bind (rcut_ev x n) ?_
  refine Ev.ip (same _) ?_
  refine Ev.bind (size_ev x) ?_
  refine Ev.bind (rsize_ev x) ?_
  refine Ev.ip rfl ?_
  exact Ev.bind awake_ev (Ev.now _)
end Go.Proofs.Ytmplgmlfpfopbaa.Pure
