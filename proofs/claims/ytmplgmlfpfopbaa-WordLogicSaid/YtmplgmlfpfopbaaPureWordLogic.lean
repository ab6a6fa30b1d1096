/- WordLogic: for every three words: Add is Xor and twice And; Or is Xor of Xor and And; Not of And is Or of both Nots; Xor by a word twice changes nothing. No condition. -/
import Derived.Test.YtmplgmlfpfopbaaMLenB
import Derived.Test.YtmplgmlfpfopbaaMLaws
import Derived.Test.YtmplgmlfpfopbaaPWordBx5
set_option linter.unusedVariables false
set_option linter.unusedSimpArgs false
namespace Go.Proofs.Ytmplgmlfpfopbaa.Pure
open Go.RowKit Go.Proofs.Ytmplgmlfpfopbaa.PWordB Go.Proofs.Ytmplgmlfpfopbaa.MBits Go.Proofs.Ytmplgmlfpfopbaa.MLaws Go.Proofs.Ytmplgmlfpfopbaa.MWordB Go.Proofs.YtmplgmlfpfopbaaW.PrintWords Go.Proofs.YtmplgmlfpfopbaaW.PrintLast Go.Proofs.YtmplgmlfpfopbaaW.PrintMore

theorem xor_ev (x y : W) : word_Xor.f (hi x) (lo x) (hi y) (lo y) = some (hi (x ^^^ y), lo (x ^^^ y)) := by
  unfold word_Xor.f; rw [xor_hi, xor_lo]
theorem cmp_le (x y : W) (h : x.toNat ≤ y.toNat) : ∃ r, word_Compare.f (hi x) (lo x) (hi y) (lo y) = some r ∧ r ≤ 0 := by
  unfold word_Compare.f
  refine ⟨_, rfl, ?_⟩
  have := toNat_eq x; have := toNat_eq y; have := loN_lt x; have := loN_lt y
  unfold hi lo
  split
  · omega
  · split
    · omega
    · omega

theorem WordLogic : turnoutlaw01_WordLogic.Pure := by
  refine ⟨fun a0 a1 b0 b1 c0 c1 ha0 ha1 hb0 hb1 hc0 hc1 => ?_, awake_only⟩
  obtain ⟨x, rfl, rfl⟩ := halves _ _ (bounds_u64 ha0) (bounds_u64 ha1)
  obtain ⟨y, rfl, rfl⟩ := halves _ _ (bounds_u64 hb0) (bounds_u64 hb1)
  obtain ⟨z, rfl, rfl⟩ := halves _ _ (bounds_u64 hc0) (bounds_u64 hc1)
  apply Ev.rounds
  unfold turnoutlaw01_WordLogic.f
  refine Ev.pb (xor_ev x y) ?_
  refine Ev.pb (and_ev x y) ?_
  refine Ev.bind awake_ev ?_
  refine Ev.ip rfl ?_
  refine Ev.pb (add_ev x y) ?_
  refine Ev.pb (left_ev (x &&& y) 1 (by omega) (by omega)) ?_
  refine Ev.pb (add_ev _ _) ?_
  refine Ev.ip (same (add_bits x y)) ?_
  refine Ev.pb (or_ev x y) ?_
  refine Ev.pb (xor_ev _ _) ?_
  refine Ev.ip (same (or_xor x y)) ?_
  refine Ev.pb (not_ev _) ?_
  refine Ev.pb (not_ev _) ?_
  refine Ev.pb (not_ev _) ?_
  refine Ev.pb (or_ev _ _) ?_
  refine Ev.ip (same (not_and x y)) ?_
  refine Ev.pb (xor_ev _ _) ?_
  refine Ev.ip (same (xor_xor x y)) ?_
  refine Ev.pb (or_ev _ _) ?_
  refine Ev.pb (and_ev _ _) ?_
  refine Ev.pb (and_ev _ _) ?_
  refine Ev.pb (or_ev _ _) ?_
  refine Ev.ip (same (and_or x y z)) ?_
  refine Ev.pb (or_ev _ _) ?_
  refine Ev.pb (sub_ev _ _) ?_
  refine Ev.pb (not_ev _) ?_
  refine Ev.pb (and_ev _ _) ?_
  refine Ev.ip (same (or_sub x y)) ?_
  refine Ev.pb (or_ev _ _) ?_
  obtain ⟨r, hr, hr0⟩ := cmp_le (x &&& y) (x ||| y) (by rw [BitVec.toNat_and, BitVec.toNat_or]; exact Nat.le_trans Nat.and_le_left Nat.left_le_or)
  refine Ev.pb hr ?_
  rw [decide_eq_true hr0]
  exact Ev.now _
end Go.Proofs.Ytmplgmlfpfopbaa.Pure
