/- WordRing: for every three words: Add does not hang on the row, nor on which two are put together first; 0 changes nothing; Sub undoes Add, and is Add of Not and 1. No condition. -/
import Derived.Test.YtmplgmlfpfopbaaMLen
import Derived.Test.YtmplgmlfpfopbaaPWordx7
set_option linter.unusedVariables false
set_option linter.unusedSimpArgs false
namespace Go.Proofs.Ytmplgmlfpfopbaa.Pure
open Go.RowKit Go.Proofs.Ytmplgmlfpfopbaa.PWord Go.Proofs.Ytmplgmlfpfopbaa.MBits Go.Proofs.Ytmplgmlfpfopbaa.MWord Go.Proofs.YtmplgmlfpfopbaaW.PrintWords Go.Proofs.YtmplgmlfpfopbaaW.PrintLast Go.Proofs.YtmplgmlfpfopbaaW.PrintMore

theorem same {x y : W} (h : x = y) : ((hi x == hi y) && (lo x == lo y)) = true := by rw [beq2, h, beq_self_eq_true]
theorem WordRing : turnoutlaw01_WordRing.Pure := by
  refine ⟨fun a0 a1 b0 b1 c0 c1 ha0 ha1 hb0 hb1 hc0 hc1 => ?_, awake_only⟩
  obtain ⟨x, rfl, rfl⟩ := halves _ _ (bounds_u64 ha0) (bounds_u64 ha1)
  obtain ⟨y, rfl, rfl⟩ := halves _ _ (bounds_u64 hb0) (bounds_u64 hb1)
  obtain ⟨z, rfl, rfl⟩ := halves _ _ (bounds_u64 hc0) (bounds_u64 hc1)
  apply Ev.rounds
  unfold turnoutlaw01_WordRing.f
  have n1 : word_New.f 1 = some (hi 1#128, lo 1#128) := rfl
  refine Ev.pb (add_ev x y) ?_
  refine Ev.bind awake_ev ?_
  refine Ev.ip rfl ?_
  refine Ev.pb (add_ev y x) ?_
  refine Ev.ip (same (BitVec.add_comm x y)) ?_
  refine Ev.pb (add_ev (x + y) z) ?_
  refine Ev.pb (add_ev y z) ?_
  refine Ev.pb (add_ev x (y + z)) ?_
  refine Ev.ip (same (BitVec.add_assoc x y z)) ?_
  refine Ev.pb (a := (hi (x + 0#128), lo (x + 0#128))) (by have := add_ev x 0#128; rwa [zero_hi, zero_lo] at this) ?_
  refine Ev.ip (same (BitVec.add_zero x)) ?_
  refine Ev.pb (sub_ev (x + y) y) ?_
  refine Ev.ip (same (BitVec.add_sub_cancel x y)) ?_
  refine Ev.pb (sub_ev x y) ?_
  refine Ev.pb (add_ev (x - y) y) ?_
  refine Ev.ip (same (BitVec.sub_add_cancel x y)) ?_
  refine Ev.pb (sub_ev x y) ?_
  refine Ev.pb (not_ev y) ?_
  refine Ev.pb n1 ?_
  refine Ev.pb (add_ev (~~~y) 1#128) ?_
  refine Ev.pb (add_ev x (~~~y + 1#128)) ?_
  refine Ev.ip (same (by rw [BitVec.sub_eq_add_neg, BitVec.neg_eq_not_add])) ?_
  refine Ev.pb (sub_ev x x) ?_
  refine Ev.ip (by have := same (BitVec.sub_self x); rwa [zero_hi, zero_lo] at this) ?_
  refine Ev.pb (not_ev x) ?_
  refine Ev.pb (not_ev (~~~x)) ?_
  refine Ev.ip (same (BitVec.not_not)) ?_
  refine Ev.pb (not_ev x) ?_
  refine Ev.pb (add_ev x (~~~x)) ?_
  refine Ev.pb (mask_ev 128) ?_
  have e : x + ~~~x = mask 128 := by
    have h1 : mask 128 = BitVec.allOnes 128 := by decide
    rw [h1]
    exact BitVec.add_not_self x
  rw [same e]
  exact Ev.now _
end Go.Proofs.Ytmplgmlfpfopbaa.Pure
