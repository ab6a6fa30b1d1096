/- WordSums: for every two words and every number of 64 bits: the sum and the difference of the words are the document's. No condition. -/
import Derived.Test.YtmplgmlfpfopbaaMRef
import Derived.Test.YtmplgmlfpfopbaaMLaws
import Derived.Test.YtmplgmlfpfopbaaPWordx6
set_option linter.unusedVariables false
set_option linter.unusedSimpArgs false
namespace Go.Proofs.Ytmplgmlfpfopbaa.Pure
open Go.RowKit Go.Proofs.Ytmplgmlfpfopbaa.PWord Go.Proofs.Ytmplgmlfpfopbaa.MBits Go.Proofs.Ytmplgmlfpfopbaa.MLaws Go.Proofs.Ytmplgmlfpfopbaa.MWord Go.Proofs.YtmplgmlfpfopbaaW.PrintWords Go.Proofs.YtmplgmlfpfopbaaW.PrintLast Go.Proofs.YtmplgmlfpfopbaaW.PrintMore

theorem WordSums : turnoutlaw01_WordSums.Pure := by
  refine ⟨fun a0 a1 b0 b1 n ha0 ha1 hb0 hb1 hn => ?_, awake_only⟩
  obtain ⟨x, rfl, rfl⟩ := halves _ _ (bounds_u64 ha0) (bounds_u64 ha1)
  obtain ⟨y, rfl, rfl⟩ := halves _ _ (bounds_u64 hb0) (bounds_u64 hb1)
  apply Ev.rounds
  unfold turnoutlaw01_WordSums.f
  refine Ev.pb (a := (0, n)) rfl ?_
  refine Ev.pb (a := (0, n)) rfl ?_
  refine Ev.ip (by simp) ?_
  refine Ev.pb (add_ev x y) ?_
  refine Ev.bind (radd_ev x y) ?_
  refine Ev.ip (same rfl) ?_
  refine Ev.pb (sub_ev x y) ?_
  refine Ev.bind (rsub_ev x y) ?_
  refine Ev.ip (same rfl) ?_
  refine Ev.pb (sub_ev y x) ?_
  refine Ev.bind (rsub_ev y x) ?_
  refine Ev.ip (same rfl) ?_
  exact Ev.bind awake_ev (Ev.now _)
end Go.Proofs.Ytmplgmlfpfopbaa.Pure
