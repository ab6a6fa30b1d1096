/- WordTexts: for every word and every text: the word's text, and the word of the text, are the document's, or it is refused. No condition. -/
import Derived.Test.YtmplgmlfpfopbaaMTextT
set_option linter.unusedVariables false
set_option linter.unusedSimpArgs false
namespace Go.Proofs.Ytmplgmlfpfopbaa.Pure
open Go.RowKit Go.Proofs.Ytmplgmlfpfopbaa.PWordT Go.Proofs.Ytmplgmlfpfopbaa.MBits Go.Proofs.Ytmplgmlfpfopbaa.MText Go.Proofs.Ytmplgmlfpfopbaa.MWordT Go.Proofs.YtmplgmlfpfopbaaW.PrintWords Go.Proofs.YtmplgmlfpfopbaaW.PrintLast Go.Proofs.YtmplgmlfpfopbaaW.PrintMore

theorem WordTexts : turnoutlaw01_WordTexts.Pure := by
  refine ⟨fun a0 a1 s ha0 ha1 hs => ?_, awake_only⟩
  obtain ⟨x, rfl, rfl⟩ := halves _ _ (bounds_u64 ha0) (bounds_u64 ha1)
  apply Ev.rounds
  unfold turnoutlaw01_WordTexts.f
  by_cases h : (s.size : Int) > 20000
  · exact Ev.ip h (Ev.bind awake_ev (Ev.now _))
  · refine Ev.in h ?_
    by_cases h16 : s.size ≤ 16
    · refine Ev.bind (of_ev s h16) ?_
      refine Ev.bind (rof_ev s h16) ?_
      refine Ev.pb (text_ev x) ?_
      refine Ev.bind (rtext_ev x) ?_
      refine Ev.ip rfl ?_
      refine Ev.ip (by simp) ?_
      refine Ev.ip rfl ?_
      exact Ev.bind awake_ev (Ev.now _)
    · refine Ev.bind (of_long s (by omega)) ?_
      refine Ev.bind (rof_long s (by omega)) ?_
      refine Ev.pb (text_ev x) ?_
      refine Ev.bind (rtext_ev x) ?_
      refine Ev.ip rfl ?_
      refine Ev.ip (by simp) ?_
      refine Ev.ip rfl ?_
      exact Ev.bind awake_ev (Ev.now _)
end Go.Proofs.Ytmplgmlfpfopbaa.Pure
