/- FieldPuts: what any text becomes, when any word is put into any field of it, is the document's. -/
import Derived.Test.YtgpahhobifdapaaMPut
import Derived.Test.YtgpahhobifdapaaPFieldx7
set_option linter.unusedVariables false
set_option linter.unusedSimpArgs false
namespace Go.Proofs.Ytgpahhobifdapaa.Pure
open Go.RowKit Go.Proofs.Ytgpahhobifdapaa.PField Go.Proofs.Ytgpahhobifdapaa.MBits Go.Proofs.Ytgpahhobifdapaa.MWord Go.Proofs.Ytgpahhobifdapaa.MField Go.Proofs.Ytgpahhobifdapaa.MPut Go.Proofs.YtgpahhobifdapaaW.PrintWords Go.Proofs.YtgpahhobifdapaaW.PrintLast

theorem FieldPuts : turnoutlaw02_FieldPuts.Pure := by
  refine ⟨fun s o n w0 w1 hs ho hn h0 h1 => ?_, awake_only⟩
  apply Ev.rounds
  unfold turnoutlaw02_FieldPuts.f
  obtain ⟨x, rfl, rfl⟩ := halves w0 w1 (bounds_u64 h0) (bounds_u64 h1)
  by_cases h : (s.size : Int) > 3000
  · exact Ev.ip h (Ev.bind awake_ev (Ev.now _))
  · refine Ev.in h ?_
    by_cases hm : may s o n = 0
    · obtain ⟨o, n, rfl, rfl, h1, h2, h3⟩ := may_zero hm
      refine Ev.bind (put_ok s o n x h1 h2 h3 hs) ?_
      refine Ev.bind (rput_ok s o n x h1 h2 h3 hs) ?_
      refine Ev.ip rfl ?_
      refine Ev.ip rfl ?_
      exact Ev.bind awake_ev (Ev.now _)
    · refine Ev.bind (put_bad s o n _ _ hs hm) ?_
      refine Ev.bind (rput_bad s o n _ _ hs hm) ?_
      refine Ev.ip rfl ?_
      refine Ev.ip rfl ?_
      exact Ev.bind awake_ev (Ev.now _)

end Go.Proofs.Ytgpahhobifdapaa.Pure
