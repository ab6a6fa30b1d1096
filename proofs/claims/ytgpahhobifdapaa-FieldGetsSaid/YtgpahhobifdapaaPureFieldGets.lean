/- FieldGets: the number that any field is, is the document's. -/
import Derived.Test.YtgpahhobifdapaaMField
set_option linter.unusedVariables false
set_option linter.unusedSimpArgs false
namespace Go.Proofs.Ytgpahhobifdapaa.Pure
open Go.RowKit Go.Proofs.Ytgpahhobifdapaa.PField Go.Proofs.Ytgpahhobifdapaa.MBits Go.Proofs.Ytgpahhobifdapaa.MWord Go.Proofs.Ytgpahhobifdapaa.MField Go.Proofs.YtgpahhobifdapaaW.PrintWords Go.Proofs.YtgpahhobifdapaaW.PrintLast

theorem FieldGets : turnoutlaw02_FieldGets.Pure := by
  refine ⟨fun s o n hs ho hn => ?_, awake_only⟩
  apply Ev.rounds
  unfold turnoutlaw02_FieldGets.f
  by_cases h : (s.size : Int) > 3000
  · exact Ev.ip h (Ev.bind awake_ev (Ev.now _))
  · refine Ev.in h ?_
    by_cases hm : may s o n = 0
    · obtain ⟨o, n, rfl, rfl, h1, h2, h3⟩ := may_zero hm
      refine Ev.bind (get_ok s o n h1 h2 h3 hs) ?_
      refine Ev.bind (rget_ok s o n h1 h2 h3 hs) ?_
      refine Ev.ip (by rw [beq2, beq_self_eq_true]) ?_
      refine Ev.ip rfl ?_
      exact Ev.bind awake_ev (Ev.now _)
    · refine Ev.bind (get_bad s o n hs hm) ?_
      refine Ev.bind (rget_bad s o n hs hm) ?_
      refine Ev.ip rfl ?_
      refine Ev.ip rfl ?_
      exact Ev.bind awake_ev (Ev.now _)

end Go.Proofs.Ytgpahhobifdapaa.Pure
