/- SumWords: for every three numbers of 16 bits, Add and Update answer as the document's. No condition. -/
import Derived.Test.YtieopkigfbnhcaaMSum
namespace Go.Proofs.Ytieopkigfbnhcaa.Pure
open Go.RowKit Go.Proofs.Ytieopkigfbnhcaa.PSum Go.Proofs.Ytieopkigfbnhcaa.MSum Go.Proofs.YtieopkigfbnhcaaW.PrintWords Go.Proofs.YtieopkigfbnhcaaW.PrintLast

theorem SumWords : turnoutlaw03_SumWords.Pure := by
  intro a b c ha hb hc
  have ha := bounds_u16 ha
  have hb := bounds_u16 hb
  have hc := bounds_u16 hc
  apply Ev.rounds
  unfold turnoutlaw03_SumWords.f
  refine Ev.bind (sum_add ha.1 (by omega) hb.1 (by omega)) ?_
  rw [ref_add ha.1 (by omega) hb.1 (by omega), ref_upd ha.1 (by omega) hb.1 (by omega) hc.1 (by omega)]
  simp only [Option.bind_some, if_true]
  refine Ev.bind (sum_upd ha.1 (by omega) hb.1 (by omega) hc.1 (by omega)) ?_
  simp only [if_true]
  exact Ev.bind awake_ev (Ev.now _)
end Go.Proofs.Ytieopkigfbnhcaa.Pure
