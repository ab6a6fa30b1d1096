/- FieldNames: the examples, the limits, each error in its row. A closed statement: the kernel computes it. -/
import Derived.Test.YtgpahhobifdapaaPFieldx11
set_option linter.unusedVariables false
set_option linter.unusedSimpArgs false
set_option maxRecDepth 100000
namespace Go.Proofs.Ytgpahhobifdapaa.Pure
open Go.RowKit Go.Proofs.Ytgpahhobifdapaa.PField Go.Proofs.YtgpahhobifdapaaW.PrintWords Go.Proofs.YtgpahhobifdapaaW.PrintLast

theorem awake_at : turnoutlaw02_awake.f 60 = some true := by kernel_rfl
theorem awake_ev : Ev (fun k => turnoutlaw02_awake.f k) true := Ev.of (g := fun k => turnoutlaw02_awake.f k) turnoutlaw02_awake.mono awake_at
theorem awake_only : ∀ k r, turnoutlaw02_awake.f k = some r → r = true := by
  intro k r h
  obtain ⟨K, hK⟩ := awake_ev
  have h1 := at_rounds turnoutlaw02_awake.mono (Nat.le_max_right K k) h
  exact Option.some.inj (h1.symm.trans (hK _ (Nat.le_max_left K k)))
theorem names_at : turnoutlaw02_FieldNames.f 300 = some true := by kernel_rfl
theorem FieldNames : turnoutlaw02_FieldNames.Pure := ⟨⟨300, names_at⟩, awake_only⟩

end Go.Proofs.Ytgpahhobifdapaa.Pure
