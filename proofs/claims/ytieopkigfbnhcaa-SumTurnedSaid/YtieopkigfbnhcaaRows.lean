/-
  No cell of these rows narrows 'for every input' (looked for: loops, veiled, ifaces, maps, wideKeys, modest, calm, conditions, laid).
  DERIVED. THE GIVEN ROWS OF THIS SEAT. 9 by the template 'for every input the law returns true; each argument reads behind the call as it read before'; 0 by the template 'total and deterministic' (their statements: YtieopkigfbnhcaaTotals.lean).
  GIVEN WITH THE SEED: the statements are not yours to turn. If you find one false, say at which input.
  Laid BY PROGRAM, IN A SANDBOX (cutbox-rows.mjs): the forced cells as the released guide's own fill.sh prints them over the translation 9e0f68fd5bbc52c3… (all of the seat's roots in one cut). By AI agents, Wed Nov 11 2026. No macro, syntax, notation, axiom, sorry.
-/
import Derived.Test.YtieopkigfbnhcaaChecked
import GoSem.Claim
import GoSem.ClaimJoined
import GoSem.ClaimMapViews
import Derived.JoinedTies
import Derived.KernelRfl
namespace Go.Proofs.Ytieopkigfbnhcaa
/- THE CELL 'sum', in the pinned program and in every row, IS THE sha256 OF THE DUMP (.gsa) THAT YtieopkigfbnhcaaProg.lean LOADS. Nothing in Lean hashes anything: it is a label: what it is worth is what the hold of that sum in a sandbox is worth. -/
noncomputable def Try.pinned : Pinned := { name := "ytieopkigfbnhcaa", sum := "9e0f68fd5bbc52c3144b3e2b919518ec00f967483e2b4cfac8087d47374bfbac", checked := Try.checked }
namespace Rows
def none {H : Type} : Left H := { results := [], args := [] }

/-- 'turnoutlaw03.SumNames': WHATEVER THE INPUT: true; the input reads as it did. -/
def sumNamesSpec : ChangeSpec := { name := "sumNames", fn := fun _ => fun
  | [] => { results := [.lit (.bool true)], args := [] }
  | _ => none }
def sumNamesRow : OpenClaim := { program := "ytieopkigfbnhcaa", sum := "9e0f68fd5bbc52c3144b3e2b919518ec00f967483e2b4cfac8087d47374bfbac", func := "turnout/turnoutlaw03.SumNames", spec := "sumNames", apart := false }
def SumNamesSaid : Prop := sumNamesRow.holds Try.pinned (OpenSpec.ofChange sumNamesSpec)

/-- ITS FALSE NEIGHBOUR: 'it returns false'. Refute it at one input. -/
def sumNamesWrong : ChangeSpec := { name := "sumNames", fn := fun _ => fun
  | [] => { results := [.lit (.bool false)], args := [] }
  | _ => none }
def SumNamesWrongFalsely : Prop := sumNamesRow.holds Try.pinned (OpenSpec.ofChange sumNamesWrong)

/-- 'turnoutlaw03.SumTells': WHATEVER THE INPUT: true; the input reads as it did. -/
def sumTellsSpec : ChangeSpec := { name := "sumTells", fn := fun _ => fun
  | [d] => { results := [.lit (.bool true)], args := [d] }
  | _ => none }
def sumTellsRow : OpenClaim := { program := "ytieopkigfbnhcaa", sum := "9e0f68fd5bbc52c3144b3e2b919518ec00f967483e2b4cfac8087d47374bfbac", func := "turnout/turnoutlaw03.SumTells", spec := "sumTells", apart := false }
def SumTellsSaid : Prop := sumTellsRow.holds Try.pinned (OpenSpec.ofChange sumTellsSpec)

/-- ITS FALSE NEIGHBOUR: 'it returns false'. Refute it at one input. -/
def sumTellsWrong : ChangeSpec := { name := "sumTells", fn := fun _ => fun
  | [d] => { results := [.lit (.bool false)], args := [d] }
  | _ => none }
def SumTellsWrongFalsely : Prop := sumTellsRow.holds Try.pinned (OpenSpec.ofChange sumTellsWrong)

/-- 'turnoutlaw03.SumWords': WHATEVER THE INPUT: true; the input reads as it did. -/
def sumWordsSpec : ChangeSpec := { name := "sumWords", fn := fun _ => fun
  | [d1, d2, d3] => { results := [.lit (.bool true)], args := [d1, d2, d3] }
  | _ => none }
def sumWordsRow : OpenClaim := { program := "ytieopkigfbnhcaa", sum := "9e0f68fd5bbc52c3144b3e2b919518ec00f967483e2b4cfac8087d47374bfbac", func := "turnout/turnoutlaw03.SumWords", spec := "sumWords", apart := false }
def SumWordsSaid : Prop := sumWordsRow.holds Try.pinned (OpenSpec.ofChange sumWordsSpec)

/-- ITS FALSE NEIGHBOUR: 'it returns false'. Refute it at one input. -/
def sumWordsWrong : ChangeSpec := { name := "sumWords", fn := fun _ => fun
  | [d1, d2, d3] => { results := [.lit (.bool false)], args := [d1, d2, d3] }
  | _ => none }
def SumWordsWrongFalsely : Prop := sumWordsRow.holds Try.pinned (OpenSpec.ofChange sumWordsWrong)

/-- 'turnoutlaw03.SumRing': WHATEVER THE INPUT: true; the input reads as it did. -/
def sumRingSpec : ChangeSpec := { name := "sumRing", fn := fun _ => fun
  | [d1, d2, d3] => { results := [.lit (.bool true)], args := [d1, d2, d3] }
  | _ => none }
def sumRingRow : OpenClaim := { program := "ytieopkigfbnhcaa", sum := "9e0f68fd5bbc52c3144b3e2b919518ec00f967483e2b4cfac8087d47374bfbac", func := "turnout/turnoutlaw03.SumRing", spec := "sumRing", apart := false }
def SumRingSaid : Prop := sumRingRow.holds Try.pinned (OpenSpec.ofChange sumRingSpec)

/-- ITS FALSE NEIGHBOUR: 'it returns false'. Refute it at one input. -/
def sumRingWrong : ChangeSpec := { name := "sumRing", fn := fun _ => fun
  | [d1, d2, d3] => { results := [.lit (.bool false)], args := [d1, d2, d3] }
  | _ => none }
def SumRingWrongFalsely : Prop := sumRingRow.holds Try.pinned (OpenSpec.ofChange sumRingWrong)

/-- 'turnoutlaw03.SumParts': WHATEVER THE INPUT: true; the input reads as it did. -/
def sumPartsSpec : ChangeSpec := { name := "sumParts", fn := fun _ => fun
  | [d1, d2] => { results := [.lit (.bool true)], args := [d1, d2] }
  | _ => none }
def sumPartsRow : OpenClaim := { program := "ytieopkigfbnhcaa", sum := "9e0f68fd5bbc52c3144b3e2b919518ec00f967483e2b4cfac8087d47374bfbac", func := "turnout/turnoutlaw03.SumParts", spec := "sumParts", apart := false }
def SumPartsSaid : Prop := sumPartsRow.holds Try.pinned (OpenSpec.ofChange sumPartsSpec)

/-- ITS FALSE NEIGHBOUR: 'it returns false'. Refute it at one input. -/
def sumPartsWrong : ChangeSpec := { name := "sumParts", fn := fun _ => fun
  | [d1, d2] => { results := [.lit (.bool false)], args := [d1, d2] }
  | _ => none }
def SumPartsWrongFalsely : Prop := sumPartsRow.holds Try.pinned (OpenSpec.ofChange sumPartsWrong)

/-- 'turnoutlaw03.SumGood': WHATEVER THE INPUT: true; the input reads as it did. -/
def sumGoodSpec : ChangeSpec := { name := "sumGood", fn := fun _ => fun
  | [d1, d2, d3, d4] => { results := [.lit (.bool true)], args := [d1, d2, d3, d4] }
  | _ => none }
def sumGoodRow : OpenClaim := { program := "ytieopkigfbnhcaa", sum := "9e0f68fd5bbc52c3144b3e2b919518ec00f967483e2b4cfac8087d47374bfbac", func := "turnout/turnoutlaw03.SumGood", spec := "sumGood", apart := false }
def SumGoodSaid : Prop := sumGoodRow.holds Try.pinned (OpenSpec.ofChange sumGoodSpec)

/-- ITS FALSE NEIGHBOUR: 'it returns false'. Refute it at one input. -/
def sumGoodWrong : ChangeSpec := { name := "sumGood", fn := fun _ => fun
  | [d1, d2, d3, d4] => { results := [.lit (.bool false)], args := [d1, d2, d3, d4] }
  | _ => none }
def SumGoodWrongFalsely : Prop := sumGoodRow.holds Try.pinned (OpenSpec.ofChange sumGoodWrong)

/-- 'turnoutlaw03.SumUpdates': WHATEVER THE INPUT: true; the input reads as it did. -/
def sumUpdatesSpec : ChangeSpec := { name := "sumUpdates", fn := fun _ => fun
  | [d1, d2, d3] => { results := [.lit (.bool true)], args := [d1, d2, d3] }
  | _ => none }
def sumUpdatesRow : OpenClaim := { program := "ytieopkigfbnhcaa", sum := "9e0f68fd5bbc52c3144b3e2b919518ec00f967483e2b4cfac8087d47374bfbac", func := "turnout/turnoutlaw03.SumUpdates", spec := "sumUpdates", apart := false }
def SumUpdatesSaid : Prop := sumUpdatesRow.holds Try.pinned (OpenSpec.ofChange sumUpdatesSpec)

/-- ITS FALSE NEIGHBOUR: 'it returns false'. Refute it at one input. -/
def sumUpdatesWrong : ChangeSpec := { name := "sumUpdates", fn := fun _ => fun
  | [d1, d2, d3] => { results := [.lit (.bool false)], args := [d1, d2, d3] }
  | _ => none }
def SumUpdatesWrongFalsely : Prop := sumUpdatesRow.holds Try.pinned (OpenSpec.ofChange sumUpdatesWrong)

/-- 'turnoutlaw03.SumTurned': WHATEVER THE INPUT: true; the input reads as it did. -/
def sumTurnedSpec : ChangeSpec := { name := "sumTurned", fn := fun _ => fun
  | [d] => { results := [.lit (.bool true)], args := [d] }
  | _ => none }
def sumTurnedRow : OpenClaim := { program := "ytieopkigfbnhcaa", sum := "9e0f68fd5bbc52c3144b3e2b919518ec00f967483e2b4cfac8087d47374bfbac", func := "turnout/turnoutlaw03.SumTurned", spec := "sumTurned", apart := false }
def SumTurnedSaid : Prop := sumTurnedRow.holds Try.pinned (OpenSpec.ofChange sumTurnedSpec)

/-- ITS FALSE NEIGHBOUR: 'it returns false'. Refute it at one input. -/
def sumTurnedWrong : ChangeSpec := { name := "sumTurned", fn := fun _ => fun
  | [d] => { results := [.lit (.bool false)], args := [d] }
  | _ => none }
def SumTurnedWrongFalsely : Prop := sumTurnedRow.holds Try.pinned (OpenSpec.ofChange sumTurnedWrong)

/-- 'turnoutlaw03.SumNothing': WHATEVER THE INPUT: true; the input reads as it did. -/
def sumNothingSpec : ChangeSpec := { name := "sumNothing", fn := fun _ => fun
  | [d1, d2, d3] => { results := [.lit (.bool true)], args := [d1, d2, d3] }
  | _ => none }
def sumNothingRow : OpenClaim := { program := "ytieopkigfbnhcaa", sum := "9e0f68fd5bbc52c3144b3e2b919518ec00f967483e2b4cfac8087d47374bfbac", func := "turnout/turnoutlaw03.SumNothing", spec := "sumNothing", apart := false }
def SumNothingSaid : Prop := sumNothingRow.holds Try.pinned (OpenSpec.ofChange sumNothingSpec)

/-- ITS FALSE NEIGHBOUR: 'it returns false'. Refute it at one input. -/
def sumNothingWrong : ChangeSpec := { name := "sumNothing", fn := fun _ => fun
  | [d1, d2, d3] => { results := [.lit (.bool false)], args := [d1, d2, d3] }
  | _ => none }
def SumNothingWrongFalsely : Prop := sumNothingRow.holds Try.pinned (OpenSpec.ofChange sumNothingWrong)

/- THE SECOND FORM. 'bulk': how many values and letters a reading holds, each counted each time it is reached (what is shared counts as often as it is met; a slice's spare places count too). A statement '..UptoSaid' is the law's where the arguments, and the package variables that the reading takes, are together of bulk at most 1048576: NARROWER than '..Said'. Prove '..Said' where nothing that the law and all that it calls make is longer than what came in: it says more and counts as full. Else prove '..UptoSaid'. A law counts once. -/
mutual
def uptoBulk {H : Type} : DataW H → Nat
  | .lit (.string bytes) => bytes.length + 1
  | .lit _ => 1
  | .nil => 1
  | .ptr d => uptoBulk d + 1
  | .slice elems spare => uptoBulkAll elems + uptoBulkAll spare + 1
  | .agg parts => uptoBulkAll parts + 1
  | .iface _ d => uptoBulk d + 1
  | .map entries => uptoBulkEntries entries + 1
  | .held _ => 1
def uptoBulkAll {H : Type} : List (DataW H) → Nat
  | [] => 0
  | d :: r => uptoBulk d + uptoBulkAll r
def uptoBulkEntries {H : Type} : List (Lit × DataW H) → Nat
  | [] => 0
  | x :: r => uptoBulkEntry x + uptoBulkEntries r
def uptoBulkEntry {H : Type} : Lit × DataW H → Nat
  | (.string bytes, d) => bytes.length + uptoBulk d + 1
  | (_, d) => uptoBulk d + 1
 end
def uptoSmall : (H : Type) → List (DataW H) → Bool := fun _ ds => decide (uptoBulkAll ds ≤ 1048576)
def OpenSpec.upto (s : _root_.Go.ChangeSpec) : _root_.Go.OpenSpec := { _root_.Go.OpenSpec.ofChange s with cond := some uptoSmall }

/-- 'turnoutlaw03.SumNames', WHERE WHAT IT READS IS OF BULK AT MOST 1048576: true; the input reads as it did. -/
def sumNamesUptoRow : OpenClaim := { program := "ytieopkigfbnhcaa", sum := "9e0f68fd5bbc52c3144b3e2b919518ec00f967483e2b4cfac8087d47374bfbac", func := "turnout/turnoutlaw03.SumNames", spec := "sumNames", apart := false, narrowed := true }
def SumNamesUptoSaid : Prop := sumNamesUptoRow.holds Try.pinned (OpenSpec.upto sumNamesSpec)

/-- 'turnoutlaw03.SumTells', WHERE WHAT IT READS IS OF BULK AT MOST 1048576: true; the input reads as it did. -/
def sumTellsUptoRow : OpenClaim := { program := "ytieopkigfbnhcaa", sum := "9e0f68fd5bbc52c3144b3e2b919518ec00f967483e2b4cfac8087d47374bfbac", func := "turnout/turnoutlaw03.SumTells", spec := "sumTells", apart := false, narrowed := true }
def SumTellsUptoSaid : Prop := sumTellsUptoRow.holds Try.pinned (OpenSpec.upto sumTellsSpec)

/-- 'turnoutlaw03.SumWords', WHERE WHAT IT READS IS OF BULK AT MOST 1048576: true; the input reads as it did. -/
def sumWordsUptoRow : OpenClaim := { program := "ytieopkigfbnhcaa", sum := "9e0f68fd5bbc52c3144b3e2b919518ec00f967483e2b4cfac8087d47374bfbac", func := "turnout/turnoutlaw03.SumWords", spec := "sumWords", apart := false, narrowed := true }
def SumWordsUptoSaid : Prop := sumWordsUptoRow.holds Try.pinned (OpenSpec.upto sumWordsSpec)

/-- 'turnoutlaw03.SumRing', WHERE WHAT IT READS IS OF BULK AT MOST 1048576: true; the input reads as it did. -/
def sumRingUptoRow : OpenClaim := { program := "ytieopkigfbnhcaa", sum := "9e0f68fd5bbc52c3144b3e2b919518ec00f967483e2b4cfac8087d47374bfbac", func := "turnout/turnoutlaw03.SumRing", spec := "sumRing", apart := false, narrowed := true }
def SumRingUptoSaid : Prop := sumRingUptoRow.holds Try.pinned (OpenSpec.upto sumRingSpec)

/-- 'turnoutlaw03.SumParts', WHERE WHAT IT READS IS OF BULK AT MOST 1048576: true; the input reads as it did. -/
def sumPartsUptoRow : OpenClaim := { program := "ytieopkigfbnhcaa", sum := "9e0f68fd5bbc52c3144b3e2b919518ec00f967483e2b4cfac8087d47374bfbac", func := "turnout/turnoutlaw03.SumParts", spec := "sumParts", apart := false, narrowed := true }
def SumPartsUptoSaid : Prop := sumPartsUptoRow.holds Try.pinned (OpenSpec.upto sumPartsSpec)

/-- 'turnoutlaw03.SumGood', WHERE WHAT IT READS IS OF BULK AT MOST 1048576: true; the input reads as it did. -/
def sumGoodUptoRow : OpenClaim := { program := "ytieopkigfbnhcaa", sum := "9e0f68fd5bbc52c3144b3e2b919518ec00f967483e2b4cfac8087d47374bfbac", func := "turnout/turnoutlaw03.SumGood", spec := "sumGood", apart := false, narrowed := true }
def SumGoodUptoSaid : Prop := sumGoodUptoRow.holds Try.pinned (OpenSpec.upto sumGoodSpec)

/-- 'turnoutlaw03.SumUpdates', WHERE WHAT IT READS IS OF BULK AT MOST 1048576: true; the input reads as it did. -/
def sumUpdatesUptoRow : OpenClaim := { program := "ytieopkigfbnhcaa", sum := "9e0f68fd5bbc52c3144b3e2b919518ec00f967483e2b4cfac8087d47374bfbac", func := "turnout/turnoutlaw03.SumUpdates", spec := "sumUpdates", apart := false, narrowed := true }
def SumUpdatesUptoSaid : Prop := sumUpdatesUptoRow.holds Try.pinned (OpenSpec.upto sumUpdatesSpec)

/-- 'turnoutlaw03.SumTurned', WHERE WHAT IT READS IS OF BULK AT MOST 1048576: true; the input reads as it did. -/
def sumTurnedUptoRow : OpenClaim := { program := "ytieopkigfbnhcaa", sum := "9e0f68fd5bbc52c3144b3e2b919518ec00f967483e2b4cfac8087d47374bfbac", func := "turnout/turnoutlaw03.SumTurned", spec := "sumTurned", apart := false, narrowed := true }
def SumTurnedUptoSaid : Prop := sumTurnedUptoRow.holds Try.pinned (OpenSpec.upto sumTurnedSpec)

/-- 'turnoutlaw03.SumNothing', WHERE WHAT IT READS IS OF BULK AT MOST 1048576: true; the input reads as it did. -/
def sumNothingUptoRow : OpenClaim := { program := "ytieopkigfbnhcaa", sum := "9e0f68fd5bbc52c3144b3e2b919518ec00f967483e2b4cfac8087d47374bfbac", func := "turnout/turnoutlaw03.SumNothing", spec := "sumNothing", apart := false, narrowed := true }
def SumNothingUptoSaid : Prop := sumNothingUptoRow.holds Try.pinned (OpenSpec.upto sumNothingSpec)

end Rows
end Go.Proofs.Ytieopkigfbnhcaa
