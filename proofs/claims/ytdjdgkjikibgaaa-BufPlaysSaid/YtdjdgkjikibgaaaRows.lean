/-
  No cell of these rows narrows 'for every input' (looked for: loops, veiled, ifaces, maps, wideKeys, modest, calm, conditions, laid).
  DERIVED. THE GIVEN ROWS OF THIS SEAT. 8 by the template 'for every input the law returns true; each argument reads behind the call as it read before'; 0 by the template 'total and deterministic' (their statements: YtdjdgkjikibgaaaTotals.lean).
  GIVEN WITH THE SEED: the statements are not yours to turn. If you find one false, say at which input.
  Laid BY PROGRAM, IN A SANDBOX (cutbox-rows.mjs): the forced cells as the released guide's own fill.sh prints them over the translation 2051f790f8e668e1… (all of the seat's roots in one cut). By AI agents, Wed Nov 11 2026. No macro, syntax, notation, axiom, sorry.
-/
import Derived.Test.YtdjdgkjikibgaaaChecked
import GoSem.Claim
import GoSem.ClaimJoined
import GoSem.ClaimMapViews
import Derived.JoinedTies
import Derived.KernelRfl
namespace Go.Proofs.Ytdjdgkjikibgaaa
/- THE CELL 'sum', in the pinned program and in every row, IS THE sha256 OF THE DUMP (.gsa) THAT YtdjdgkjikibgaaaProg.lean LOADS. Nothing in Lean hashes anything: it is a label: what it is worth is what the hold of that sum in a sandbox is worth. -/
noncomputable def Try.pinned : Pinned := { name := "ytdjdgkjikibgaaa", sum := "2051f790f8e668e1f9a09706f919a4c166bb8a7ab301c4c5a5c0f894a2797574", checked := Try.checked }
namespace Rows
def none {H : Type} : Left H := { results := [], args := [] }

/-- 'turnoutlaw05.BufBack': WHATEVER THE INPUT: true; the input reads as it did. -/
def bufBackSpec : ChangeSpec := { name := "bufBack", fn := fun _ => fun
  | [d1, d2, d3] => { results := [.lit (.bool true)], args := [d1, d2, d3] }
  | _ => none }
def bufBackRow : OpenClaim := { program := "ytdjdgkjikibgaaa", sum := "2051f790f8e668e1f9a09706f919a4c166bb8a7ab301c4c5a5c0f894a2797574", func := "turnout/turnoutlaw05.BufBack", spec := "bufBack", apart := false }
def BufBackSaid : Prop := bufBackRow.holds Try.pinned (OpenSpec.ofChange bufBackSpec)

/-- ITS FALSE NEIGHBOUR: 'it returns false'. Refute it at one input. -/
def bufBackWrong : ChangeSpec := { name := "bufBack", fn := fun _ => fun
  | [d1, d2, d3] => { results := [.lit (.bool false)], args := [d1, d2, d3] }
  | _ => none }
def BufBackWrongFalsely : Prop := bufBackRow.holds Try.pinned (OpenSpec.ofChange bufBackWrong)

/-- 'turnoutlaw05.BufMoves': WHATEVER THE INPUT: true; the input reads as it did. -/
def bufMovesSpec : ChangeSpec := { name := "bufMoves", fn := fun _ => fun
  | [d1, d2, d3, d4, d5] => { results := [.lit (.bool true)], args := [d1, d2, d3, d4, d5] }
  | _ => none }
def bufMovesRow : OpenClaim := { program := "ytdjdgkjikibgaaa", sum := "2051f790f8e668e1f9a09706f919a4c166bb8a7ab301c4c5a5c0f894a2797574", func := "turnout/turnoutlaw05.BufMoves", spec := "bufMoves", apart := false }
def BufMovesSaid : Prop := bufMovesRow.holds Try.pinned (OpenSpec.ofChange bufMovesSpec)

/-- ITS FALSE NEIGHBOUR: 'it returns false'. Refute it at one input. -/
def bufMovesWrong : ChangeSpec := { name := "bufMoves", fn := fun _ => fun
  | [d1, d2, d3, d4, d5] => { results := [.lit (.bool false)], args := [d1, d2, d3, d4, d5] }
  | _ => none }
def BufMovesWrongFalsely : Prop := bufMovesRow.holds Try.pinned (OpenSpec.ofChange bufMovesWrong)

/-- 'turnoutlaw05.BufParts': WHATEVER THE INPUT: true; the input reads as it did. -/
def bufPartsSpec : ChangeSpec := { name := "bufParts", fn := fun _ => fun
  | [d1, d2, d3, d4] => { results := [.lit (.bool true)], args := [d1, d2, d3, d4] }
  | _ => none }
def bufPartsRow : OpenClaim := { program := "ytdjdgkjikibgaaa", sum := "2051f790f8e668e1f9a09706f919a4c166bb8a7ab301c4c5a5c0f894a2797574", func := "turnout/turnoutlaw05.BufParts", spec := "bufParts", apart := false }
def BufPartsSaid : Prop := bufPartsRow.holds Try.pinned (OpenSpec.ofChange bufPartsSpec)

/-- ITS FALSE NEIGHBOUR: 'it returns false'. Refute it at one input. -/
def bufPartsWrong : ChangeSpec := { name := "bufParts", fn := fun _ => fun
  | [d1, d2, d3, d4] => { results := [.lit (.bool false)], args := [d1, d2, d3, d4] }
  | _ => none }
def BufPartsWrongFalsely : Prop := bufPartsRow.holds Try.pinned (OpenSpec.ofChange bufPartsWrong)

/-- 'turnoutlaw05.BufStays': WHATEVER THE INPUT: true; the input reads as it did. -/
def bufStaysSpec : ChangeSpec := { name := "bufStays", fn := fun _ => fun
  | [d1, d2] => { results := [.lit (.bool true)], args := [d1, d2] }
  | _ => none }
def bufStaysRow : OpenClaim := { program := "ytdjdgkjikibgaaa", sum := "2051f790f8e668e1f9a09706f919a4c166bb8a7ab301c4c5a5c0f894a2797574", func := "turnout/turnoutlaw05.BufStays", spec := "bufStays", apart := false }
def BufStaysSaid : Prop := bufStaysRow.holds Try.pinned (OpenSpec.ofChange bufStaysSpec)

/-- ITS FALSE NEIGHBOUR: 'it returns false'. Refute it at one input. -/
def bufStaysWrong : ChangeSpec := { name := "bufStays", fn := fun _ => fun
  | [d1, d2] => { results := [.lit (.bool false)], args := [d1, d2] }
  | _ => none }
def BufStaysWrongFalsely : Prop := bufStaysRow.holds Try.pinned (OpenSpec.ofChange bufStaysWrong)

/-- 'turnoutlaw05.BufSums': WHATEVER THE INPUT: true; the input reads as it did. -/
def bufSumsSpec : ChangeSpec := { name := "bufSums", fn := fun _ => fun
  | [d1, d2, d3, d4, d5] => { results := [.lit (.bool true)], args := [d1, d2, d3, d4, d5] }
  | _ => none }
def bufSumsRow : OpenClaim := { program := "ytdjdgkjikibgaaa", sum := "2051f790f8e668e1f9a09706f919a4c166bb8a7ab301c4c5a5c0f894a2797574", func := "turnout/turnoutlaw05.BufSums", spec := "bufSums", apart := false }
def BufSumsSaid : Prop := bufSumsRow.holds Try.pinned (OpenSpec.ofChange bufSumsSpec)

/-- ITS FALSE NEIGHBOUR: 'it returns false'. Refute it at one input. -/
def bufSumsWrong : ChangeSpec := { name := "bufSums", fn := fun _ => fun
  | [d1, d2, d3, d4, d5] => { results := [.lit (.bool false)], args := [d1, d2, d3, d4, d5] }
  | _ => none }
def BufSumsWrongFalsely : Prop := bufSumsRow.holds Try.pinned (OpenSpec.ofChange bufSumsWrong)

/-- 'turnoutlaw05.BufNames': WHATEVER THE INPUT: true; the input reads as it did. -/
def bufNamesSpec : ChangeSpec := { name := "bufNames", fn := fun _ => fun
  | [] => { results := [.lit (.bool true)], args := [] }
  | _ => none }
def bufNamesRow : OpenClaim := { program := "ytdjdgkjikibgaaa", sum := "2051f790f8e668e1f9a09706f919a4c166bb8a7ab301c4c5a5c0f894a2797574", func := "turnout/turnoutlaw05.BufNames", spec := "bufNames", apart := false }
def BufNamesSaid : Prop := bufNamesRow.holds Try.pinned (OpenSpec.ofChange bufNamesSpec)

/-- ITS FALSE NEIGHBOUR: 'it returns false'. Refute it at one input. -/
def bufNamesWrong : ChangeSpec := { name := "bufNames", fn := fun _ => fun
  | [] => { results := [.lit (.bool false)], args := [] }
  | _ => none }
def BufNamesWrongFalsely : Prop := bufNamesRow.holds Try.pinned (OpenSpec.ofChange bufNamesWrong)

/-- 'turnoutlaw05.BufPlays': WHATEVER THE INPUT: true; the input reads as it did. -/
def bufPlaysSpec : ChangeSpec := { name := "bufPlays", fn := fun _ => fun
  | [d1, d2] => { results := [.lit (.bool true)], args := [d1, d2] }
  | _ => none }
def bufPlaysRow : OpenClaim := { program := "ytdjdgkjikibgaaa", sum := "2051f790f8e668e1f9a09706f919a4c166bb8a7ab301c4c5a5c0f894a2797574", func := "turnout/turnoutlaw05.BufPlays", spec := "bufPlays", apart := false }
def BufPlaysSaid : Prop := bufPlaysRow.holds Try.pinned (OpenSpec.ofChange bufPlaysSpec)

/-- ITS FALSE NEIGHBOUR: 'it returns false'. Refute it at one input. -/
def bufPlaysWrong : ChangeSpec := { name := "bufPlays", fn := fun _ => fun
  | [d1, d2] => { results := [.lit (.bool false)], args := [d1, d2] }
  | _ => none }
def BufPlaysWrongFalsely : Prop := bufPlaysRow.holds Try.pinned (OpenSpec.ofChange bufPlaysWrong)

/-- 'turnoutlaw05.BufApart': WHATEVER THE INPUT: true; the input reads as it did. -/
def bufApartSpec : ChangeSpec := { name := "bufApart", fn := fun _ => fun
  | [d1, d2, d3] => { results := [.lit (.bool true)], args := [d1, d2, d3] }
  | _ => none }
def bufApartRow : OpenClaim := { program := "ytdjdgkjikibgaaa", sum := "2051f790f8e668e1f9a09706f919a4c166bb8a7ab301c4c5a5c0f894a2797574", func := "turnout/turnoutlaw05.BufApart", spec := "bufApart", apart := false }
def BufApartSaid : Prop := bufApartRow.holds Try.pinned (OpenSpec.ofChange bufApartSpec)

/-- ITS FALSE NEIGHBOUR: 'it returns false'. Refute it at one input. -/
def bufApartWrong : ChangeSpec := { name := "bufApart", fn := fun _ => fun
  | [d1, d2, d3] => { results := [.lit (.bool false)], args := [d1, d2, d3] }
  | _ => none }
def BufApartWrongFalsely : Prop := bufApartRow.holds Try.pinned (OpenSpec.ofChange bufApartWrong)

/- THE SECOND FORM. 'bulk': how many values and letters a reading holds, each counted each time it is reached (what is shared counts as often as it is met; a slice's spare places count too). A statement '..UptoSaid' is the law's where the arguments, and the package variables that the reading takes, are together of bulk at most 1048576: NARROWER than '..Said'. Prove '..Said' where nothing that the law and all that it calls make is longer than what came in: it says more and counts as full. Else prove '..UptoSaid'. A law counts once. -/
mutual
def uptoBulk {H : Type} : DataW H → Nat
  | .lit (.string bytes) => bytes.length + 1
  | .lit _ => 1
  | .nil => 1
  | .ptr d => uptoBulk d + 1
  | .slice elems spare => uptoBulkAll elems + uptoBulkAll spare + 1
  | .agg parts => uptoBulkAll parts + 1
  | .iface _ d => uptoBulk d + 1
  | .map entries => uptoBulkEntries entries + 1
  | .held _ => 1
def uptoBulkAll {H : Type} : List (DataW H) → Nat
  | [] => 0
  | d :: r => uptoBulk d + uptoBulkAll r
def uptoBulkEntries {H : Type} : List (Lit × DataW H) → Nat
  | [] => 0
  | x :: r => uptoBulkEntry x + uptoBulkEntries r
def uptoBulkEntry {H : Type} : Lit × DataW H → Nat
  | (.string bytes, d) => bytes.length + uptoBulk d + 1
  | (_, d) => uptoBulk d + 1
 end
def uptoSmall : (H : Type) → List (DataW H) → Bool := fun _ ds => decide (uptoBulkAll ds ≤ 1048576)
def OpenSpec.upto (s : _root_.Go.ChangeSpec) : _root_.Go.OpenSpec := { _root_.Go.OpenSpec.ofChange s with cond := some uptoSmall }

/-- 'turnoutlaw05.BufBack', WHERE WHAT IT READS IS OF BULK AT MOST 1048576: true; the input reads as it did. -/
def bufBackUptoRow : OpenClaim := { program := "ytdjdgkjikibgaaa", sum := "2051f790f8e668e1f9a09706f919a4c166bb8a7ab301c4c5a5c0f894a2797574", func := "turnout/turnoutlaw05.BufBack", spec := "bufBack", apart := false, narrowed := true }
def BufBackUptoSaid : Prop := bufBackUptoRow.holds Try.pinned (OpenSpec.upto bufBackSpec)

/-- 'turnoutlaw05.BufMoves', WHERE WHAT IT READS IS OF BULK AT MOST 1048576: true; the input reads as it did. -/
def bufMovesUptoRow : OpenClaim := { program := "ytdjdgkjikibgaaa", sum := "2051f790f8e668e1f9a09706f919a4c166bb8a7ab301c4c5a5c0f894a2797574", func := "turnout/turnoutlaw05.BufMoves", spec := "bufMoves", apart := false, narrowed := true }
def BufMovesUptoSaid : Prop := bufMovesUptoRow.holds Try.pinned (OpenSpec.upto bufMovesSpec)

/-- 'turnoutlaw05.BufParts', WHERE WHAT IT READS IS OF BULK AT MOST 1048576: true; the input reads as it did. -/
def bufPartsUptoRow : OpenClaim := { program := "ytdjdgkjikibgaaa", sum := "2051f790f8e668e1f9a09706f919a4c166bb8a7ab301c4c5a5c0f894a2797574", func := "turnout/turnoutlaw05.BufParts", spec := "bufParts", apart := false, narrowed := true }
def BufPartsUptoSaid : Prop := bufPartsUptoRow.holds Try.pinned (OpenSpec.upto bufPartsSpec)

/-- 'turnoutlaw05.BufStays', WHERE WHAT IT READS IS OF BULK AT MOST 1048576: true; the input reads as it did. -/
def bufStaysUptoRow : OpenClaim := { program := "ytdjdgkjikibgaaa", sum := "2051f790f8e668e1f9a09706f919a4c166bb8a7ab301c4c5a5c0f894a2797574", func := "turnout/turnoutlaw05.BufStays", spec := "bufStays", apart := false, narrowed := true }
def BufStaysUptoSaid : Prop := bufStaysUptoRow.holds Try.pinned (OpenSpec.upto bufStaysSpec)

/-- 'turnoutlaw05.BufSums', WHERE WHAT IT READS IS OF BULK AT MOST 1048576: true; the input reads as it did. -/
def bufSumsUptoRow : OpenClaim := { program := "ytdjdgkjikibgaaa", sum := "2051f790f8e668e1f9a09706f919a4c166bb8a7ab301c4c5a5c0f894a2797574", func := "turnout/turnoutlaw05.BufSums", spec := "bufSums", apart := false, narrowed := true }
def BufSumsUptoSaid : Prop := bufSumsUptoRow.holds Try.pinned (OpenSpec.upto bufSumsSpec)

/-- 'turnoutlaw05.BufNames', WHERE WHAT IT READS IS OF BULK AT MOST 1048576: true; the input reads as it did. -/
def bufNamesUptoRow : OpenClaim := { program := "ytdjdgkjikibgaaa", sum := "2051f790f8e668e1f9a09706f919a4c166bb8a7ab301c4c5a5c0f894a2797574", func := "turnout/turnoutlaw05.BufNames", spec := "bufNames", apart := false, narrowed := true }
def BufNamesUptoSaid : Prop := bufNamesUptoRow.holds Try.pinned (OpenSpec.upto bufNamesSpec)

/-- 'turnoutlaw05.BufPlays', WHERE WHAT IT READS IS OF BULK AT MOST 1048576: true; the input reads as it did. -/
def bufPlaysUptoRow : OpenClaim := { program := "ytdjdgkjikibgaaa", sum := "2051f790f8e668e1f9a09706f919a4c166bb8a7ab301c4c5a5c0f894a2797574", func := "turnout/turnoutlaw05.BufPlays", spec := "bufPlays", apart := false, narrowed := true }
def BufPlaysUptoSaid : Prop := bufPlaysUptoRow.holds Try.pinned (OpenSpec.upto bufPlaysSpec)

/-- 'turnoutlaw05.BufApart', WHERE WHAT IT READS IS OF BULK AT MOST 1048576: true; the input reads as it did. -/
def bufApartUptoRow : OpenClaim := { program := "ytdjdgkjikibgaaa", sum := "2051f790f8e668e1f9a09706f919a4c166bb8a7ab301c4c5a5c0f894a2797574", func := "turnout/turnoutlaw05.BufApart", spec := "bufApart", apart := false, narrowed := true }
def BufApartUptoSaid : Prop := bufApartUptoRow.holds Try.pinned (OpenSpec.upto bufApartSpec)

end Rows
end Go.Proofs.Ytdjdgkjikibgaaa
