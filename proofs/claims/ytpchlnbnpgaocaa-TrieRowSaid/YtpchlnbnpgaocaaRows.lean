/-
  No cell of these rows narrows 'for every input' (looked for: loops, veiled, ifaces, maps, wideKeys, modest, calm, conditions, laid).
  DERIVED. THE GIVEN ROWS OF THIS SEAT. 5 by the template 'for every input the law returns true; each argument reads behind the call as it read before'; 0 by the template 'total and deterministic' (their statements: YtpchlnbnpgaocaaTotals.lean).
  GIVEN WITH THE SEED: the statements are not yours to turn. If you find one false, say at which input.
  Laid BY PROGRAM, IN A SANDBOX (cutbox-rows.mjs): the forced cells as the released guide's own fill.sh prints them over the translation 4ad73cecc1c855a8… (all of the seat's roots in one cut). By AI agents, Wed Nov 11 2026. No macro, syntax, notation, axiom, sorry.
-/
import Derived.Test.YtpchlnbnpgaocaaChecked
import GoSem.Claim
import GoSem.ClaimJoined
import GoSem.ClaimMapViews
import Derived.JoinedTies
import Derived.KernelRfl
namespace Go.Proofs.Ytpchlnbnpgaocaa
/- THE CELL 'sum', in the pinned program and in every row, IS THE sha256 OF THE DUMP (.gsa) THAT YtpchlnbnpgaocaaProg.lean LOADS. Nothing in Lean hashes anything: it is a label: what it is worth is what the hold of that sum in a sandbox is worth. -/
noncomputable def Try.pinned : Pinned := { name := "ytpchlnbnpgaocaa", sum := "4ad73cecc1c855a8dc4f2308e49aeab1a110ce418e21bc4ef6d62a7bf29ffad7", checked := Try.checked }
namespace Rows
def none {H : Type} : Left H := { results := [], args := [] }

/-- 'turnoutlaw11.TrieMore': WHATEVER THE INPUT: true; the input reads as it did. -/
def trieMoreSpec : ChangeSpec := { name := "trieMore", fn := fun _ => fun
  | [d1, d2, d3] => { results := [.lit (.bool true)], args := [d1, d2, d3] }
  | _ => none }
def trieMoreRow : OpenClaim := { program := "ytpchlnbnpgaocaa", sum := "4ad73cecc1c855a8dc4f2308e49aeab1a110ce418e21bc4ef6d62a7bf29ffad7", func := "turnout/turnoutlaw11.TrieMore", spec := "trieMore", recurses := true, apart := false }
def TrieMoreSaid : Prop := trieMoreRow.holds Try.pinned (OpenSpec.ofChange trieMoreSpec)

/-- ITS FALSE NEIGHBOUR: 'it returns false'. Refute it at one input. -/
def trieMoreWrong : ChangeSpec := { name := "trieMore", fn := fun _ => fun
  | [d1, d2, d3] => { results := [.lit (.bool false)], args := [d1, d2, d3] }
  | _ => none }
def TrieMoreWrongFalsely : Prop := trieMoreRow.holds Try.pinned (OpenSpec.ofChange trieMoreWrong)

/-- 'turnoutlaw11.TrieRows': WHATEVER THE INPUT: true; the input reads as it did. -/
def trieRowsSpec : ChangeSpec := { name := "trieRows", fn := fun _ => fun
  | [d1, d2, d3, d4] => { results := [.lit (.bool true)], args := [d1, d2, d3, d4] }
  | _ => none }
def trieRowsRow : OpenClaim := { program := "ytpchlnbnpgaocaa", sum := "4ad73cecc1c855a8dc4f2308e49aeab1a110ce418e21bc4ef6d62a7bf29ffad7", func := "turnout/turnoutlaw11.TrieRows", spec := "trieRows", recurses := true, apart := false }
def TrieRowsSaid : Prop := trieRowsRow.holds Try.pinned (OpenSpec.ofChange trieRowsSpec)

/-- ITS FALSE NEIGHBOUR: 'it returns false'. Refute it at one input. -/
def trieRowsWrong : ChangeSpec := { name := "trieRows", fn := fun _ => fun
  | [d1, d2, d3, d4] => { results := [.lit (.bool false)], args := [d1, d2, d3, d4] }
  | _ => none }
def TrieRowsWrongFalsely : Prop := trieRowsRow.holds Try.pinned (OpenSpec.ofChange trieRowsWrong)

/-- 'turnoutlaw11.TrieRow': WHATEVER THE INPUT: true; the input reads as it did. -/
def trieRowSpec : ChangeSpec := { name := "trieRow", fn := fun _ => fun
  | [d] => { results := [.lit (.bool true)], args := [d] }
  | _ => none }
def trieRowRow : OpenClaim := { program := "ytpchlnbnpgaocaa", sum := "4ad73cecc1c855a8dc4f2308e49aeab1a110ce418e21bc4ef6d62a7bf29ffad7", func := "turnout/turnoutlaw11.TrieRow", spec := "trieRow", recurses := true, apart := false }
def TrieRowSaid : Prop := trieRowRow.holds Try.pinned (OpenSpec.ofChange trieRowSpec)

/-- ITS FALSE NEIGHBOUR: 'it returns false'. Refute it at one input. -/
def trieRowWrong : ChangeSpec := { name := "trieRow", fn := fun _ => fun
  | [d] => { results := [.lit (.bool false)], args := [d] }
  | _ => none }
def TrieRowWrongFalsely : Prop := trieRowRow.holds Try.pinned (OpenSpec.ofChange trieRowWrong)

/-- 'turnoutlaw11.TrieApart': WHATEVER THE INPUT: true; the input reads as it did. -/
def trieApartSpec : ChangeSpec := { name := "trieApart", fn := fun _ => fun
  | [d1, d2] => { results := [.lit (.bool true)], args := [d1, d2] }
  | _ => none }
def trieApartRow : OpenClaim := { program := "ytpchlnbnpgaocaa", sum := "4ad73cecc1c855a8dc4f2308e49aeab1a110ce418e21bc4ef6d62a7bf29ffad7", func := "turnout/turnoutlaw11.TrieApart", spec := "trieApart", recurses := true, apart := false }
def TrieApartSaid : Prop := trieApartRow.holds Try.pinned (OpenSpec.ofChange trieApartSpec)

/-- ITS FALSE NEIGHBOUR: 'it returns false'. Refute it at one input. -/
def trieApartWrong : ChangeSpec := { name := "trieApart", fn := fun _ => fun
  | [d1, d2] => { results := [.lit (.bool false)], args := [d1, d2] }
  | _ => none }
def TrieApartWrongFalsely : Prop := trieApartRow.holds Try.pinned (OpenSpec.ofChange trieApartWrong)

/-- 'turnoutlaw11.TrieNames': WHATEVER THE INPUT: true; the input reads as it did. -/
def trieNamesSpec : ChangeSpec := { name := "trieNames", fn := fun _ => fun
  | [] => { results := [.lit (.bool true)], args := [] }
  | _ => none }
def trieNamesRow : OpenClaim := { program := "ytpchlnbnpgaocaa", sum := "4ad73cecc1c855a8dc4f2308e49aeab1a110ce418e21bc4ef6d62a7bf29ffad7", func := "turnout/turnoutlaw11.TrieNames", spec := "trieNames", recurses := true, apart := false }
def TrieNamesSaid : Prop := trieNamesRow.holds Try.pinned (OpenSpec.ofChange trieNamesSpec)

/-- ITS FALSE NEIGHBOUR: 'it returns false'. Refute it at one input. -/
def trieNamesWrong : ChangeSpec := { name := "trieNames", fn := fun _ => fun
  | [] => { results := [.lit (.bool false)], args := [] }
  | _ => none }
def TrieNamesWrongFalsely : Prop := trieNamesRow.holds Try.pinned (OpenSpec.ofChange trieNamesWrong)

/- THE SECOND FORM. 'bulk': how many values and letters a reading holds, each counted each time it is reached (what is shared counts as often as it is met; a slice's spare places count too). A statement '..UptoSaid' is the law's where the arguments, and the package variables that the reading takes, are together of bulk at most 1048576: NARROWER than '..Said'. Prove '..Said' where nothing that the law and all that it calls make is longer than what came in: it says more and counts as full. Else prove '..UptoSaid'. A law counts once. -/
mutual
def uptoBulk {H : Type} : DataW H → Nat
  | .lit (.string bytes) => bytes.length + 1
  | .lit _ => 1
  | .nil => 1
  | .ptr d => uptoBulk d + 1
  | .slice elems spare => uptoBulkAll elems + uptoBulkAll spare + 1
  | .agg parts => uptoBulkAll parts + 1
  | .iface _ d => uptoBulk d + 1
  | .map entries => uptoBulkEntries entries + 1
  | .held _ => 1
def uptoBulkAll {H : Type} : List (DataW H) → Nat
  | [] => 0
  | d :: r => uptoBulk d + uptoBulkAll r
def uptoBulkEntries {H : Type} : List (Lit × DataW H) → Nat
  | [] => 0
  | x :: r => uptoBulkEntry x + uptoBulkEntries r
def uptoBulkEntry {H : Type} : Lit × DataW H → Nat
  | (.string bytes, d) => bytes.length + uptoBulk d + 1
  | (_, d) => uptoBulk d + 1
 end
def uptoSmall : (H : Type) → List (DataW H) → Bool := fun _ ds => decide (uptoBulkAll ds ≤ 1048576)
def OpenSpec.upto (s : _root_.Go.ChangeSpec) : _root_.Go.OpenSpec := { _root_.Go.OpenSpec.ofChange s with cond := some uptoSmall }

/-- 'turnoutlaw11.TrieMore', WHERE WHAT IT READS IS OF BULK AT MOST 1048576: true; the input reads as it did. -/
def trieMoreUptoRow : OpenClaim := { program := "ytpchlnbnpgaocaa", sum := "4ad73cecc1c855a8dc4f2308e49aeab1a110ce418e21bc4ef6d62a7bf29ffad7", func := "turnout/turnoutlaw11.TrieMore", spec := "trieMore", recurses := true, apart := false, narrowed := true }
def TrieMoreUptoSaid : Prop := trieMoreUptoRow.holds Try.pinned (OpenSpec.upto trieMoreSpec)

/-- 'turnoutlaw11.TrieRows', WHERE WHAT IT READS IS OF BULK AT MOST 1048576: true; the input reads as it did. -/
def trieRowsUptoRow : OpenClaim := { program := "ytpchlnbnpgaocaa", sum := "4ad73cecc1c855a8dc4f2308e49aeab1a110ce418e21bc4ef6d62a7bf29ffad7", func := "turnout/turnoutlaw11.TrieRows", spec := "trieRows", recurses := true, apart := false, narrowed := true }
def TrieRowsUptoSaid : Prop := trieRowsUptoRow.holds Try.pinned (OpenSpec.upto trieRowsSpec)

/-- 'turnoutlaw11.TrieRow', WHERE WHAT IT READS IS OF BULK AT MOST 1048576: true; the input reads as it did. -/
def trieRowUptoRow : OpenClaim := { program := "ytpchlnbnpgaocaa", sum := "4ad73cecc1c855a8dc4f2308e49aeab1a110ce418e21bc4ef6d62a7bf29ffad7", func := "turnout/turnoutlaw11.TrieRow", spec := "trieRow", recurses := true, apart := false, narrowed := true }
def TrieRowUptoSaid : Prop := trieRowUptoRow.holds Try.pinned (OpenSpec.upto trieRowSpec)

/-- 'turnoutlaw11.TrieApart', WHERE WHAT IT READS IS OF BULK AT MOST 1048576: true; the input reads as it did. -/
def trieApartUptoRow : OpenClaim := { program := "ytpchlnbnpgaocaa", sum := "4ad73cecc1c855a8dc4f2308e49aeab1a110ce418e21bc4ef6d62a7bf29ffad7", func := "turnout/turnoutlaw11.TrieApart", spec := "trieApart", recurses := true, apart := false, narrowed := true }
def TrieApartUptoSaid : Prop := trieApartUptoRow.holds Try.pinned (OpenSpec.upto trieApartSpec)

/-- 'turnoutlaw11.TrieNames', WHERE WHAT IT READS IS OF BULK AT MOST 1048576: true; the input reads as it did. -/
def trieNamesUptoRow : OpenClaim := { program := "ytpchlnbnpgaocaa", sum := "4ad73cecc1c855a8dc4f2308e49aeab1a110ce418e21bc4ef6d62a7bf29ffad7", func := "turnout/turnoutlaw11.TrieNames", spec := "trieNames", recurses := true, apart := false, narrowed := true }
def TrieNamesUptoSaid : Prop := trieNamesUptoRow.holds Try.pinned (OpenSpec.upto trieNamesSpec)

end Rows
end Go.Proofs.Ytpchlnbnpgaocaa
