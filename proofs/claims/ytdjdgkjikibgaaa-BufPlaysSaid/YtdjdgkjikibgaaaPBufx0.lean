-- Written by wip/turnprint.py, a program of this session (the kit's print, turned).
import Derived.Test.YtdjdgkjikibgaaaProg
import Derived.Below
import Derived.Deep.Draws
import Derived.Deep.AppendLies
import Derived.Maps.AppendAt
import Derived.OwnWalk
import Derived.Laws.BytesArg
import Derived.Laws.MakeOwn
import Derived.Laws.OwnMore
import Derived.Deep.OwnRows
import Derived.Tactics
import Derived.Lib.ConvBytes
import Derived.Laws.Slices
import Derived.WalkKit
import Derived.KernelRfl
import Derived.RowKit3
import Derived.Deep.LoopGhost
import Derived.Deep.QuietTactic
import Derived.BigQuiet
import Derived.WideLaws
import Derived.Deep.DeepCutAuto
import Derived.Deep.CutBlock
import Derived.Deep.RegionHeld3
import Derived.Laws.Rows
import Derived.Lib.AppendStr
import Derived.ArgAppend
import Derived.Laws.IdiomCopy
import Derived.OrdersHeld
import Derived.Laws.BitsLemmas
import Derived.RowKit
import Derived.Laws.Externs
import Derived.BigRegion
import Derived.Test.YtdjdgkjikibgaaaWWords
import Derived.Test.YtdjdgkjikibgaaaWLast
import Derived.Test.YtdjdgkjikibgaaaWTab
import Derived.Test.YtdjdgkjikibgaaaWFour
import Derived.Test.YtdjdgkjikibgaaaWQPut
import Derived.Test.YtdjdgkjikibgaaaWApart
import Derived.Test.YtdjdgkjikibgaaaWArr
import Derived.Test.YtdjdgkjikibgaaaWZeros
import Derived.Test.YtdjdgkjikibgaaaWFoot
import Derived.Test.YtdjdgkjikibgaaaWKept
import Derived.Test.YtdjdgkjikibgaaaWShare
import Derived.Test.YtdjdgkjikibgaaaWN
import Derived.Test.YtdjdgkjikibgaaaWFootNe
import Derived.Test.YtdjdgkjikibgaaaWAt
import Derived.Test.YtdjdgkjikibgaaaWEqStruct
import Derived.Test.YtdjdgkjikibgaaaWRepsOne
import Derived.Test.YtdjdgkjikibgaaaWInv
import Derived.Test.YtdjdgkjikibgaaaWInvWords
import Derived.Test.YtdjdgkjikibgaaaWGuard
import Derived.Test.YtdjdgkjikibgaaaWNEv
import Derived.Test.YtdjdgkjikibgaaaWMore
namespace Go.Proofs.Ytdjdgkjikibgaaa.PBuf
open Go.RowKit Go.Proofs.YtdjdgkjikibgaaaW.PrintWords Go.Proofs.YtdjdgkjikibgaaaW.PrintLast Go.Proofs.YtdjdgkjikibgaaaW.PrintMore
attribute [local go_sem] max2_int min2_int max_two min_two max_three min_three max_four min_four   -- for this text's walks alone
set_option linter.unusedVariables false
set_option linter.unusedSimpArgs false



def errW : Option Int → Value
  | none => .nilIface
  | some c => .iface 0 (.int .i64 c)
theorem errW_none : errW none = .nilIface := rfl
theorem errW_some (c : Int) : errW (some c) = .iface 0 (.int .i64 c) := rfl

theorem info5 : (Try.prog.info? 5).map (fun i => (i.zero, i.size, i.bytes)) = some (some (.int .u8 0), 1, 1) := by kernel_rfl
theorem xorA_u8 (n : Int) : Op.unary .xor (.int .u8 n) = pure (.int .u8 (bits .xor .u8 255 n)) := by rfl
theorem xorA_u16 (n : Int) : Op.unary .xor (.int .u16 n) = pure (.int .u16 (bits .xor .u16 65535 n)) := by rfl
theorem xorA_u32 (n : Int) : Op.unary .xor (.int .u32 n) = pure (.int .u32 (bits .xor .u32 4294967295 n)) := by rfl
theorem xorA_u64 (n : Int) : Op.unary .xor (.int .u64 n) = pure (.int .u64 (bits .xor .u64 18446744073709551615 n)) := by rfl
abbrev T : Bool := true
abbrev F : Bool := false
theorem bkA {w w' : World} {g : Nat} {o : Obj} (h : w.heap[g]? = some o) (e : w.heap[g]? = some o → w'.heap[g]? = some o := by intro h_; (with_reducible repeat (first | refine blk_drewN ?_ _ | refine blk_drew ?_ | refine blk_alloc ?_ _)); exact h_) : w'.heap[g]? = some o := e h
theorem own_stringD {P : Program} {w : World} {base n : Nat} {e src dst e1 : TypeId} {v : Value} {xs : List Int} (hs : P.underlying src = some (.slice e)) (he : P.underlying e = some (.int .u8)) (hd : P.underlying dst = some .string) (h : w.ownsRow base e1 1 v n (nums .u8 xs)) : ∀ m : Nat, (convert src dst v).run P (w.drewN m) = .ok (.string (strOfNums xs)) (w.drewN m) := fun m => own_string (w := w.drewN m) (base := base) (n := n) hs he hd h
theorem less_tri : ∀ a b : List UInt8, (!(Op.bytesLess a b || a == b)) = Op.bytesLess b a := by
  intro a
  induction a with
  | nil => intro b; cases b <;> simp [Op.bytesLess]
  | cons x a ih =>
    intro b
    cases b with
    | nil => simp [Op.bytesLess]
    | cons y b =>
      have h := ih b
      unfold Op.bytesLess
      by_cases e : x = y
      · subst e; rw [← h]; simp
      · have e2 : ¬ y = x := fun h => e h.symm
        have h3 : x < y ∨ y < x := by
          rcases Nat.lt_trichotomy x.toNat y.toNat with h | h | h
          · exact .inl h
          · exact absurd (UInt8.toNat_inj.1 h) e
          · exact .inr h
        have h4 : ¬ (x < y ∧ y < x) := fun h => Nat.lt_asymm (UInt8.lt_iff_toNat_lt.1 h.1) (UInt8.lt_iff_toNat_lt.1 h.2)
        simp only [beq_eq_false_iff_ne.2 e, beq_eq_false_iff_ne.2 e2, List.cons_beq_cons, Bool.false_and, Bool.or_false]
        rcases h3 with h3 | h3
        · rw [decide_eq_true h3, decide_eq_false (fun h => h4 ⟨h3, h⟩)]; rfl
        · rw [decide_eq_true h3, decide_eq_false (fun h => h4 ⟨h, h3⟩)]; rfl
theorem gtr_str (t : TypeId) (a b : ByteArray) : binOp .gtr t (.string a) (.string b) = pure (.bool (Op.bytesLess b.toList a.toList)) := by
  rw [← less_tri]; simp [binOp, Op.stringOp]
-- the values' own types

end Go.Proofs.Ytdjdgkjikibgaaa.PBuf
