/- What the functions of package buf do: Insert at the end of a full row, Delete. -/
import Derived.Test.YtdjdgkjikibgaaaKBuf2
import Derived.Deep.RegionLaw
import Derived.Laws.IdiomCopy
namespace Go.Proofs.Ytdjdgkjikibgaaa.PBuf
open Go.RowKit Go.Proofs.YtdjdgkjikibgaaaW.PrintWords Go.Proofs.YtdjdgkjikibgaaaW.PrintLast Go.Proofs.YtdjdgkjikibgaaaW.PrintMore Go.Proofs.Ytdjdgkjikibgaaa.KBuf
set_option linter.unusedVariables false
set_option linter.unusedSimpArgs false
theorem step_copy {P : Program} {ops : Array Oper} {o : Oper} {a : Act} {w : World} {K : Act → World → Prop} {Q : Exit → Act → World → Prop} {E : Prop}
    (hg : o.guard = none) (d x : Operand) (dT sT : TypeId) (hop : o.op = Op.call { callee := Callee.builtin Builtin.copy, args := #[d, x], argTypes := #[dT, sT] })
    (v u : Value) (hd : a.eval d = v) (hx : a.eval x = u) {v' : Value} {w' : World} (hr : (Builtin.copy_ #[dT, sT] o.type #[v, u]).run P w = .ok v' w') (hK : K (a.put o.dst v') w') :
    if Region.wanted o (yielded ops a.tmps) = true then Oper.wp P o a w K Q else E := by
  have hw : Region.wanted o (yielded ops a.tmps) = true := by simp [Region.wanted, hg]
  rw [if_pos hw]
  unfold Oper.wp
  simp [execOp, hop, resolve, invoke, builtin, hd, hx, hr, Result.andThen]
  exact hK
section
variable {w : World} {p g cap : Nat} {D : List UInt8}
theorem size5 : (Try.prog.info? 5).map (·.size) = some 1 := by kernel_rfl
theorem goInt_lit (n : Nat) (h : n ≤ 9223372036854775807) : goInt n = .int .i64 (n : Int) := by
  first
    | (unfold goInt; congr 1; rw [i64_w]; unfold wrap64; omega)
    | rfl
def Cut (w : World) (p g cap : Nat) (D : List UInt8) (e : Ending) (w' : World) : Prop := e = .returned (.int .i64 0) ∧ KBuf.Buf w' p g D cap ∧ KBuf.Mod (fun k => k = p ∨ k = g) w w'
set_option maxHeartbeats 8000000 in
set_option maxRecDepth 100000 in
theorem delete_ok1 (h : KBuf.Buf w p g D cap) (a n : Nat) (ha : a + n ≤ D.length) (hne : a + n < cap) :
    Calls Try.prog 16 #[.pointer (some ⟨p, 0, none⟩), .int .i64 a, .int .i64 n] w (Cut w p g cap (D.take a ++ D.drop (a + n))) := by
  have hsm := h.small
  have hle := h.row.le
  have h1 : a ≤ cap := by omega
  have h2 : a + n ≤ cap := by omega
  have h3 : a ≤ D.length := by omega
  have h4 : (a : Int) + (n : Int) ≤ (D.length : Int) := by omega
  have h5 : (0 : Int) ≤ (a : Int) + (n : Int) := by omega
  have h6 : ((a : Int) + (n : Int)).toNat = a + n := by omega
  have h7 : IntKind.i64.wrap ((a : Int) + (n : Int)) = (a : Int) + (n : Int) := by rw [i64_w]; unfold wrap64; omega
  have h8 : ¬ (cap = a + n) := by omega
  have h9 : ¬ (cap = a) := by omega
  have h10 : D.length - n ≤ cap := by omega
  have hdl : (D.drop (a + n)).length = D.length - (a + n) := List.length_drop
  obtain ⟨m, hm⟩ : ∃ m : Nat, m = D.length - (a + n) := ⟨_, rfl⟩
  have h11 : IntKind.i64.wrap ((a : Int) + (m : Int)) = ((D.length - n : Nat) : Int) := by rw [i64_w]; unfold wrap64; omega
  have HR := Aside0.mk (h.row.put (N := D.drop (a + n)) a (by omega) (by rw [hdl]; omega))
  obtain ⟨W1, hW1⟩ : ∃ W1, W1 = w.drew.setCells g a (KBuf.cells8 (D.drop (a + n))) := ⟨_, rfl⟩
  have hcp : ∀ ty, (Builtin.copy_ #[50, 50] ty #[.slice (some ⟨g, a, none⟩) (D.length - a) (cap - a), .slice (some ⟨g, a + n, none⟩) (D.length - (a + n)) (cap - (a + n))]).run Try.prog w.drew = .ok (.int .i64 (m : Int)) W1 := by
    intro ty
    have := run_copy_cells (P := Try.prog) w.drew 50 50 ty 5 g a (D.length - a) (cap - a) ⟨g, a + n, none⟩ (D.length - (a + n)) (cap - (a + n)) (KBuf.cells8 (D.drop (a + n))) Try.underlying50 size5
      (by rw [KBuf.cells8_len, hdl]; exact (Nat.min_eq_left (by omega)).symm) (fun j v hv => by
        unfold KBuf.cells8 at hv
        rw [List.getElem?_map, List.getElem?_drop] at hv
        cases hD : D[a + n + j]? with
        | none => rw [hD] at hv; cases hv
        | some b => rw [hD] at hv; cases hv; rw [Addr.add_lit]; exact h.row.cell _ _ hD)
      (fun j hj => h.row.more _ (by rw [KBuf.cells8_len, hdl] at hj; omega)) (fun j hj => h.row.free _ (by rw [KBuf.cells8_len, hdl] at hj; omega)) (KBuf.cells8_one _)
    rw [this, KBuf.cells8_len, hdl, goInt_lit _ (by omega), hW1, hm]
  have HC := Aside0.mk hcp
  clear hcp
  have hc := h.cell
  have hm1 : KBuf.Mod (fun k => k = g) w W1 := by rw [hW1]; exact (KBuf.Mod.of_below (pw_below_drewN (Below.refl _ _) 1)).trans (KBuf.Mod.setCells w.drew g a _ rfl)
  have hbox : W1.heap[p]? = some (.cells #[.slice (some ⟨g, 0, none⟩) D.length cap] 64 (0, 0)) := (hm1.block p h.plt h.ne).trans h.box
  have hc1 : W1.cell? ⟨p, 0, none⟩ = some (.slice (some ⟨g, 0, none⟩) D.length cap) := (blk_cell hbox 0).trans rfl
  have hf1 : W1.frozen? ⟨p, 0, none⟩ = false := blk_frozen hbox 0
  have hrow : KBuf.Row W1 g (D.take a ++ D.drop (a + n)) cap := by
    have hr := (h.drewN 1).row.put (N := D.drop (a + n)) a (by omega) (by rw [hdl]; omega)
    have hr2 := hr.upto (D.length - n)
    rw [hW1]
    have e : (D.take a ++ D.drop (a + n) ++ D.drop (a + (D.drop (a + n)).length)).take (D.length - n) = D.take a ++ D.drop (a + n) :=
      List.take_left' (by rw [List.length_append, hdl, List.length_take]; omega)
    rw [e] at hr2
    exact hr2
  have hlen : (D.take a ++ D.drop (a + n)).length = D.length - n := by rw [List.length_append, hdl, List.length_take]; omega
  have HM := Aside0.mk hm1
  have HBOX := Aside0.mk hbox
  have HROW := Aside0.mk hrow
  have HLEN := Aside0.mk hlen
  have HA := Aside0.mk h
  clear h hm1 hbox hrow hlen hW1 hdl HR hm
  go_enter Try.func16, Try.ntmps16
  go_wp2_with fail
  go_at_call 29
  (with_reducible refine (off_ok HA.out a n ha).mono ?_)
  rintro e u1 ⟨rfl, rfl⟩
  go_wp2_with fail
  go_region_law (refine step_copy rfl _ _ 50 50 rfl _ _ (by simp [Act.eval, Act.put]) (by simp [Act.eval, Act.put]) (HC.out _) ?_)
  all_goals go_wp2_with fail
  all_goals go_ret
  all_goals refine ⟨rfl, ⟨?_, HROW.out.same (Below.heap_setCell W1 ⟨p, 0, none⟩ _ g (fun e => HA.out.ne e.symm)), HA.out.ne, by rw [HLEN.out]; omega⟩, (HM.out.mono (fun k _ e => .inr e)).trans (KBuf.Mod.setCell W1 p 0 _ (.inl rfl))⟩
  all_goals rw [HLEN.out]; exact blk_put HBOX.out 0 _ rfl
end
end Go.Proofs.Ytdjdgkjikibgaaa.PBuf
