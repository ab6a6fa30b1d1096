/- What the functions of package buf do: Insert, Delete, Put, Sum, Copy. -/
import Derived.Test.YtdjdgkjikibgaaaKBuf1
import Derived.Lib.LazyBuf
namespace Go.Proofs.Ytdjdgkjikibgaaa.PBuf
open Go.RowKit Go.Proofs.YtdjdgkjikibgaaaW.PrintWords Go.Proofs.YtdjdgkjikibgaaaW.PrintLast Go.Proofs.YtdjdgkjikibgaaaW.PrintMore Go.Proofs.Ytdjdgkjikibgaaa.KBuf
set_option linter.unusedVariables false
set_option linter.unusedSimpArgs false
theorem infoB : (Try.prog.info? 5).map (fun i => (i.zero, i.size, i.bytes)) = some (some (.int .u8 0), 1, 1) := by kernel_rfl
theorem wpList_app {P : Program} (w : World) {ops : Array Oper} {rest : List Oper} {o : Oper} {a : Act} {Q : Exit → Act → World → Prop}
    (hg : o.guard = none) (s x : Operand) (t tx : TypeId) (hop : o.op = Op.call { callee := Callee.builtin Builtin.append, args := #[s, x], argTypes := #[t, tx] })
    (vs vx v : Value) (w' : World) (hs : a.eval s = vs) (hx : a.eval x = vx) (hrun : (Builtin.append_ #[t, tx] o.type #[vs, vx]).run P w = .ok v w')
    (hK : wpList P ops Q rest (a.put o.dst v) w') : wpList P ops Q (o :: rest) a w := by
  refine wpList_plain hg fun K hK' => ?_
  unfold Oper.wp
  simp [execOp, hop, resolve, invoke, builtin, hs, hx, hrun, Result.andThen]
  exact hK' _ _ hK
section
variable {w : World} {p g cap : Nat} {D : List UInt8}
theorem min_zero (n : Nat) (ats : Array TypeId) (ty : TypeId) : Builtin.min_ ats ty #[.int .i64 (n : Int), .int .i64 0] = pure (.int .i64 0) := by
  have e1 : (if (0 : Int) < (n : Int) then (0 : Int) else (n : Int)) = 0 := by split <;> omega
  simp only [min_two, min2_int, gt_iff_lt, pure_bind, e1, bind_pure]
theorem off_zero (h : KBuf.Buf w p g D cap) (a : Nat) (hn : a ≤ D.length) : Calls Try.prog 29 #[.pointer (some ⟨p, 0, none⟩), .int .i64 a, .int .i64 0] w fun e w' => e = .returned (.int .i64 0) ∧ w = w' := off_ok h a 0 hn
def Inserted (w : World) (p g : Nat) (D : List UInt8) (e : Ending) (w' : World) : Prop :=
  e = .returned (.int .i64 0) ∧ ∃ g' cap', KBuf.Buf w' p g' D cap' ∧ (g' = g ∨ w.heap.size ≤ g') ∧ KBuf.Mod (fun k => k = p) w w'
theorem ins_plain {w w0 w1 w2 : World} {g g1 g2 c1 c2 a n L : Nat} {X : Prop} (hw : Below w.heap.size w w0) (hw0 : w0.heap.size = w.heap.size) (hL : a ≤ L) (hX : L = a → X) (HB1 : Below w0.heap.size w0 w1) (HM2 : KBuf.Mod (fun k => k = g1) w1 w2)
    (HG1 : g1 = g ∧ n = 0 ∧ c1 = a ∨ g1 = w0.heap.size) (HG2 : g2 = g1 ∧ (X → w2 = w1) ∧ a + n + (L - a) ≤ c1 ∧ c2 = c1 ∨ g2 = w1.heap.size ∧ c1 < a + n + (L - a) ∧ Below w1.heap.size w1 w2) :
    Below w.heap.size w w2 ∧ (g2 = g ∨ w.heap.size ≤ g2) := by
  have h1 := below_step hw HB1
  have hs := h1.size
  rcases HG1 with ⟨e1, e2, e3⟩ | e1
  · rcases HG2 with ⟨f1, f2, f3, f4⟩ | ⟨f1, f2, f3⟩
    · have := f2 (hX (by omega))
      subst this
      exact ⟨h1, .inl (f1.trans e1)⟩
    · exact ⟨below_step h1 f3, .inr (by omega)⟩
  · have h2 : Below w.heap.size w1 w2 := HM2.below hs (fun k hk e => by omega)
    refine ⟨h1.trans h2, .inr ?_⟩
    rcases HG2 with ⟨f1, _⟩ | ⟨f1, _⟩ <;> omega
set_option maxHeartbeats 8000000 in
set_option maxRecDepth 100000 in
theorem insert_ok (h : KBuf.Buf w p g D cap) (a n : Nat) (ha : a ≤ D.length) (hn : D.length + n ≤ 9216) (hne : a < cap) :
    Calls Try.prog 14 #[.pointer (some ⟨p, 0, none⟩), .int .i64 a, .int .i64 n] w (Inserted w p g (D.take a ++ List.replicate n 0 ++ D.drop a)) := by
  obtain ⟨i0, hi, hz, hsz, hby⟩ := info_parts infoB
  have HI := Aside0.mk (And.intro hi (And.intro hz (And.intro hsz hby)))
  have hc := h.cell
  have hle := h.row.le
  have hmin := min_zero n
  have h1 : decide ((n : Int) > 9216 - (D.length : Int)) = false := decide_eq_false (by omega)
  have h2 : (a : Int) ≤ (D.length : Int) := by omega
  have h3 : (a : Int) ≤ (cap : Int) := by omega
  have hcs : D.length ≤ cap := hle
  have HA := Aside0.mk h
  clear h hi hz hsz hby
  go_enter Try.func14, Try.ntmps14
  go_wp2_with fail
  go_at_call 29
  (with_reducible refine (off_zero HA.out a ha).mono ?_)
  rintro e u1 ⟨rfl, rfl⟩
  go_wp2_with fail
  go_quiet (fail)
  have htl : (D.take a).length = a := by rw [List.length_take]; omega
  have hdl : (D.drop a).length = D.length - a := List.length_drop
  have hA2 := HA.out.drewN nq
  have hrow := (hA2.row.upto a).narrow a (by omega) (by omega)
  rw [← htl] at hrow
  rw [htl] at hrow
  have hap := KBuf.append_make (P := Try.prog) 50 3 50 5 i0 Try.underlying50 Try.underlying3 HI.out.1 HI.out.2.1 HI.out.2.2.1 HI.out.2.2.2 (w.drewN nq) g n (D.take a) (by rw [htl]; exact hrow) (by rw [htl]; omega)
  rw [htl] at hap
  obtain ⟨g1, c1, w1, hr1, hrow1, hb1, hg1⟩ := hap
  have hA3 := hA2.below hb1
  have hsrc := KBuf.src_bytes (P := Try.prog) 50 5 Try.underlying50 w1 g a cap (cap - a) D (D.drop a) hA3.row (fun j u hu => by rwa [List.getElem?_drop] at hu)
  have hap2 := KBuf.append_row (P := Try.prog) 50 50 50 5 i0 Try.underlying50 HI.out.1 HI.out.2.1 HI.out.2.2.1 HI.out.2.2.2 w1 g1 c1 (D.take a ++ List.replicate n 0) (D.drop a) _ hrow1 hsrc (by rw [List.length_append, htl, List.length_replicate, hdl]; omega)
  have hl1 : (D.take a ++ List.replicate n (0 : UInt8)).length = a + n := by rw [List.length_append, htl, List.length_replicate]
  rw [hl1, hdl] at hap2
  obtain ⟨g2, c2, w2, hr2, hrow2, hm2, hg2⟩ := hap2
  have HG1 := Aside0.mk hg1
  have HG2 := Aside0.mk hg2
  have HB1 := Aside0.mk hb1
  have HM2 := Aside0.mk hm2
  have HR2 := Aside0.mk hrow2
  have HA3 := Aside0.mk hA3
  have HR1 := Aside0.mk hr1
  have HRUN2 := Aside0.mk hr2
  obtain ⟨hbel, hg2'⟩ := ins_plain (X := D.drop a = []) (pw_below_drewN (Below.refl _ _) nq) rfl ha (fun e => List.drop_of_length_le (by omega)) hb1 hm2 hg1 hg2
  have hbox : w2.heap[p]? = some (.cells #[.slice (some ⟨g, 0, none⟩) D.length cap] 64 (0, 0)) := (hbel.block p HA.out.plt).trans HA.out.box
  have hpg : p ≠ g2 := by
    rcases hg2' with e | e
    · rw [e]; exact HA.out.ne
    · have := HA.out.plt; omega
  have HBEL := Aside0.mk hbel
  have HBOX := Aside0.mk hbox
  have HPG := Aside0.mk hpg
  have HGG := Aside0.mk hg2'
  have HLEN : Aside0 ((D.take a ++ List.replicate n 0 ++ D.drop a).length = a + n + (D.length - a)) := ⟨by rw [List.length_append, hl1, hdl]⟩
  have hc2 : w2.cell? ⟨p, 0, none⟩ = some (.slice (some ⟨g, 0, none⟩) D.length cap) := (blk_cell hbox 0).trans rfl
  have hf2 : w2.frozen? ⟨p, 0, none⟩ = false := blk_frozen hbox 0
  clear hg1 hg2 hb1 hm2 hrow2 hA3 hA2 hrow hrow1 hsrc htl hdl hl1 hc hr1 hr2 hbel hbox hpg hg2' HG1 HG2 HB1 HM2 HA3
  go_wp2_with (first | (at_builtin; refine wpList_app _ rfl _ _ 50 3 rfl _ _ _ _ rfl rfl HR1.out ?_) | (at_builtin; refine wpList_app _ rfl _ _ 50 50 rfl _ _ _ _ rfl rfl HRUN2.out ?_))
  go_ret
  refine ⟨rfl, g2, c2, ⟨?_, ?_, HPG.out, ?_⟩, HGG.out, ?_⟩
  · rw [HLEN.out]; exact blk_put HBOX.out 0 _ rfl
  · exact HR2.out.same (Below.heap_setCell w2 ⟨p, 0, none⟩ _ g2 (fun e => HPG.out e.symm))
  · rw [HLEN.out]; omega
  · exact (KBuf.Mod.of_below HBEL.out).trans (KBuf.Mod.setCell w2 p 0 _ rfl)
end
end Go.Proofs.Ytdjdgkjikibgaaa.PBuf
