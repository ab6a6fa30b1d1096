/- A trie in memory: what Copy and All do. -/
import Derived.Test.YtpchlnbnpgaocaaKTrie6
namespace Go.Proofs.Ytpchlnbnpgaocaa.PTrie
open Go.Proofs.Ytpchlnbnpgaocaa.KTree Go.Proofs.Ytpchlnbnpgaocaa.KReg Go.Proofs.Ytpchlnbnpgaocaa.KBits Go.RowKit Go.Proofs.YtpchlnbnpgaocaaW.PrintWords Go.Proofs.YtpchlnbnpgaocaaW.PrintLast Go.Proofs.YtpchlnbnpgaocaaW.PrintMore
set_option linter.unusedVariables false
set_option linter.unusedSimpArgs false
section
variable {P : Program} {md : Region.Mode} {ops : Array Oper} {Q : Exit → Act → World → Prop} {S : World → Prop}
/-- One operation alone may come up; it changes the world. -/
theorem held_run (i : Nat) (d : Option Tmp) {o : Oper} {v : Value} {fuel : Nat} {listed : Array Bool} {a : Act} {w w' : World} (hr : Region.ready md ops listed = [i])
    (hi : ops[i]? = some o) (hd : o.dst = d) (hw : Region.wanted o (yielded ops a.tmps) = true) (hv : (execOp a.eval o).run P w = .ok (.value v) w') (h : S w' ∧ (S w' → wpAnyH P md ops Q S fuel (listed.setIfInBounds i true) (a.put d v) w')) : wpAnyH P md ops Q S (fuel + 1) listed a w := by
  subst hd
  refine wpAnyH_ready (rs := [i]) hr (by simp) (AllReadyH.cons hi (fun K hK => ?_) AllReadyH.nil)
  rw [if_pos hw]
  unfold Oper.wp
  rw [hv, Oper.upon_value]
  exact hK _ _ h.1 h.2
variable {ρ : Operand → Value} {o : Oper}
theorem ro_build2 {t : TypeId} {x y : Operand} {vx vy v : Value} (h : o.op = .build t #[(0, x), (1, y)]) (hx : ρ x = vx) (hy : ρ y = vy) (hr : ∀ w, (Instr.build t #[(0, vx), (1, vy)] : Sem Value).run P w = .ok v w) (w : World) : (execOp ρ o).run P w = .ok (.value v) w :=
  ro_build0 h (by subst hx hy; simp) hr w
theorem ro_build3 {t : TypeId} {x y z : Operand} {vx vy vz v : Value} (h : o.op = .build t #[(0, x), (1, y), (2, z)]) (hx : ρ x = vx) (hy : ρ y = vy) (hz : ρ z = vz) (hr : ∀ w, (Instr.build t #[(0, vx), (1, vy), (2, vz)] : Sem Value).run P w = .ok v w) (w : World) : (execOp ρ o).run P w = .ok (.value v) w :=
  ro_build0 h (by subst hx hy hz; simp) hr w
end
theorem ro_box54 {ρ : Operand → Value} {o : Oper} {x : Operand} {p q : Option Addr} {b : Bool} {n : Int} {w : World} (ho : o.op = .box 54 x) (h : ρ x = Value.agg #[.pointer p, .pointer q, .bool b, .int .i64 n]) : (execOp ρ o).run Try.prog w = .ok (.value (.pointer (some ⟨w.heap.size, 0, none⟩))) (w.alloc (.cells #[.pointer p, .pointer q, .bool b, .int .i64 n] 54)) := by
  unfold execOp; rw [ho]
  simp only [h]
  go_simp
theorem ro_box56 {ρ : Operand → Value} {o : Oper} {x : Operand} {p q : Option Addr} {b : Bool} {n m : Int} {w : World} (ho : o.op = .box 56 x) (h : ρ x = Value.agg #[.pointer p, .pointer q, .bool b, .int .i64 n, .int .i64 m]) : (execOp ρ o).run Try.prog w = .ok (.value (.pointer (some ⟨w.heap.size, 0, none⟩))) (w.alloc (.cells #[.pointer p, .pointer q, .bool b, .int .i64 n, .int .i64 m] 56)) := by
  unfold execOp; rw [ho]
  simp only [h]
  go_simp
theorem load54 {w : World} {g : Nat} {p q : Option Addr} {o : Option Int} (h : Nd w g p q o) : (Instr.loadAt 54 (.pointer (some ⟨g, 0, none⟩)) : Sem Value).run Try.prog w = .ok (.agg #[.pointer p, .pointer q, .bool o.isSome, .int .i64 (o.getD 0)]) w := by
  have c0 := h.c0
  have c1 := h.c1
  have c2 := h.c2
  have c3 := h.c3
  have u4 := Try.underlying54
  have u2 := Try.underlying52
  go_simp
/-- What a copy is: the tree in new blocks. -/
def Fresh (w : World) (t : Tri) (q : Option Addr) (G : List Nat) (w' : World) : Prop := Holds w' t q G ∧ G.Nodup ∧ (∀ z, z ∈ G → w.heap.size ≤ z) ∧ Below w.heap.size w w'
theorem copy_fin {w x1 x2 : World} {l r : Tri} {o : Option Int} {q1 q2 : Option Addr} {G1 G2 : List Nat} (h1 : Fresh w l q1 G1 x1) (h2 : Holds x2 l q1 G1 ∧ Holds x2 r q2 G2 ∧ G2.Nodup ∧ ∀ z, z ∈ G2 → z ∉ G1 ∧ w.heap.size ≤ z) (hb : Below w.heap.size w x2) :
    Fresh w (.node l r o) (some ⟨x2.heap.size, 0, none⟩) (x2.heap.size :: (G1 ++ G2)) (x2.alloc (.cells #[.pointer q1, .pointer q2, .bool o.isSome, .int .i64 (o.getD 0)] 54)) := by
  obtain ⟨k1, k2, k3, k4⟩ := h2
  have hn := blk_new x2 (.cells #[.pointer q1, .pointer q2, .bool o.isSome, .int .i64 (o.getD 0)] 54)
  have e := below_alloc (Below.refl x2.heap.size x2) (.cells #[.pointer q1, .pointer q2, .bool o.isSome, .int .i64 (o.getD 0)] 54)
  refine ⟨⟨x2.heap.size, q1, q2, G1, G2, rfl, rfl, Nd.of_blk hn rfl rfl rfl rfl, k1.below e, k2.below e⟩, ?_, ?_, below_alloc hb _⟩
  · rw [List.nodup_cons, List.nodup_append]
    refine ⟨fun hm => ?_, h1.2.1, k3, fun a ha c hc hac => ?_⟩
    · rcases List.mem_append.1 hm with hm | hm
      · exact absurd (k1.lt _ hm) (Nat.lt_irrefl _)
      · exact absurd (k2.lt _ hm) (Nat.lt_irrefl _)
    · subst hac; exact (k4 a hc).1 ha
  · intro z hz
    rcases List.mem_cons.1 hz with rfl | hz
    · exact hb.size
    · rcases List.mem_append.1 hz with hz | hz
      · exact h1.2.2.1 z hz
      · exact (k4 z hz).2
set_option maxHeartbeats 8000000 in
set_option maxRecDepth 100000 in
theorem copied_c : ∀ (t : Tri) (p : Option Addr) (F : List Nat) (w : World), Holds w t p F → Calls Try.prog 30 #[.pointer p] w fun e w' => ∃ q G, e = .returned (.pointer q) ∧ Fresh w t q G w' := by
  intro t
  induction t with
  | nil =>
    intro p F w h
    obtain rfl : p = none := h.1
    clear h
    go_enter Try.func30, Try.ntmps30
    go_wp2_with fail
    go_ret
    exact ⟨none, [], rfl, ⟨rfl, rfl⟩, List.nodup_nil, fun z hz => absurd hz List.not_mem_nil, Below.refl _ _⟩
  | node l r o ihl ihr =>
    intro p F w h
    obtain ⟨b, pl, pr, Fy, Fz, hp, hF, hn, hl, hr⟩ := h
    subst hp hF
    have HN := Aside0.mk hn
    have HL := Aside0.mk hl
    have HR := Aside0.mk hr
    clear hn hl hr
    go_enter Try.func30, Try.ntmps30
    go_wp2_with fail
    refine wp_region_held_drew (S := fun x => Below w.heap.size w x) (by kernel_rfl) (pw_below_drewN (Below.refl _ _) 1) ?_
    intro HS
    refine held_var (fun A hA => ?_)
    have s0 : A.eval (.tmp 0) = Value.pointer (some ⟨b, 0, none⟩) := by rw [hA]; rfl
    haveI HFr : Fr 28 A := ⟨by rw [hA]; exact Nat.le_refl _⟩
    have HAA := Aside0.mk hA
    clear hA
    refine held_pure 0 (some 5) (v := Value.pointer (some ⟨b, 0, none⟩)) rfl (by kernel_rfl) (by kernel_rfl) (by kernel_rfl) rfl (fun _ _ _ h => h) (wanted_none rfl) HS (fun w hS => (ro_move (.inl rfl) s0) w) ?_
    refine held_pure 1 (some 6) (v := Value.pointer (some ⟨b, 0, none⟩)) rfl (by kernel_rfl) (by kernel_rfl) (by kernel_rfl) rfl (fun _ _ _ h => h) (wanted_none rfl) HS (fun w hS => (ro_nil rfl (ev_eq (by decide))) w) ?_
    refine held_pure 2 (some 7) (v := Value.pointer (some ⟨b, 0, none⟩)) rfl (by kernel_rfl) (by kernel_rfl) (by kernel_rfl) rfl (fun _ _ _ h => h) (wanted_none rfl) HS (fun w hS => (ro_field rfl (ev_eq (by decide)) (fun w => by go_simp)) w) ?_
    refine held_pure 3 (some 8) (v := Value.pointer (some ⟨b, 0, none⟩)) rfl (by kernel_rfl) (by kernel_rfl) (by kernel_rfl) rfl (fun _ _ _ h => h) (wanted_none rfl) HS (fun w hS => (ro_iaddr rfl (ev_eq (by decide)) rfl (fun w => by go_simp)) w) ?_
    refine held_pure 4 (some 9) (v := Value.pointer pl) rfl (by kernel_rfl) (by kernel_rfl) (by kernel_rfl) rfl (fun _ _ _ h => h) (wanted_none rfl) HS (fun w hS => (fun w => ro_load rfl (ev_eq (by decide)) (loadP (HN.out.same (hS.block b HN.out.lt)).c0)) w) ?_
    refine held_pure 6 (some 11) (v := Value.pointer (some ⟨b, 0, none⟩)) rfl (by kernel_rfl) (by kernel_rfl) (by kernel_rfl) rfl (fun _ _ _ h => h) (wanted_none rfl) HS (fun w hS => (ro_move (.inl rfl) (ev_ne (by decide) (ev_ne (by decide) (ev_ne (by decide) (ev_ne (by decide) (ev_ne (by decide) s0)))))) w) ?_
    refine held_pure 7 (some 12) (v := Value.pointer (some ⟨b, 0, none⟩)) rfl (by kernel_rfl) (by kernel_rfl) (by kernel_rfl) rfl (fun _ _ _ h => h) (wanted_none rfl) HS (fun w hS => (ro_nil rfl (ev_eq (by decide))) w) ?_
    refine held_pure 8 (some 13) (v := Value.pointer (some ⟨b, 0, none⟩)) rfl (by kernel_rfl) (by kernel_rfl) (by kernel_rfl) rfl (fun _ _ _ h => h) (wanted_none rfl) HS (fun w hS => (ro_field rfl (ev_eq (by decide)) (fun w => by go_simp)) w) ?_
    refine held_pure 9 (some 14) (v := Value.pointer (some ⟨b, 1, none⟩)) rfl (by kernel_rfl) (by kernel_rfl) (by kernel_rfl) rfl (fun _ _ _ h => h) (wanted_none rfl) HS (fun w hS => (ro_iaddr rfl (ev_eq (by decide)) rfl (fun w => by go_simp)) w) ?_
    refine held_pure 10 (some 15) (v := Value.pointer pr) rfl (by kernel_rfl) (by kernel_rfl) (by kernel_rfl) rfl (fun _ _ _ h => h) (wanted_none rfl) HS (fun w hS => (fun w => ro_load rfl (ev_eq (by decide)) (loadP (HN.out.same (hS.block b HN.out.lt)).c1)) w) ?_
    refine held_pure 13 (some 18) (v := Value.pointer (some ⟨b, 0, none⟩)) rfl (by kernel_rfl) (by kernel_rfl) (by kernel_rfl) rfl (fun _ _ _ h => h) (wanted_none rfl) HS (fun w hS => (ro_move (.inl rfl) (ev_ne (by decide) (ev_ne (by decide) (ev_ne (by decide) (ev_ne (by decide) (ev_ne (by decide) (ev_ne (by decide) (ev_ne (by decide) (ev_ne (by decide) (ev_ne (by decide) (ev_ne (by decide) s0))))))))))) w) ?_
    refine held_pure 14 (some 19) (v := Value.pointer (some ⟨b, 0, none⟩)) rfl (by kernel_rfl) (by kernel_rfl) (by kernel_rfl) rfl (fun _ _ _ h => h) (wanted_none rfl) HS (fun w hS => (ro_nil rfl (ev_eq (by decide))) w) ?_
    refine held_pure 15 (some 20) (v := Value.pointer (some ⟨b, 2, none⟩)) rfl (by kernel_rfl) (by kernel_rfl) (by kernel_rfl) rfl (fun _ _ _ h => h) (wanted_none rfl) HS (fun w hS => (ro_field rfl (ev_eq (by decide)) (fun w => by go_simp)) w) ?_
    refine held_pure 16 (some 21) (v := Value.bool o.isSome) rfl (by kernel_rfl) (by kernel_rfl) (by kernel_rfl) rfl (fun _ _ _ h => h) (wanted_none rfl) HS (fun w hS => (fun w => ro_load rfl (ev_eq (by decide)) (loadB (HN.out.same (hS.block b HN.out.lt)).c2)) w) ?_
    refine held_pure 17 (some 22) (v := Value.pointer (some ⟨b, 0, none⟩)) rfl (by kernel_rfl) (by kernel_rfl) (by kernel_rfl) rfl (fun _ _ _ h => h) (wanted_none rfl) HS (fun w hS => (ro_move (.inl rfl) (ev_ne (by decide) (ev_ne (by decide) (ev_ne (by decide) (ev_ne (by decide) (ev_ne (by decide) (ev_ne (by decide) (ev_ne (by decide) (ev_ne (by decide) (ev_ne (by decide) (ev_ne (by decide) (ev_ne (by decide) (ev_ne (by decide) (ev_ne (by decide) (ev_ne (by decide) s0))))))))))))))) w) ?_
    refine held_pure 18 (some 23) (v := Value.pointer (some ⟨b, 0, none⟩)) rfl (by kernel_rfl) (by kernel_rfl) (by kernel_rfl) rfl (fun _ _ _ h => h) (wanted_none rfl) HS (fun w hS => (ro_nil rfl (ev_eq (by decide))) w) ?_
    refine held_pure 19 (some 24) (v := Value.pointer (some ⟨b, 3, none⟩)) rfl (by kernel_rfl) (by kernel_rfl) (by kernel_rfl) rfl (fun _ _ _ h => h) (wanted_none rfl) HS (fun w hS => (ro_field rfl (ev_eq (by decide)) (fun w => by go_simp)) w) ?_
    refine held_pure 20 (some 25) (v := Value.int .i64 (o.getD 0)) rfl (by kernel_rfl) (by kernel_rfl) (by kernel_rfl) rfl (fun _ _ _ h => h) (wanted_none rfl) HS (fun w hS => (fun w => ro_load rfl (ev_eq (by decide)) (loadN (HN.out.same (hS.block b HN.out.lt)).c3)) w) ?_
    refine held_call 5 (some 10) 30 #[Value.pointer pl] (by kernel_rfl) rfl rfl (wanted_none rfl) rfl (map1 (ev_ne (by decide) (ev_ne (by decide) (ev_ne (by decide) (ev_ne (by decide) (ev_ne (by decide) (ev_ne (by decide) (ev_ne (by decide) (ev_ne (by decide) (ev_ne (by decide) (ev_ne (by decide) (ev_ne (by decide) (ev_ne (by decide) (ev_ne (by decide) (ev_eq (by decide)))))))))))))))) (fun args w => by kernel_rfl) (ihl pl Fy _ (HL.out.below HS)) ?_
    rintro e x1 ⟨q1, G1, rfl, h1, d1, f1, b1⟩
    have HB1 := Aside0.mk (below_step HS b1)
    have HF1 := Aside0.mk (show Fresh w l q1 G1 x1 from ⟨h1, d1, fun z hz => Nat.le_trans HS.size (f1 z hz), HB1.out⟩)
    clear h1 d1 f1 b1 HS
    refine ⟨_, rfl, HB1.out, fun HS => ?_⟩
    refine held_call 11 (some 16) 30 #[Value.pointer pr] (by kernel_rfl) rfl rfl (wanted_none rfl) rfl (map1 (ev_ne (by decide) (ev_ne (by decide) (ev_ne (by decide) (ev_ne (by decide) (ev_ne (by decide) (ev_ne (by decide) (ev_ne (by decide) (ev_ne (by decide) (ev_ne (by decide) (ev_eq (by decide)))))))))))) (fun args w => by kernel_rfl) (ihr pr Fz _ (HR.out.below HS)) ?_
    rintro e x2 ⟨q2, G2, rfl, h2, d2, f2, b2⟩
    have HB2 := Aside0.mk (below_step HS b2)
    have HF2 := Aside0.mk (And.intro (HF1.out.1.below b2) (And.intro h2 (And.intro d2 (show ∀ z, z ∈ G2 → z ∉ G1 ∧ w.heap.size ≤ z from fun z hz => ⟨fun hm => absurd (HF1.out.1.lt z hm) (Nat.not_lt.2 (f2 z hz)), Nat.le_trans HS.size (f2 z hz)⟩))))
    clear h2 d2 f2 b2 HS
    refine ⟨_, rfl, HB2.out, fun HS => ?_⟩
    refine held_pure 12 (some 17) (v := Value.agg #[Value.pointer q1, Value.pointer q2]) rfl (by kernel_rfl) (by kernel_rfl) (by kernel_rfl) rfl (fun _ _ _ h => h) (wanted_none rfl) HS (fun w hS => ((ro_build2 rfl (ev_ne (by decide) (ev_eq (by decide))) (ev_eq (by decide)) (fun w => by go_simp))) w) ?_
    refine held_pure 21 (some 26) (v := Value.agg #[Value.pointer q1, Value.pointer q2, Value.bool o.isSome, Value.int .i64 (o.getD 0)]) rfl (by kernel_rfl) (by kernel_rfl) (by kernel_rfl) rfl (fun _ _ _ h => h) (wanted_none rfl) HS (fun w hS => ((ro_build3 rfl (ev_eq (by decide)) (ev_ne (by decide) (ev_ne (by decide) (ev_ne (by decide) (ev_ne (by decide) (ev_ne (by decide) (ev_ne (by decide) (ev_ne (by decide) (ev_eq (by decide))))))))) (ev_ne (by decide) (ev_ne (by decide) (ev_ne (by decide) (ev_eq (by decide))))) (fun w => by go_simp))) w) ?_
    refine held_run 22 (some 27) (v := Value.pointer (some ⟨x2.heap.size, 0, none⟩)) (by kernel_rfl) rfl rfl (wanted_none rfl) (ro_box54 rfl (ev_eq (by decide))) ?_
    have HX := Aside0.mk (below_alloc HS (.cells #[.pointer q1, .pointer q2, .bool o.isSome, .int .i64 (o.getD 0)] 54))
    refine ⟨HX.out, fun HS => ?_⟩
    refine held_pure 23 (some 2) (v := Value.pointer (some ⟨x2.heap.size, 0, none⟩)) rfl (by kernel_rfl) (by kernel_rfl) (by kernel_rfl) rfl (fun _ _ _ h => h) (wanted_none rfl) HS (fun w hS => (ro_move (.inr rfl) (ev_eq (by decide))) w) ?_
    refine held_done (by kernel_rfl) ?_
    have hA := HAA.out
    subst hA
    simp only [Act.put, List.setIfInBounds_toArray, List.set_cons_zero, List.set_cons_succ]
    clear HAA HFr s0
    clear HS
    go_wp2_with fail
    go_ret
    exact ⟨_, _, rfl, copy_fin HF1.out HF2.out HB2.out⟩
theorem copy_fin2 {w x1 : World} {l r : Tri} {o : Option Int} {q1 q2 : Option Addr} {g : Nat} {G1 G2 : List Nat} (h : Nd x1 g q1 q2 o ∧ Holds x1 l q1 G1 ∧ Holds x1 r q2 G2 ∧ (g :: (G1 ++ G2)).Nodup ∧ ∀ z, z ∈ g :: (G1 ++ G2) → w.heap.size ≤ z) (hb : Below w.heap.size w x1) :
    Tr (x1.alloc (.cells #[.pointer q1, .pointer q2, .bool o.isSome, .int .i64 (o.getD 0), .int .i64 (Tri.cnt (Tri.node l r o) : Nat)] 56)) x1.heap.size (.node l r o) (x1.heap.size :: (G1 ++ G2)) ∧ ∀ z, z ∈ x1.heap.size :: (G1 ++ G2) → w.heap.size ≤ z := by
  obtain ⟨_, k1, k2, k3, k4⟩ := h
  have hn := blk_new x1 (.cells #[.pointer q1, .pointer q2, .bool o.isSome, .int .i64 (o.getD 0), .int .i64 (Tri.cnt (Tri.node l r o) : Nat)] 56)
  have e := below_alloc (Below.refl x1.heap.size x1) (.cells #[.pointer q1, .pointer q2, .bool o.isSome, .int .i64 (o.getD 0), .int .i64 (Tri.cnt (Tri.node l r o) : Nat)] 56)
  refine ⟨⟨⟨x1.heap.size, q1, q2, G1, G2, rfl, rfl, Nd.of_blk hn rfl rfl rfl rfl, k1.below e, k2.below e⟩, ?_, (blk_cell hn 4).trans rfl, blk_frozen hn 4⟩, fun z hz => ?_⟩
  · rw [List.nodup_cons] at k3 ⊢
    refine ⟨fun hm => ?_, k3.2⟩
    rcases List.mem_append.1 hm with hm | hm
    · exact absurd (k1.lt _ hm) (Nat.lt_irrefl _)
    · exact absurd (k2.lt _ hm) (Nat.lt_irrefl _)
  · rcases List.mem_cons.1 hz with rfl | hz
    · exact hb.size
    · exact k4 z (List.mem_cons_of_mem _ hz)
set_option maxHeartbeats 8000000 in
set_option maxRecDepth 100000 in
theorem copy_c (b : Nat) (t : Tri) (F : List Nat) (w : World) (hT : Tr w b t F) : Calls Try.prog 22 #[.pointer (some ⟨b, 0, none⟩)] w fun e w' => ∃ q G, e = .returned (.pointer (some ⟨q, 0, none⟩)) ∧ Tr w' q t G ∧ (∀ z, z ∈ G → w.heap.size ≤ z) ∧ Below w.heap.size w w' := by
  cases t with
  | nil => exact absurd hT.hold.1 (by simp)
  | node l r o =>
    have HT := Aside0.mk hT
    clear hT
    go_enter Try.func22, Try.ntmps22
    go_wp2_with fail
    refine wp_region_held_drew (S := fun x => Below w.heap.size w x) (by kernel_rfl) (pw_below_drewN (Below.refl _ _) 1) ?_
    intro HS
    refine held_var (fun A hA => ?_)
    have s0 : A.eval (.tmp 0) = Value.pointer (some ⟨b, 0, none⟩) := by rw [hA]; rfl
    haveI HFr : Fr 17 A := ⟨by rw [hA]; exact Nat.le_refl _⟩
    have HAA := Aside0.mk hA
    clear hA
    refine held_pure 0 (some 5) (v := Value.pointer (some ⟨b, 0, none⟩)) rfl (by kernel_rfl) (by kernel_rfl) (by kernel_rfl) rfl (fun _ _ _ h => h) (wanted_none rfl) HS (fun w hS => (ro_move (.inl rfl) s0) w) ?_
    refine held_pure 1 (some 6) (v := Value.pointer (some ⟨b, 0, none⟩)) rfl (by kernel_rfl) (by kernel_rfl) (by kernel_rfl) rfl (fun _ _ _ h => h) (wanted_none rfl) HS (fun w hS => (ro_nil rfl (ev_eq (by decide))) w) ?_
    refine held_pure 2 (some 7) (v := Value.pointer (some ⟨b, 0, none⟩)) rfl (by kernel_rfl) (by kernel_rfl) (by kernel_rfl) rfl (fun _ _ _ h => h) (wanted_none rfl) HS (fun w hS => (ro_field rfl (ev_eq (by decide)) (fun w => by go_simp)) w) ?_
    refine held_pure 6 (some 11) (v := Value.pointer (some ⟨b, 0, none⟩)) rfl (by kernel_rfl) (by kernel_rfl) (by kernel_rfl) rfl (fun _ _ _ h => h) (wanted_none rfl) HS (fun w hS => (ro_move (.inl rfl) (ev_ne (by decide) (ev_ne (by decide) (ev_ne (by decide) s0)))) w) ?_
    refine held_pure 7 (some 12) (v := Value.pointer (some ⟨b, 0, none⟩)) rfl (by kernel_rfl) (by kernel_rfl) (by kernel_rfl) rfl (fun _ _ _ h => h) (wanted_none rfl) HS (fun w hS => (ro_nil rfl (ev_eq (by decide))) w) ?_
    refine held_pure 8 (some 13) (v := Value.pointer (some ⟨b, 4, none⟩)) rfl (by kernel_rfl) (by kernel_rfl) (by kernel_rfl) rfl (fun _ _ _ h => h) (wanted_none rfl) HS (fun w hS => (ro_field rfl (ev_eq (by decide)) (fun w => by go_simp)) w) ?_
    refine held_pure 9 (some 14) (v := Value.int .i64 (Tri.cnt (Tri.node l r o) : Nat)) rfl (by kernel_rfl) (by kernel_rfl) (by kernel_rfl) rfl (fun _ _ _ h => h) (wanted_none rfl) HS (fun w hS => (fun w => ro_load rfl (ev_eq (by decide)) (loadN ((HT.out.below hS).many))) w) ?_
    refine held_call 3 (some 8) 30 #[Value.pointer (some ⟨b, 0, none⟩)] (by kernel_rfl) rfl rfl (wanted_none rfl) rfl (map1 (ev_ne (by decide) (ev_ne (by decide) (ev_ne (by decide) (ev_ne (by decide) (ev_eq (by decide))))))) (fun args w => by kernel_rfl) (copied_c (Tri.node l r o) (some ⟨b, 0, none⟩) F _ (HT.out.hold.below HS)) ?_
    rintro e x1 ⟨q, G, rfl, ⟨g, q1, q2, G1, G2, hq, hG, hn, hl, hr⟩, d1, f1, b1⟩
    subst hq hG
    have HF := Aside0.mk (And.intro hn (And.intro hl (And.intro hr (And.intro d1 (show ∀ z, z ∈ g :: (G1 ++ G2) → w.heap.size ≤ z from fun z hz => Nat.le_trans HS.size (f1 z hz))))))
    have HB1 := Aside0.mk (below_step HS b1)
    clear hn hl hr d1 f1 b1 HS
    refine ⟨_, rfl, HB1.out, fun HS => ?_⟩
    refine held_pure 4 (some 9) (v := Value.pointer (some ⟨g, 0, none⟩)) rfl (by kernel_rfl) (by kernel_rfl) (by kernel_rfl) rfl (fun _ _ _ h => h) (wanted_none rfl) HS (fun w hS => (ro_nil rfl (ev_eq (by decide))) w) ?_
    refine held_run 5 (some 10) (v := Value.agg #[Value.pointer q1, Value.pointer q2, Value.bool o.isSome, Value.int .i64 (o.getD 0)]) (by kernel_rfl) rfl rfl (wanted_none rfl) (ro_load rfl (ev_eq (by decide)) (load54 HF.out.1)) ?_
    refine ⟨HS, fun _ => ?_⟩
    refine held_pure 10 (some 15) (v := Value.agg #[Value.pointer q1, Value.pointer q2, Value.bool o.isSome, Value.int .i64 (o.getD 0), Value.int .i64 (Tri.cnt (Tri.node l r o) : Nat)]) rfl (by kernel_rfl) (by kernel_rfl) (by kernel_rfl) rfl (fun _ _ _ h => h) (wanted_none rfl) HS (fun w hS => ((ro_build2 rfl (ev_eq (by decide)) (ev_ne (by decide) (ev_ne (by decide) (ev_ne (by decide) (ev_eq (by decide))))) (fun w => by go_simp))) w) ?_
    refine held_run 11 (some 16) (v := Value.pointer (some ⟨x1.heap.size, 0, none⟩)) (by kernel_rfl) rfl rfl (wanted_none rfl) (ro_box56 rfl (ev_eq (by decide))) ?_
    have HX := Aside0.mk (below_alloc HS (.cells #[.pointer q1, .pointer q2, .bool o.isSome, .int .i64 (o.getD 0), .int .i64 (Tri.cnt (Tri.node l r o) : Nat)] 56))
    refine ⟨HX.out, fun HS => ?_⟩
    refine held_pure 12 (some 2) (v := Value.pointer (some ⟨x1.heap.size, 0, none⟩)) rfl (by kernel_rfl) (by kernel_rfl) (by kernel_rfl) rfl (fun _ _ _ h => h) (wanted_none rfl) HS (fun w hS => (ro_move (.inr rfl) (ev_eq (by decide))) w) ?_
    refine held_done (by kernel_rfl) ?_
    have hA := HAA.out
    subst hA
    simp only [Act.put, List.setIfInBounds_toArray, List.set_cons_zero, List.set_cons_succ]
    clear HAA HFr s0
    clear HS
    go_wp2_with fail
    go_ret
    exact ⟨_, _, rfl, (copy_fin2 HF.out HB1.out).1, (copy_fin2 HF.out HB1.out).2, HX.out⟩
theorem all_root (p : Option Addr) (t : Tri) (F : List Nat) (w : World) (hT : Holds w t p F) (hd : depth t ≤ 1000000) (hc : Tri.cnt t ≤ 1000000) : Calls Try.prog 25 #[.pointer p, .slice none 0 0, .int .i64 0] w fun e w' => ∃ v, e = .returned v ∧ Kd.R k32 32 w' w.heap.size (fun _ => True) v (items t []) ∧ Below w.heap.size w w' :=
  all_c t p F [] [] 0 none 0 w rfl hT Key.nil (Kd.C_nil _ _) (Nat.le_refl _) (by simp; omega) hc
set_option maxHeartbeats 8000000 in
set_option maxRecDepth 100000 in
theorem all_top (b : Nat) (t : Tri) (F : List Nat) (w : World) (hT : Holds w t (some ⟨b, 0, none⟩) F) (hd : depth t ≤ 1000000) (hc : Tri.cnt t ≤ 1000000) : Calls Try.prog 12 #[.pointer (some ⟨b, 0, none⟩)] w fun e w' => ∃ v, e = .returned v ∧ Kd.R k32 32 w' w.heap.size (fun _ => True) v (items t []) ∧ Below w.heap.size w w' := by
  have HT := Aside0.mk hT
  have HD := Aside0.mk (And.intro hd hc)
  clear hT hd hc
  go_enter Try.func12, Try.ntmps12
  go_wp2_with fail
  go_at_call 25
  (with_reducible refine (all_root (some ⟨b, 0, none⟩) t F _ HT.out HD.out.1 HD.out.2).mono ?_)
  rintro e u ⟨v, rfl, hR, hb⟩
  have HR := Aside0.mk (And.intro hR hb)
  clear hR hb
  go_wp2_with fail
  go_ret
  exact ⟨v, rfl, HR.out.1, HR.out.2⟩
end Go.Proofs.Ytpchlnbnpgaocaa.PTrie
