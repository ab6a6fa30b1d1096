/- A trie in memory: what Get, Len, Longest do. -/
import Derived.Test.YtpchlnbnpgaocaaKTrie1
namespace Go.Proofs.Ytpchlnbnpgaocaa.PTrie
open Go.Proofs.Ytpchlnbnpgaocaa.KTree Go.Proofs.Ytpchlnbnpgaocaa.KReg Go.Proofs.Ytpchlnbnpgaocaa.KBits Go.RowKit Go.Proofs.YtpchlnbnpgaocaaW.PrintWords Go.Proofs.YtpchlnbnpgaocaaW.PrintLast Go.Proofs.YtpchlnbnpgaocaaW.PrintMore
set_option linter.unusedVariables false
set_option linter.unusedSimpArgs false
theorem loadN {w : World} {b o : Nat} {x : Int} (hc : w.cell? ⟨b, o, none⟩ = some (.int .i64 x)) : (Instr.loadAt 3 (.pointer (some ⟨b, o, none⟩)) : Sem Value).run Try.prog w = .ok (.int .i64 x) w := by
  go_simp
theorem loadB {w : World} {b o : Nat} {x : Bool} (hc : w.cell? ⟨b, o, none⟩ = some (.bool x)) : (Instr.loadAt 4 (.pointer (some ⟨b, o, none⟩)) : Sem Value).run Try.prog w = .ok (.bool x) w := by
  go_simp
theorem Nd.drew {w : World} {b : Nat} {l r : Option Addr} {o : Option Int} (h : Nd w b l r o) : Nd w.drew b l r o := h.same rfl
theorem get_bad (b : Nat) (s : ByteArray) (n x : Int) (hx : ∃ k, trie_prefix.f k s n = some x) (hne : x ≠ 0) (w : World) :
    Calls Try.prog 16 #[.pointer (some ⟨b, 0, none⟩), .string s, .int .i64 n] w fun e w' => e = .returned (.tuple #[.int .i64 0, .bool false]) ∧ Below w.heap.size w w' := by
  go_enter Try.func16, Try.ntmps16
  go_wp2_with fail
  go_at_call 27
  (with_reducible refine (at_bad b s n x hx hne _).mono ?_)
  rintro e u ⟨rfl, hb1⟩
  have HB := Aside0.mk hb1
  clear hb1
  go_wp2_with fail
  go_ret2
  exact ⟨rfl, HB.out⟩
set_option maxHeartbeats 8000000 in
set_option maxRecDepth 100000 in
theorem get_ok (b : Nat) (t : Tri) (F : List Nat) (s : ByteArray) (n : Nat) (hn : n ≤ 8 * s.size) (hs : s.size ≤ 140737488351232) (w : World) (hx : ∃ k, trie_prefix.f k s n = some 0) (hT : Holds w t (some ⟨b, 0, none⟩) F) :
    Calls Try.prog 16 #[.pointer (some ⟨b, 0, none⟩), .string s, .int .i64 n] w fun e w' => e = .returned (.tuple #[.int .i64 ((Tri.get (kbits s.data.toList n) t).getD 0), .bool (Tri.get (kbits s.data.toList n) t).isSome]) ∧ Below w.heap.size w w' := by
  have HT := Aside0.mk hT
  clear hT
  rw [get_sub]
  cases hsub : sub (kbits s.data.toList n) t with
  | nil =>
    have HS := Aside0.mk hsub
    clear hsub
    go_enter Try.func16, Try.ntmps16
    go_wp2_with fail
    go_at_call 27
    (with_reducible refine (at_ok b t F s n hn hs _ hx HT.out).mono ?_)
    rintro e u ⟨x, rfl, hb1, hl⟩
    have HB := Aside0.mk hb1
    obtain ⟨Fx, hS, _⟩ := Holds.sub _ t _ _ F (HT.out.below hb1) hl
    rw [HS.out] at hS
    obtain rfl : x = none := hS.1
    clear hS hb1 hl
    go_wp2_with fail
    go_ret2
    exact ⟨rfl, HB.out⟩
  | node l r o =>
    have HS := Aside0.mk hsub
    clear hsub
    go_enter Try.func16, Try.ntmps16
    go_wp2_with fail
    go_at_call 27
    (with_reducible refine (at_ok b t F s n hn hs _ hx HT.out).mono ?_)
    rintro e u ⟨x, rfl, hb1, hl⟩
    obtain ⟨Fx, hS, _⟩ := Holds.sub _ t _ _ F (HT.out.below hb1) hl
    rw [HS.out] at hS
    obtain ⟨g, pl, pr, Gl, Gr, hp, _, hN, _, _⟩ := hS
    subst hp
    have HN := Aside0.mk hN.drew
    have HB2 := Aside0.mk (below_step hb1 (pw_below_drewN (Below.refl _ _) 1))
    clear hN hb1 hl
    go_wp2_with fail
    refine wp_region_any (by kernel_rfl) ?_
    change wpAny _ _ _ _ _ _ _ (World.drew _)
    refine any_var (fun A hA => ?_)
    have s8 : A.eval (.tmp 8) = Value.pointer (some ⟨g, 0, none⟩) := by rw [hA]; rfl
    haveI HFr : Fr 23 A := ⟨by rw [hA]; exact Nat.le_refl _⟩
    have HAA := Aside0.mk hA
    clear hA
    refine reg_pure 0 (some 15) (v := Value.pointer (some ⟨g, 0, none⟩)) rfl (by kernel_rfl) (by kernel_rfl) (by kernel_rfl) rfl (fun _ _ _ h => h) (wanted_none rfl) (ro_move (.inl rfl) s8) ?_
    refine reg_pure 1 (some 16) (v := Value.pointer (some ⟨g, 0, none⟩)) rfl (by kernel_rfl) (by kernel_rfl) (by kernel_rfl) rfl (fun _ _ _ h => h) (wanted_none rfl) (ro_nil rfl (ev_eq (by decide))) ?_
    refine reg_pure 2 (some 17) (v := Value.pointer (some ⟨g, 3, none⟩)) rfl (by kernel_rfl) (by kernel_rfl) (by kernel_rfl) rfl (fun _ _ _ h => h) (wanted_none rfl) (ro_field rfl (ev_eq (by decide)) (fun w => by go_simp)) ?_
    refine reg_pure 4 (some 19) (v := Value.pointer (some ⟨g, 0, none⟩)) rfl (by kernel_rfl) (by kernel_rfl) (by kernel_rfl) rfl (fun _ _ _ h => h) (wanted_none rfl) (ro_move (.inl rfl) (ev_ne (by decide) (ev_ne (by decide) (ev_ne (by decide) s8)))) ?_
    refine reg_pure 5 (some 20) (v := Value.pointer (some ⟨g, 0, none⟩)) rfl (by kernel_rfl) (by kernel_rfl) (by kernel_rfl) rfl (fun _ _ _ h => h) (wanted_none rfl) (ro_nil rfl (ev_eq (by decide))) ?_
    refine reg_pure 6 (some 21) (v := Value.pointer (some ⟨g, 2, none⟩)) rfl (by kernel_rfl) (by kernel_rfl) (by kernel_rfl) rfl (fun _ _ _ h => h) (wanted_none rfl) (ro_field rfl (ev_eq (by decide)) (fun w => by go_simp)) ?_
    refine wpAny_ready (rs := [3, 7]) (by kernel_rfl) (by simp) ?_
    refine br_load 3 (some 18) (v := Value.int .i64 (o.getD 0)) rfl rfl (wanted_none rfl) (ro_load rfl (ev_ne (by decide) (ev_ne (by decide) (ev_ne (by decide) (ev_eq (by decide))))) (loadN HN.out.c3)) ?_ ?_
    · skip
      refine reg_pure 8 (some 6) (v := Value.int .i64 (o.getD 0)) rfl (by kernel_rfl) (by kernel_rfl) (by kernel_rfl) rfl (fun _ _ _ h => h) (wanted_none rfl) (ro_move (.inr rfl) (ev_eq (by decide))) ?_
      refine wpAny_ready (rs := [7]) (by kernel_rfl) (by simp) ?_
      refine br_load 7 (some 22) (v := Value.bool o.isSome) rfl rfl (wanted_none rfl) (ro_load rfl (ev_ne (by decide) (ev_ne (by decide) (ev_eq (by decide)))) (loadB HN.out.c2)) ?_ ?_
      · skip
        refine reg_pure 9 (some 7) (v := Value.bool o.isSome) rfl (by kernel_rfl) (by kernel_rfl) (by kernel_rfl) rfl (fun _ _ _ h => h) (wanted_none rfl) (ro_move (.inr rfl) (ev_eq (by decide))) ?_
        refine reg_done (by kernel_rfl) ?_
        have hA := HAA.out
        subst hA
        simp only [Act.put, List.setIfInBounds_toArray, List.set_cons_zero, List.set_cons_succ]
        clear HAA HFr s8
        go_wp2_with fail
        go_ret2
        exact ⟨rfl, HB2.out⟩
      exact AllReady.nil
    refine br_load 7 (some 22) (v := Value.bool o.isSome) rfl rfl (wanted_none rfl) (ro_load rfl (ev_eq (by decide)) (loadB HN.out.c2)) ?_ ?_
    · skip
      refine wpAny_ready (rs := [3]) (by kernel_rfl) (by simp) ?_
      refine br_load 3 (some 18) (v := Value.int .i64 (o.getD 0)) rfl rfl (wanted_none rfl) (ro_load rfl (ev_ne (by decide) (ev_ne (by decide) (ev_ne (by decide) (ev_ne (by decide) (ev_eq (by decide)))))) (loadN HN.out.c3)) ?_ ?_
      · skip
        refine reg_pure 8 (some 6) (v := Value.int .i64 (o.getD 0)) rfl (by kernel_rfl) (by kernel_rfl) (by kernel_rfl) rfl (fun _ _ _ h => h) (wanted_none rfl) (ro_move (.inr rfl) (ev_eq (by decide))) ?_
        refine reg_pure 9 (some 7) (v := Value.bool o.isSome) rfl (by kernel_rfl) (by kernel_rfl) (by kernel_rfl) rfl (fun _ _ _ h => h) (wanted_none rfl) (ro_move (.inr rfl) (ev_ne (by decide) (ev_ne (by decide) (ev_eq (by decide))))) ?_
        refine reg_done (by kernel_rfl) ?_
        have hA := HAA.out
        subst hA
        simp only [Act.put, List.setIfInBounds_toArray, List.set_cons_zero, List.set_cons_succ]
        clear HAA HFr s8
        go_wp2_with fail
        go_ret2
        exact ⟨rfl, HB2.out⟩
      exact AllReady.nil
    exact AllReady.nil
set_option maxHeartbeats 4000000 in
theorem len_c {w : World} {b : Nat} {t : Tri} {F : List Nat} (h : Tr w b t F) : Calls Try.prog 18 #[.pointer (some ⟨b, 0, none⟩)] w fun e w' => e = .returned (.int .i64 (Tri.cnt t : Nat)) ∧ w = w' := by
  have c4 := h.many
  go_enter Try.func18, Try.ntmps18
  go_wp2_with fail
  go_ret
  exact ⟨rfl, rfl⟩
/-- What Longest answers. -/
def lonV (x : Option (Nat × Int)) : Value := .tuple #[.int .i64 ((x.map fun q => (q.1 : Int)).getD 0), .int .i64 ((x.map fun q => q.2).getD 0), .bool x.isSome]
def upd (o : Option Int) (i : Nat) (best : Option (Nat × Int)) : Option (Nat × Int) := (o.map fun v => (i, v)).or best
theorem lon_nil (i : Nat) (best : Option (Nat × Int)) : ∀ bs, Tri.lon bs i best .nil = best
  | [] => rfl
  | _ :: _ => rfl
theorem lon_end (i : Nat) (best : Option (Nat × Int)) (l r : Tri) (o : Option Int) : Tri.lon [] i best (.node l r o) = upd o i best := rfl
theorem lon_step (b : Bool) (bs : List Bool) (i : Nat) (best : Option (Nat × Int)) (l r : Tri) (o : Option Int) : Tri.lon (b :: bs) i best (.node l r o) = Tri.lon bs (i + 1) (upd o i best) (Tri.kid b (.node l r o)) := rfl
theorem bits_drop (D : List UInt8) (n i : Nat) (h : i < n) : (kbits D n).drop i = bitAt D i :: (kbits D n).drop (i + 1) := by
  have hl : i < (kbits D n).length := by rw [bits_length]; exact h
  rw [List.drop_eq_getElem_cons hl]
  congr 1
  simp [kbits]
def n1 (x : Option (Nat × Int)) : Int := (x.map fun q => (q.1 : Int)).getD 0
def n2 (x : Option (Nat × Int)) : Int := (x.map fun q => q.2).getD 0
/-- Where Longest stands. -/
def LonAt (w : World) (b : Nat) (t : Tri) (s : ByteArray) (i : Nat) (best : Option (Nat × Int)) (x : Option Addr) (wr : World) : Prop :=
  Below w.heap.size w wr ∧ Loc wr ((kbits s.data.toList (8 * s.size)).take i) t (some ⟨b, 0, none⟩) x ∧ Tri.lon (kbits s.data.toList (8 * s.size)) 0 none t = Tri.lon ((kbits s.data.toList (8 * s.size)).drop i) i best (sub ((kbits s.data.toList (8 * s.size)).take i) t)
theorem LonAt.next {w : World} {b : Nat} {t : Tri} {F : List Nat} {s : ByteArray} {i : Nat} {best : Option (Nat × Int)} {g : Nat} {wr wr' : World} {l r : Tri} {o : Option Int} {pl pr : Option Addr} (h : LonAt w b t s i best (some ⟨g, 0, none⟩) wr) (hT : Holds w t (some ⟨b, 0, none⟩) F)
    (hsub : sub ((kbits s.data.toList (8 * s.size)).take i) t = .node l r o) (hN : Nd wr g pl pr o) (hi : i < 8 * s.size) (hb : Below wr.heap.size wr wr') (c : Bool) (hc : tb s i = c) : LonAt w b t s (i + 1) (upd o i best) (if c then pr else pl) wr' := by
  obtain ⟨h1, h2, h3⟩ := h
  have hT2 := hT.below h1
  subst hc
  refine ⟨below_step h1 hb, ?_, ?_⟩
  · rw [bits_take _ _ _ hi]
    exact Loc.snoc _ _ t _ F g pl pr o (hT2.below hb) (Loc.below _ t _ _ F hT2 hb h2) (hN.same (hb.block g hN.lt))
  · rw [h3, bits_drop _ _ _ hi, hsub, lon_step, bits_take _ _ _ hi, sub_append, hsub]; rfl
theorem LonAt.node {w : World} {b : Nat} {t : Tri} {F : List Nat} {s : ByteArray} {i : Nat} {best : Option (Nat × Int)} {y : Addr} {wr : World} (h : LonAt w b t s i best (some y) wr) (hT : Holds w t (some ⟨b, 0, none⟩) F) :
    ∃ g l r o pl pr, y = ⟨g, 0, none⟩ ∧ sub ((kbits s.data.toList (8 * s.size)).take i) t = .node l r o ∧ Nd wr g pl pr o := by
  obtain ⟨Fx, hS, _⟩ := Holds.sub _ t _ _ F (hT.below h.1) h.2.1
  cases hs : sub ((kbits s.data.toList (8 * s.size)).take i) t with
  | nil => rw [hs] at hS; exact absurd hS.1 (by simp)
  | node l r o =>
    rw [hs] at hS
    obtain ⟨g, pl, pr, Gl, Gr, hp, _, hN, _, _⟩ := hS
    exact ⟨g, l, r, o, pl, pr, by cases hp; rfl, rfl, hN⟩
theorem LonAt.done {w : World} {b : Nat} {t : Tri} {F : List Nat} {s : ByteArray} {i : Nat} {best : Option (Nat × Int)} {wr : World} (h : LonAt w b t s i best none wr) (hT : Holds w t (some ⟨b, 0, none⟩) F) : Tri.lon (kbits s.data.toList (8 * s.size)) 0 none t = best := by
  obtain ⟨Fx, hS, _⟩ := Holds.sub _ t _ _ F (hT.below h.1) h.2.1
  rw [h.2.2]
  cases hs : sub ((kbits s.data.toList (8 * s.size)).take i) t with
  | nil => exact lon_nil i best _
  | node l r o => rw [hs] at hS; obtain ⟨g, pl, pr, Gl, Gr, hp, _⟩ := hS; cases hp
theorem LonAt.full {w : World} {b : Nat} {t : Tri} {s : ByteArray} {i : Nat} {best : Option (Nat × Int)} {x : Option Addr} {wr : World} {l r : Tri} {o : Option Int} (h : LonAt w b t s i best x wr) (hsub : sub ((kbits s.data.toList (8 * s.size)).take i) t = .node l r o) (hi : i = 8 * s.size) :
    Tri.lon (kbits s.data.toList (8 * s.size)) 0 none t = upd o i best := by
  rw [h.2.2, hsub, hi, List.drop_of_length_le (by rw [bits_length]; exact Nat.le_refl _), lon_end]
set_option maxHeartbeats 8000000 in
set_option maxRecDepth 100000 in
theorem lon_c (b : Nat) (t : Tri) (F : List Nat) (s : ByteArray) (hs : s.size ≤ 140737488351232) (w : World) (hT : Holds w t (some ⟨b, 0, none⟩) F) :
    Calls Try.prog 11 #[.pointer (some ⟨b, 0, none⟩), .string s] w fun e w' => e = .returned (lonV (Tri.lon (kbits s.data.toList (8 * s.size)) 0 none t)) ∧ Below w.heap.size w w' := by
  have HT := Aside0.mk hT
  have HZ := Aside0.mk hs
  have hs1 : 8 * (s.size : Int) ≤ 1125899906809856 := by omega
  clear hT hs
  go_enter Try.func11, Try.ntmps11
  go_wp2_with fail
  go_loopg [4, 5, 6, 7, 8] (8 * s.size) (fun d v4 v5 v6 v7 v8 wr => ∃ (i : Nat) (best : Option (Nat × Int)) (x : Option Addr), v4 = .int .i64 (n1 best) ∧ v5 = .int .i64 (n2 best) ∧ v6 = .bool best.isSome ∧ v7 = .pointer x ∧ v8 = .int .i64 i ∧ Aside0 (i + d = 8 * s.size) ∧ Aside0 (LonAt w b t s i best x wr))
  case atStart => exact ⟨0, none, _, rfl, rfl, rfl, rfl, rfl, ⟨by omega⟩, ⟨Below.refl _ _, rfl, rfl⟩⟩
  case round =>
    obtain ⟨i, best, x, h4, h5, h6, h7, h8, HD, HL⟩ := hrel
    subst h4 h5 h6 h7 h8
    have hi1 : (i : Int) ≤ 8 * (s.size : Int) := by have := HD.out; omega
    cases x with
    | none =>
      have HR := Aside0.mk (LonAt.done HL.out HT.out)
      go_wp2_with fail
      go_ret3
      exact ⟨by rw [HR.out]; rfl, HL.out.1⟩
    | some y =>
      obtain ⟨g, l, r, o, pl, pr, rfl, hsub, hN⟩ := LonAt.node HL.out HT.out
      have HS := Aside0.mk hsub
      have HN := Aside0.mk hN
      clear hsub
      have c2 := hN.c2
      cases o with
      | none =>
        have c2' : wr.cell? ⟨g, 2, none⟩ = some (.bool false) := c2
        clear c2 hN
        have HW := Aside0.mk (Below.refl wr.heap.size wr)
        by_cases hN2 : i = 8 * s.size
        · have hfull := LonAt.full HL.out HS.out hN2
          have HR := Aside0.mk hfull
          clear hfull
          have hq : ((i : Int) == 8 * (s.size : Int)) = true := by simp; omega
          clear hN2
          go_wp2_with fail
          go_ret3
          exact ⟨by rw [HR.out]; rfl, below_step HL.out.1 HW.out⟩
        · have hq : ((i : Int) == 8 * (s.size : Int)) = false := beq_false_of_ne (by omega)
          cases hb : tb s i
          · go_wp2_with fail
            refine wp_region_any (by kernel_rfl) ?_
            change wpAny _ _ _ _ _ _ _ (World.drew _)
            refine any_var (fun A hA => ?_)
            have s1 : A.eval (.tmp 1) = Value.string s := by rw [hA]; rfl
            have s7 : A.eval (.tmp 7) = Value.pointer (some ⟨g, 0, none⟩) := by rw [hA]; rfl
            have s8 : A.eval (.tmp 8) = Value.int .i64 (i : Int) := by rw [hA]; rfl
            haveI HFr : Fr 43 A := ⟨by rw [hA]; exact Nat.le_refl _⟩
            have HAA := Aside0.mk hA
            clear hA
            refine reg_pure 0 (some 32) (v := Value.pointer (some ⟨g, 0, none⟩)) rfl (by kernel_rfl) (by kernel_rfl) (by kernel_rfl) rfl (fun _ _ _ h => h) (wanted_none rfl) (ro_move (.inl rfl) s7) ?_
            refine reg_pure 1 (some 33) (v := Value.string s) rfl (by kernel_rfl) (by kernel_rfl) (by kernel_rfl) rfl (fun _ _ _ h => h) (wanted_none rfl) (ro_move (.inl rfl) (ev_ne (by decide) s1)) ?_
            refine reg_pure 2 (some 34) (v := Value.int .i64 (i : Int)) rfl (by kernel_rfl) (by kernel_rfl) (by kernel_rfl) rfl (fun _ _ _ h => h) (wanted_none rfl) (ro_move (.inl rfl) (ev_ne (by decide) (ev_ne (by decide) s8))) ?_
            refine reg_pure 4 (some 36) (v := Value.pointer (some ⟨g, 0, none⟩)) rfl (by kernel_rfl) (by kernel_rfl) (by kernel_rfl) rfl (fun _ _ _ h => h) (wanted_none rfl) (ro_nil rfl (ev_ne (by decide) (ev_ne (by decide) (ev_eq (by decide))))) ?_
            refine reg_pure 5 (some 37) (v := Value.pointer (some ⟨g, 0, none⟩)) rfl (by kernel_rfl) (by kernel_rfl) (by kernel_rfl) rfl (fun _ _ _ h => h) (wanted_none rfl) (ro_field rfl (ev_eq (by decide)) (fun w => by go_simp)) ?_
            refine wpAny_ready (rs := [3]) (by kernel_rfl) (by simp) ?_
            refine br_call 3 (some 35) 24 #[Value.string s, Value.int .i64 (i : Int)] rfl rfl (wanted_none rfl) rfl (map2 (ev_ne (by decide) (ev_ne (by decide) (ev_ne (by decide) (ev_eq (by decide))))) (ev_ne (by decide) (ev_ne (by decide) (ev_eq (by decide))))) (fun args w => by kernel_rfl) (bit_v s i (by have := HD.out; omega) HZ.out _ 0 (by rw [hb]; rfl)) ?_ ?_
            · rintro e u2 ⟨rfl, hb2⟩
              have HB2 := Aside0.mk (below_step (below_step HW.out (pw_below_drewN (Below.refl _ _) 1)) hb2)
              have HN2 := Aside0.mk (HN.out.same (HB2.out.block g HN.out.lt))
              clear hb2
              refine ⟨_, rfl, ?_⟩
              refine reg_pure 6 (some 38) (v := Value.pointer (some ⟨g, 0, none⟩)) rfl (by kernel_rfl) (by kernel_rfl) (by kernel_rfl) rfl (fun _ _ _ h => h) (wanted_none rfl) (ro_iaddr rfl (ev_ne (by decide) (ev_eq (by decide))) (ev_eq (by decide)) (fun w => by go_simp)) ?_
              refine wpAny_ready (rs := [7]) (by kernel_rfl) (by simp) ?_
              refine br_load 7 (some 39) (v := Value.pointer pl) rfl rfl (wanted_none rfl) (ro_load rfl (ev_eq (by decide)) (loadP HN2.out.c0)) ?_ ?_
              · skip
                refine reg_pure 8 (some 7) (v := Value.pointer pl) rfl (by kernel_rfl) (by kernel_rfl) (by kernel_rfl) rfl (fun _ _ _ h => h) (wanted_none rfl) (ro_move (.inr rfl) (ev_eq (by decide))) ?_
                refine reg_done (by kernel_rfl) ?_
                have hA := HAA.out
                subst hA
                simp only [Act.put, List.setIfInBounds_toArray, List.set_cons_zero, List.set_cons_succ]
                clear HAA HFr s1 s7 s8
                go_wp2_with fail
                go_roundg (8 * s.size - 1 - i)
                case measure => have := HD.out; omega
                case rel => exact ⟨i + 1, upd none i best, _, rfl, rfl, rfl, rfl, by go_num, ⟨by have := HD.out; omega⟩, ⟨LonAt.next HL.out HT.out HS.out HN.out (by omega) HB2.out false hb⟩⟩
              exact AllReady.nil
            exact AllReady.nil
          · go_wp2_with fail
            refine wp_region_any (by kernel_rfl) ?_
            change wpAny _ _ _ _ _ _ _ (World.drew _)
            refine any_var (fun A hA => ?_)
            have s1 : A.eval (.tmp 1) = Value.string s := by rw [hA]; rfl
            have s7 : A.eval (.tmp 7) = Value.pointer (some ⟨g, 0, none⟩) := by rw [hA]; rfl
            have s8 : A.eval (.tmp 8) = Value.int .i64 (i : Int) := by rw [hA]; rfl
            haveI HFr : Fr 43 A := ⟨by rw [hA]; exact Nat.le_refl _⟩
            have HAA := Aside0.mk hA
            clear hA
            refine reg_pure 0 (some 32) (v := Value.pointer (some ⟨g, 0, none⟩)) rfl (by kernel_rfl) (by kernel_rfl) (by kernel_rfl) rfl (fun _ _ _ h => h) (wanted_none rfl) (ro_move (.inl rfl) s7) ?_
            refine reg_pure 1 (some 33) (v := Value.string s) rfl (by kernel_rfl) (by kernel_rfl) (by kernel_rfl) rfl (fun _ _ _ h => h) (wanted_none rfl) (ro_move (.inl rfl) (ev_ne (by decide) s1)) ?_
            refine reg_pure 2 (some 34) (v := Value.int .i64 (i : Int)) rfl (by kernel_rfl) (by kernel_rfl) (by kernel_rfl) rfl (fun _ _ _ h => h) (wanted_none rfl) (ro_move (.inl rfl) (ev_ne (by decide) (ev_ne (by decide) s8))) ?_
            refine reg_pure 4 (some 36) (v := Value.pointer (some ⟨g, 0, none⟩)) rfl (by kernel_rfl) (by kernel_rfl) (by kernel_rfl) rfl (fun _ _ _ h => h) (wanted_none rfl) (ro_nil rfl (ev_ne (by decide) (ev_ne (by decide) (ev_eq (by decide))))) ?_
            refine reg_pure 5 (some 37) (v := Value.pointer (some ⟨g, 0, none⟩)) rfl (by kernel_rfl) (by kernel_rfl) (by kernel_rfl) rfl (fun _ _ _ h => h) (wanted_none rfl) (ro_field rfl (ev_eq (by decide)) (fun w => by go_simp)) ?_
            refine wpAny_ready (rs := [3]) (by kernel_rfl) (by simp) ?_
            refine br_call 3 (some 35) 24 #[Value.string s, Value.int .i64 (i : Int)] rfl rfl (wanted_none rfl) rfl (map2 (ev_ne (by decide) (ev_ne (by decide) (ev_ne (by decide) (ev_eq (by decide))))) (ev_ne (by decide) (ev_ne (by decide) (ev_eq (by decide))))) (fun args w => by kernel_rfl) (bit_v s i (by have := HD.out; omega) HZ.out _ 1 (by rw [hb]; rfl)) ?_ ?_
            · rintro e u2 ⟨rfl, hb2⟩
              have HB2 := Aside0.mk (below_step (below_step HW.out (pw_below_drewN (Below.refl _ _) 1)) hb2)
              have HN2 := Aside0.mk (HN.out.same (HB2.out.block g HN.out.lt))
              clear hb2
              refine ⟨_, rfl, ?_⟩
              refine reg_pure 6 (some 38) (v := Value.pointer (some ⟨g, 1, none⟩)) rfl (by kernel_rfl) (by kernel_rfl) (by kernel_rfl) rfl (fun _ _ _ h => h) (wanted_none rfl) (ro_iaddr rfl (ev_ne (by decide) (ev_eq (by decide))) (ev_eq (by decide)) (fun w => by go_simp)) ?_
              refine wpAny_ready (rs := [7]) (by kernel_rfl) (by simp) ?_
              refine br_load 7 (some 39) (v := Value.pointer pr) rfl rfl (wanted_none rfl) (ro_load rfl (ev_eq (by decide)) (loadP HN2.out.c1)) ?_ ?_
              · skip
                refine reg_pure 8 (some 7) (v := Value.pointer pr) rfl (by kernel_rfl) (by kernel_rfl) (by kernel_rfl) rfl (fun _ _ _ h => h) (wanted_none rfl) (ro_move (.inr rfl) (ev_eq (by decide))) ?_
                refine reg_done (by kernel_rfl) ?_
                have hA := HAA.out
                subst hA
                simp only [Act.put, List.setIfInBounds_toArray, List.set_cons_zero, List.set_cons_succ]
                clear HAA HFr s1 s7 s8
                go_wp2_with fail
                go_roundg (8 * s.size - 1 - i)
                case measure => have := HD.out; omega
                case rel => exact ⟨i + 1, upd none i best, _, rfl, rfl, rfl, rfl, by go_num, ⟨by have := HD.out; omega⟩, ⟨LonAt.next HL.out HT.out HS.out HN.out (by omega) HB2.out true hb⟩⟩
              exact AllReady.nil
            exact AllReady.nil
      | some v0 =>
        have c2' : wr.cell? ⟨g, 2, none⟩ = some (.bool true) := c2
        clear c2 hN
        go_wp2_with fail
        clear c2'
        have HW := Aside0.mk (below_step (Below.refl wr.heap.size wr) (pw_below_drewN (Below.refl _ _) 1))
        refine wp_region_any (by kernel_rfl) ?_
        change wpAny _ _ _ _ _ _ _ (World.drew _)
        refine any_var (fun A hA => ?_)
        have s7 : A.eval (.tmp 7) = Value.pointer (some ⟨g, 0, none⟩) := by rw [hA]; rfl
        have s8 : A.eval (.tmp 8) = Value.int .i64 (i : Int) := by rw [hA]; rfl
        haveI HFr : Fr 43 A := ⟨by rw [hA]; exact Nat.le_refl _⟩
        have HAA := Aside0.mk hA
        clear hA
        refine reg_pure 0 (some 22) (v := Value.int .i64 (i : Int)) rfl (by kernel_rfl) (by kernel_rfl) (by kernel_rfl) rfl (fun _ _ _ h => h) (wanted_none rfl) (ro_move (.inl rfl) s8) ?_
        refine reg_pure 1 (some 23) (v := Value.pointer (some ⟨g, 0, none⟩)) rfl (by kernel_rfl) (by kernel_rfl) (by kernel_rfl) rfl (fun _ _ _ h => h) (wanted_none rfl) (ro_move (.inl rfl) (ev_ne (by decide) s7)) ?_
        refine reg_pure 2 (some 24) (v := Value.pointer (some ⟨g, 0, none⟩)) rfl (by kernel_rfl) (by kernel_rfl) (by kernel_rfl) rfl (fun _ _ _ h => h) (wanted_none rfl) (ro_nil rfl (ev_eq (by decide))) ?_
        refine reg_pure 3 (some 25) (v := Value.pointer (some ⟨g, 3, none⟩)) rfl (by kernel_rfl) (by kernel_rfl) (by kernel_rfl) rfl (fun _ _ _ h => h) (wanted_none rfl) (ro_field rfl (ev_eq (by decide)) (fun w => by go_simp)) ?_
        refine reg_pure 5 (some 4) (v := Value.int .i64 (i : Int)) rfl (by kernel_rfl) (by kernel_rfl) (by kernel_rfl) rfl (fun _ _ _ h => h) (wanted_none rfl) (ro_move (.inr rfl) (ev_ne (by decide) (ev_ne (by decide) (ev_ne (by decide) (ev_eq (by decide)))))) ?_
        refine wpAny_ready (rs := [4]) (by kernel_rfl) (by simp) ?_
        refine br_load 4 (some 26) (v := Value.int .i64 v0) rfl rfl (wanted_none rfl) (ro_load rfl (ev_ne (by decide) (ev_eq (by decide))) (loadN HN.out.drew.c3)) ?_ ?_
        · skip
          refine reg_pure 6 (some 5) (v := Value.int .i64 v0) rfl (by kernel_rfl) (by kernel_rfl) (by kernel_rfl) rfl (fun _ _ _ h => h) (wanted_none rfl) (ro_move (.inr rfl) (ev_eq (by decide))) ?_
          refine reg_pure 7 (some 6) (v := Value.bool true) rfl (by kernel_rfl) (by kernel_rfl) (by kernel_rfl) rfl (fun _ _ _ h => h) (wanted_none rfl) (ro_move (.inr rfl) rfl) ?_
          refine reg_done (by kernel_rfl) ?_
          have hA := HAA.out
          subst hA
          simp only [Act.put, List.setIfInBounds_toArray, List.set_cons_zero, List.set_cons_succ]
          clear HAA HFr s7 s8
          by_cases hN2 : i = 8 * s.size
          · have hfull := LonAt.full HL.out HS.out hN2
            have HR := Aside0.mk hfull
            clear hfull
            have hq : ((i : Int) == 8 * (s.size : Int)) = true := by simp; omega
            clear hN2
            go_wp2_with fail
            go_ret3
            exact ⟨by rw [HR.out]; rfl, below_step HL.out.1 HW.out⟩
          · have hq : ((i : Int) == 8 * (s.size : Int)) = false := beq_false_of_ne (by omega)
            cases hb : tb s i
            · go_wp2_with fail
              refine wp_region_any (by kernel_rfl) ?_
              change wpAny _ _ _ _ _ _ _ (World.drew _)
              refine any_var (fun A hA => ?_)
              have s1 : A.eval (.tmp 1) = Value.string s := by rw [hA]; rfl
              have s7 : A.eval (.tmp 7) = Value.pointer (some ⟨g, 0, none⟩) := by rw [hA]; rfl
              have s8 : A.eval (.tmp 8) = Value.int .i64 (i : Int) := by rw [hA]; rfl
              haveI HFr : Fr 43 A := ⟨by rw [hA]; exact Nat.le_refl _⟩
              have HAA := Aside0.mk hA
              clear hA
              refine reg_pure 0 (some 32) (v := Value.pointer (some ⟨g, 0, none⟩)) rfl (by kernel_rfl) (by kernel_rfl) (by kernel_rfl) rfl (fun _ _ _ h => h) (wanted_none rfl) (ro_move (.inl rfl) s7) ?_
              refine reg_pure 1 (some 33) (v := Value.string s) rfl (by kernel_rfl) (by kernel_rfl) (by kernel_rfl) rfl (fun _ _ _ h => h) (wanted_none rfl) (ro_move (.inl rfl) (ev_ne (by decide) s1)) ?_
              refine reg_pure 2 (some 34) (v := Value.int .i64 (i : Int)) rfl (by kernel_rfl) (by kernel_rfl) (by kernel_rfl) rfl (fun _ _ _ h => h) (wanted_none rfl) (ro_move (.inl rfl) (ev_ne (by decide) (ev_ne (by decide) s8))) ?_
              refine reg_pure 4 (some 36) (v := Value.pointer (some ⟨g, 0, none⟩)) rfl (by kernel_rfl) (by kernel_rfl) (by kernel_rfl) rfl (fun _ _ _ h => h) (wanted_none rfl) (ro_nil rfl (ev_ne (by decide) (ev_ne (by decide) (ev_eq (by decide))))) ?_
              refine reg_pure 5 (some 37) (v := Value.pointer (some ⟨g, 0, none⟩)) rfl (by kernel_rfl) (by kernel_rfl) (by kernel_rfl) rfl (fun _ _ _ h => h) (wanted_none rfl) (ro_field rfl (ev_eq (by decide)) (fun w => by go_simp)) ?_
              refine wpAny_ready (rs := [3]) (by kernel_rfl) (by simp) ?_
              refine br_call 3 (some 35) 24 #[Value.string s, Value.int .i64 (i : Int)] rfl rfl (wanted_none rfl) rfl (map2 (ev_ne (by decide) (ev_ne (by decide) (ev_ne (by decide) (ev_eq (by decide))))) (ev_ne (by decide) (ev_ne (by decide) (ev_eq (by decide))))) (fun args w => by kernel_rfl) (bit_v s i (by have := HD.out; omega) HZ.out _ 0 (by rw [hb]; rfl)) ?_ ?_
              · rintro e u2 ⟨rfl, hb2⟩
                have HB2 := Aside0.mk (below_step (below_step HW.out (pw_below_drewN (Below.refl _ _) 1)) hb2)
                have HN2 := Aside0.mk (HN.out.same (HB2.out.block g HN.out.lt))
                clear hb2
                refine ⟨_, rfl, ?_⟩
                refine reg_pure 6 (some 38) (v := Value.pointer (some ⟨g, 0, none⟩)) rfl (by kernel_rfl) (by kernel_rfl) (by kernel_rfl) rfl (fun _ _ _ h => h) (wanted_none rfl) (ro_iaddr rfl (ev_ne (by decide) (ev_eq (by decide))) (ev_eq (by decide)) (fun w => by go_simp)) ?_
                refine wpAny_ready (rs := [7]) (by kernel_rfl) (by simp) ?_
                refine br_load 7 (some 39) (v := Value.pointer pl) rfl rfl (wanted_none rfl) (ro_load rfl (ev_eq (by decide)) (loadP HN2.out.c0)) ?_ ?_
                · skip
                  refine reg_pure 8 (some 7) (v := Value.pointer pl) rfl (by kernel_rfl) (by kernel_rfl) (by kernel_rfl) rfl (fun _ _ _ h => h) (wanted_none rfl) (ro_move (.inr rfl) (ev_eq (by decide))) ?_
                  refine reg_done (by kernel_rfl) ?_
                  have hA := HAA.out
                  subst hA
                  simp only [Act.put, List.setIfInBounds_toArray, List.set_cons_zero, List.set_cons_succ]
                  clear HAA HFr s1 s7 s8
                  go_wp2_with fail
                  go_roundg (8 * s.size - 1 - i)
                  case measure => have := HD.out; omega
                  case rel => exact ⟨i + 1, upd (some v0) i best, _, rfl, rfl, rfl, rfl, by go_num, ⟨by have := HD.out; omega⟩, ⟨LonAt.next HL.out HT.out HS.out HN.out (by omega) HB2.out false hb⟩⟩
                exact AllReady.nil
              exact AllReady.nil
            · go_wp2_with fail
              refine wp_region_any (by kernel_rfl) ?_
              change wpAny _ _ _ _ _ _ _ (World.drew _)
              refine any_var (fun A hA => ?_)
              have s1 : A.eval (.tmp 1) = Value.string s := by rw [hA]; rfl
              have s7 : A.eval (.tmp 7) = Value.pointer (some ⟨g, 0, none⟩) := by rw [hA]; rfl
              have s8 : A.eval (.tmp 8) = Value.int .i64 (i : Int) := by rw [hA]; rfl
              haveI HFr : Fr 43 A := ⟨by rw [hA]; exact Nat.le_refl _⟩
              have HAA := Aside0.mk hA
              clear hA
              refine reg_pure 0 (some 32) (v := Value.pointer (some ⟨g, 0, none⟩)) rfl (by kernel_rfl) (by kernel_rfl) (by kernel_rfl) rfl (fun _ _ _ h => h) (wanted_none rfl) (ro_move (.inl rfl) s7) ?_
              refine reg_pure 1 (some 33) (v := Value.string s) rfl (by kernel_rfl) (by kernel_rfl) (by kernel_rfl) rfl (fun _ _ _ h => h) (wanted_none rfl) (ro_move (.inl rfl) (ev_ne (by decide) s1)) ?_
              refine reg_pure 2 (some 34) (v := Value.int .i64 (i : Int)) rfl (by kernel_rfl) (by kernel_rfl) (by kernel_rfl) rfl (fun _ _ _ h => h) (wanted_none rfl) (ro_move (.inl rfl) (ev_ne (by decide) (ev_ne (by decide) s8))) ?_
              refine reg_pure 4 (some 36) (v := Value.pointer (some ⟨g, 0, none⟩)) rfl (by kernel_rfl) (by kernel_rfl) (by kernel_rfl) rfl (fun _ _ _ h => h) (wanted_none rfl) (ro_nil rfl (ev_ne (by decide) (ev_ne (by decide) (ev_eq (by decide))))) ?_
              refine reg_pure 5 (some 37) (v := Value.pointer (some ⟨g, 0, none⟩)) rfl (by kernel_rfl) (by kernel_rfl) (by kernel_rfl) rfl (fun _ _ _ h => h) (wanted_none rfl) (ro_field rfl (ev_eq (by decide)) (fun w => by go_simp)) ?_
              refine wpAny_ready (rs := [3]) (by kernel_rfl) (by simp) ?_
              refine br_call 3 (some 35) 24 #[Value.string s, Value.int .i64 (i : Int)] rfl rfl (wanted_none rfl) rfl (map2 (ev_ne (by decide) (ev_ne (by decide) (ev_ne (by decide) (ev_eq (by decide))))) (ev_ne (by decide) (ev_ne (by decide) (ev_eq (by decide))))) (fun args w => by kernel_rfl) (bit_v s i (by have := HD.out; omega) HZ.out _ 1 (by rw [hb]; rfl)) ?_ ?_
              · rintro e u2 ⟨rfl, hb2⟩
                have HB2 := Aside0.mk (below_step (below_step HW.out (pw_below_drewN (Below.refl _ _) 1)) hb2)
                have HN2 := Aside0.mk (HN.out.same (HB2.out.block g HN.out.lt))
                clear hb2
                refine ⟨_, rfl, ?_⟩
                refine reg_pure 6 (some 38) (v := Value.pointer (some ⟨g, 1, none⟩)) rfl (by kernel_rfl) (by kernel_rfl) (by kernel_rfl) rfl (fun _ _ _ h => h) (wanted_none rfl) (ro_iaddr rfl (ev_ne (by decide) (ev_eq (by decide))) (ev_eq (by decide)) (fun w => by go_simp)) ?_
                refine wpAny_ready (rs := [7]) (by kernel_rfl) (by simp) ?_
                refine br_load 7 (some 39) (v := Value.pointer pr) rfl rfl (wanted_none rfl) (ro_load rfl (ev_eq (by decide)) (loadP HN2.out.c1)) ?_ ?_
                · skip
                  refine reg_pure 8 (some 7) (v := Value.pointer pr) rfl (by kernel_rfl) (by kernel_rfl) (by kernel_rfl) rfl (fun _ _ _ h => h) (wanted_none rfl) (ro_move (.inr rfl) (ev_eq (by decide))) ?_
                  refine reg_done (by kernel_rfl) ?_
                  have hA := HAA.out
                  subst hA
                  simp only [Act.put, List.setIfInBounds_toArray, List.set_cons_zero, List.set_cons_succ]
                  clear HAA HFr s1 s7 s8
                  go_wp2_with fail
                  go_roundg (8 * s.size - 1 - i)
                  case measure => have := HD.out; omega
                  case rel => exact ⟨i + 1, upd (some v0) i best, _, rfl, rfl, rfl, rfl, by go_num, ⟨by have := HD.out; omega⟩, ⟨LonAt.next HL.out HT.out HS.out HN.out (by omega) HB2.out true hb⟩⟩
                exact AllReady.nil
              exact AllReady.nil
        exact AllReady.nil
end Go.Proofs.Ytpchlnbnpgaocaa.PTrie
