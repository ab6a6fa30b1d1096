/- TrieRow by hand: the walk. -/
import Derived.Test.YtpchlnbnpgaocaaKTrie18
import Derived.Test.YtpchlnbnpgaocaaKTrie21
namespace Go.Proofs.Ytpchlnbnpgaocaa.PTrie
open Go.Proofs.Ytpchlnbnpgaocaa.KTree Go.Proofs.Ytpchlnbnpgaocaa.KReg Go.Proofs.Ytpchlnbnpgaocaa.KBits Go.RowKit Go.Proofs.YtpchlnbnpgaocaaW.PrintWords Go.Proofs.YtpchlnbnpgaocaaW.PrintLast Go.Proofs.YtpchlnbnpgaocaaW.PrintMore
set_option linter.unusedVariables false
set_option linter.unusedSimpArgs false
section
variable {P : Program} {md : Region.Mode} {ops : Array Oper} {Q : Exit → Act → World → Prop} {S : World → Prop}
theorem unwanted_of {o og : Oper} {a : Act} {g d : Nat} {b b' : Bool} (h : o.guard = some (g, b)) (hg : ops[g]? = some og) (hd : og.dst = some d) (hb : a.eval (.tmp d) = .bool b') (hne : b' ≠ b) : Region.wanted o (yielded ops a.tmps) = false := by
  have : yielded ops a.tmps g = some b' := by
    unfold yielded
    rw [hg]
    simp only [Option.bind_some, hd]
    simp only [Act.eval, Array.getD_eq_getD_getElem?] at hb
    cases ht : a.tmps[d]? with
    | none => rw [ht] at hb; simp [undef] at hb
    | some x => rw [ht] at hb; simp at hb; subst hb; rfl
  simp [Region.wanted, h, this, hne]
theorem unwanted_undef {o og : Oper} {a : Act} {g d : Nat} {b : Bool} (h : o.guard = some (g, b)) (hg : ops[g]? = some og) (hd : og.dst = some d) (hb : a.eval (.tmp d) = undef) : Region.wanted o (yielded ops a.tmps) = false := by
  have : yielded ops a.tmps g = none := by
    unfold yielded
    rw [hg]
    simp only [Option.bind_some, hd]
    simp only [Act.eval, Array.getD_eq_getD_getElem?] at hb
    cases ht : a.tmps[d]? with
    | none => rfl
    | some x => rw [ht] at hb; simp at hb; subst hb; rfl
  simp [Region.wanted, h, this]
theorem held_skip (i : Nat) (d : Option Tmp) {o : Oper} {fuel : Nat} {listed : Array Bool} {a : Act} {w : World} (hi : ops[i]? = some o) (hs : Region.noSelect ops = true)
    (hf : Region.free md ops listed i = true) (hr : (Region.ready md ops listed).contains i = true) (hd : o.dst = d) (hQ : ∀ c a w, Q (.panic c) (a.put d undef) w → Q (.panic c) a w) (hw : Region.wanted o (yielded ops a.tmps) = false)
    (hS : S w) (h : wpAnyH P md ops Q S fuel (listed.setIfInBounds i true) (a.put d undef) w) : wpAnyH P md ops Q S (fuel + 1) listed a w := by
  subst hd; exact wpAnyH_take hi hs hf hr hQ (.inr ⟨hw, rfl⟩) hS h
theorem held_skip1 (i : Nat) (d : Option Tmp) {o : Oper} {fuel : Nat} {listed : Array Bool} {a : Act} {w : World} (hr : Region.ready md ops listed = [i]) (hi : ops[i]? = some o) (hd : o.dst = d) (hw : Region.wanted o (yielded ops a.tmps) = false)
    (hS : S w) (h : wpAnyH P md ops Q S fuel (listed.setIfInBounds i true) (a.put d undef) w) : wpAnyH P md ops Q S (fuel + 1) listed a w := by
  subst hd
  refine wpAnyH_ready (rs := [i]) hr (by simp) (AllReadyH.cons hi (fun K hK => ?_) AllReadyH.nil)
  rw [if_neg (by rw [hw]; decide)]
  exact hK _ _ hS (fun _ => h)
end
/-- A variable of an item. -/
structure VarAt (u : World) (p : Nat) (y : S32) : Prop where
  c0 : u.cell? ⟨p, 0, none⟩ = some (.string y.f0)
  c1 : u.cell? ⟨p, 1, none⟩ = some (.int .i64 y.f1)
  c2 : u.cell? ⟨p, 2, none⟩ = some (.int .i64 y.f2)
theorem VarAt.below {u v : World} {p : Nat} {y : S32} (h : VarAt u p y) (hb : Below u.heap.size u v) : VarAt v p y := ⟨bcell hb h.c0, bcell hb h.c1, bcell hb h.c2⟩
theorem Inv.va {w0 u : World} {L : List (Nat × Tri)} {R : List Rw} {p : Nat} {y : S32} (h : Inv w0 u L R) (hr : (⟨some ⟨p, 0, none⟩, 1, [y]⟩ : Rw) ∈ R) : VarAt u p y := by
  obtain ⟨c0, c1, c2⟩ := h.varAt hr
  exact ⟨c0, c1, c2⟩
theorem geq_no {a b : ByteArray} {t : TypeId} (h : Op.bytesLess a.toList b.toList = true) (w : World) : Sem.run Try.prog (binOp .geq t (.string a) (.string b)) w = .ok (.bool false) w := by
  have e : binOp .geq t (.string a) (.string b) = pure (.bool (!(Op.bytesLess a.toList b.toList))) := by simp [binOp, Op.stringOp]
  rw [e, h]; rfl
theorem load32 {u : World} {p : Nat} {y : S32} (h : VarAt u p y) : (Instr.loadAt 32 (.pointer (some ⟨p, 0, none⟩)) : Sem Value).run Try.prog u = .ok (.agg #[.string y.f0, .int .i64 y.f1, .int .i64 y.f2]) u := by
  have c0 := h.c0
  have c1 := h.c1
  have c2 := h.c2
  have hu := Try.underlying32
  go_simp
theorem get_it {w0 u : World} {L : List (Nat × Tri)} {R : List Rw} {b : Nat} {t : Tri} {y : S32} {bs : List Bool} (h : Inv w0 u ((b, t) :: L) R) (hI : It t y bs) :
    Calls Try.prog 16 #[.pointer (some ⟨b, 0, none⟩), .string y.f0, .int .i64 y.f1] u fun e u' => e = .returned (.tuple #[.int .i64 y.f2, .bool true]) ∧ Inv w0 u' ((b, t) :: L) R := by
  have := inv_get (x := (b, t)) h List.mem_cons_self y.f0 y.f1 hI.size
  rw [hI.dget, hI.get] at this
  exact this
theorem lon_it {w0 u : World} {L : List (Nat × Tri)} {R : List Rw} {b m : Nat} {t : Tri} {s : ByteArray} {v : Int} (h : Inv w0 u ((b, t) :: L) R) (hs : s.size ≤ 140737488351232) (hl : tlon s t = some (m, v)) :
    Calls Try.prog 11 #[.pointer (some ⟨b, 0, none⟩), .string s] u fun e u' => e = .returned (.tuple #[.int .i64 (m : Int), .int .i64 v, .bool true]) ∧ Inv w0 u' ((b, t) :: L) R := by
  have := inv_lon (x := (b, t)) h List.mem_cons_self s hs
  rw [hl] at this
  exact this
theorem cut_x {t : Tri} {y : S32} {bs : List Bool} (hI : It t y bs) (u : World) : Calls Try.prog 19 #[.string y.f0, .int .i64 y.f1] u fun e u' => e = .returned (.string y.f0) ∧ Below u.heap.size u u' := by
  rw [hI.key, hI.len]
  exact cut_c hI.short u
set_option maxHeartbeats 8000000 in
set_option maxRecDepth 100000 in
theorem row_w (a : Option Addr) (C : Nat) (xs : List S49) (w : World) (HX : Aside0 (Acts w a xs)) (hC : xs.length ≤ C) (hN : xs.length ≤ 140737488351232) :
    Calls Try.prog 5 #[.slice a xs.length C] w fun e' w' => e' = .returned (.bool true) ∧ Below w.heap.size w w' := by
  go_enter Try.func5, Try.ntmps5
  go_wp2_with fail
  go_at_call 8
  (with_reducible refine (long_c a C xs w _ (Below.refl _ _) HX.out hC hN).mono ?_)
  rintro e' u ⟨r, rfl, hb, hr⟩
  have HB := Aside0.mk hb
  cases r with
  | true =>
    clear hb hr
    go_wp2_with fail
    go_at_call 9
    (with_reducible refine (awake_ok _).mono ?_)
    rintro e' u2 ⟨rfl, hb2⟩
    have HB2 := Aside0.mk (below_step HB.out hb2)
    clear hb2 HB
    go_wp2_with fail
    go_ret
    exact ⟨rfl, HB2.out⟩
  | false =>
    have HLN := Aside0.mk (hr rfl)
    clear hb hr
    go_wp2_with fail
    go_at_call 9
    (with_reducible refine (awake_ok _).mono ?_)
    rintro e' u2 ⟨rfl, hb2⟩
    have HB2 := Aside0.mk (below_step HB.out hb2)
    clear hb2 HB
    go_wp2_with fail
    go_at_call 10
    (with_reducible refine (grown_c a C xs w _ (L := []) (R := []) ⟨(Inv.nil w).below HB2.out⟩ HX hC HLN.out.1 ⟨HLN.out.2⟩).mono ?_)
    rintro e' u3 ⟨b, rfl, h⟩
    have HSM := Aside0.mk (grow_sm xs)
    clear HB2
    obtain ⟨tr, htr⟩ : ∃ tr, tr = grow xs := ⟨_, rfl⟩
    rw [← htr] at h
    have HT : Aside0 (Sm 200 tr) := ⟨by rw [htr]; exact HSM.out.up HLN.out.1⟩
    have HA := Aside0.mk h
    clear h htr HSM HLN
    obtain ⟨ys, hys⟩ : ∃ ys, items tr [] = ys := ⟨_, rfl⟩
    have HYS := Aside0.mk hys
    have hl : ys.length ≤ 200 := by rw [← hys, items_length]; exact HT.out.1
    have HYL : Aside0 (Tri.cnt tr = ys.length) := ⟨by rw [← hys, items_length]⟩
    clear hys
    go_wp2_with fail
    go_at_call 12
    (with_reducible refine (all_at (x := (b, tr)) HA.out List.mem_cons_self HT.out (by omega) HYS.out).mono ?_)
    rintro e' u4 ⟨g, c, rfl, hc, h⟩
    clear HA; have HA := Aside0.mk h; clear h
    go_wp2_with fail
    go_loopg [5] ys.length (fun d v5 wr => ∃ i : Nat, v5 = .int .i64 i ∧ Aside0 (i + d = ys.length) ∧ Aside0 (Inv w wr [(b, tr)] [⟨g, c, ys⟩]))
    case atStart => exact ⟨0, rfl, ⟨by omega⟩, HA⟩
    case round =>
      clear HA
      obtain ⟨i, hv, HD, HA⟩ := hrel
      subst hv
      by_cases hi : i < ys.length
      · have HI := Aside0.mk hi
        have HD2 := Aside0.mk hi
        obtain ⟨G, hg, a0, a1, a2⟩ := HA.out.at (r := ⟨g, c, ys⟩) List.mem_cons_self i hi
        dsimp only at hg a0 a1 a2
        subst hg
        rw [yAt_eq] at a0 a1 a2
        obtain ⟨x, hx⟩ : ∃ x, x = yAt ys i := ⟨_, rfl⟩
        rw [← hx] at a0 a1 a2
        have HX2 := Aside0.mk hx
        obtain ⟨bs, hIx⟩ : ∃ bs, It tr x bs := item_of HT.out.2 (by rw [hx, HYS.out]; exact yAt_mem hi)
        have HIX := Aside0.mk hIx
        obtain ⟨m, v, hlon, hlm, hms, hmv⟩ := own_lon hIx
        have HLO := Aside0.mk hlon
        have hsx := hIx.small
        have HE1 : Aside0 (decide ((m : Int) < x.f1) = false) := ⟨decide_eq_false (by rw [hIx.len]; omega)⟩
        have HE4 : Aside0 (decide ((m : Int) > 8 * (x.f0.size : Int)) = false) := ⟨decide_eq_false (by omega)⟩
        have HE5 : Aside0 (IntKind.i64.wrap (8 * (x.f0.size : Int)) = 8 * (x.f0.size : Int)) := ⟨(i64_w _).trans (MBits.w64 (by omega) (by omega))⟩
        have HMV := Aside0.mk (And.intro hIx.len hmv)
        have HSX := Aside0.mk hsx
        have hm9 : m ≤ 9223372036854775807 := by omega
        clear hx hIx hlon hlm hms hmv hsx
        have hu := Try.underlying32
        go_wp2_with fail
        go_at_call 16
        have h := HA.out.var x
        clear HA a0 a1 a2 hu; have HA := Aside0.mk h; clear h
        (with_reducible refine (get_it HA.out HIX.out).mono ?_)
        rintro e' u5 ⟨rfl, h⟩
        clear HA; have HA := Aside0.mk h; clear h
        obtain ⟨c0, c1, c2⟩ := HA.out.varAt (p := wr.heap.size) (y := x) (by simp)
        go_wp2_with fail
        go_at_call 11
        (with_reducible refine (lon_it HA.out HIX.out.size HLO.out).mono ?_)
        rintro e' u6 ⟨rfl, h⟩
        clear HA c0 c1 c2; have HA := Aside0.mk h; clear h
        by_cases hmb : m = bs.length
        · have HE2 : Aside0 (((m : Int) == x.f1) = true) := ⟨by rw [HMV.out.1, hmb]; simp⟩
          obtain rfl := HMV.out.2 hmb
          clear hmb HMV
          go_wp2_with fail
          have h := HA.out.below (pw_below_drewN (Below.refl _ _) 1); clear HA; have HA := Aside0.mk h; clear h
          have HVX := Aside0.mk (HA.out.va (p := wr.heap.size) (y := x) (by simp))
          refine wp_region_held_drew (S := fun u => VarAt u wr.heap.size x) (by kernel_rfl) HVX.out ?_
          intro HS
          refine held_var (fun A hA => ?_)
          have s6 : A.eval (.tmp 6) = Value.pointer (some ⟨wr.heap.size, 0, none⟩) := by rw [hA]; rfl
          have s7 : A.eval (.tmp 7) = Value.int .i64 x.f2 := by rw [hA]; rfl
          have s8 : A.eval (.tmp 8) = Value.bool true := by rw [hA]; rfl
          have s9 : A.eval (.tmp 9) = Value.int .i64 (m : Int) := by rw [hA]; rfl
          have s10 : A.eval (.tmp 10) = Value.int .i64 x.f2 := by rw [hA]; rfl
          have s11 : A.eval (.tmp 11) = Value.bool true := by rw [hA]; rfl
          haveI HFr : Fr 145 A := ⟨by rw [hA]; exact Nat.le_refl _⟩
          have HAA := Aside0.mk hA
          clear hA
          refine held_pure 0 (some 51) (v := Value.bool true) rfl (by kernel_rfl) (by kernel_rfl) (by kernel_rfl) rfl (fun _ _ _ h => h) (wanted_none rfl) HS (fun w hS => (ro_move (.inl rfl) s8) w) ?_
          refine held_pure 1 (some 52) (v := Value.bool false) rfl (by kernel_rfl) (by kernel_rfl) (by kernel_rfl) rfl (fun _ _ _ h => h) (wanted_none rfl) HS (fun w hS => ((ro_unOp rfl (ev_eq (by decide)) (fun w => by go_simp))) w) ?_
          refine held_pure 2 (some 53) (v := Value.bool false) rfl (by kernel_rfl) (by kernel_rfl) (by kernel_rfl) rfl (fun _ _ _ h => h) (wanted_none rfl) HS (fun w hS => (ro_move (.inl rfl) (ev_eq (by decide))) w) ?_
          refine held_pure 3 (some 54) (v := Value.int .i64 x.f2) rfl (by kernel_rfl) (by kernel_rfl) (by kernel_rfl) rfl (fun _ _ _ h => h) (wanted_of rfl rfl rfl (ev_eq (by decide))) HS (fun w hS => (ro_move (.inl rfl) (ev_ne (by decide) (ev_ne (by decide) (ev_ne (by decide) s7)))) w) ?_
          refine held_pure 4 (some 55) (v := Value.pointer (some ⟨wr.heap.size, 2, none⟩)) rfl (by kernel_rfl) (by kernel_rfl) (by kernel_rfl) rfl (fun _ _ _ h => h) (wanted_of rfl rfl rfl (ev_ne (by decide) (ev_eq (by decide)))) HS (fun w hS => (ro_field rfl (ev_ne (by decide) (ev_ne (by decide) (ev_ne (by decide) (ev_ne (by decide) s6)))) (fun w => fa32 (B := wr.heap.size) (o := 0) (j := 2) (by decide) w)) w) ?_
          refine held_pure 5 (some 56) (v := Value.int .i64 x.f2) rfl (by kernel_rfl) (by kernel_rfl) (by kernel_rfl) rfl (fun _ _ _ h => h) (wanted_of rfl rfl rfl (ev_ne (by decide) (ev_ne (by decide) (ev_eq (by decide))))) HS (fun w hS => (fun w => ro_load rfl (ev_eq (by decide)) (loadN hS.c2)) w) ?_
          refine held_pure 6 (some 57) (v := Value.bool false) rfl (by kernel_rfl) (by kernel_rfl) (by kernel_rfl) rfl (fun _ _ _ h => h) (wanted_of rfl rfl rfl (ev_ne (by decide) (ev_ne (by decide) (ev_ne (by decide) (ev_eq (by decide)))))) HS (fun w hS => (ro_bin rfl (ev_ne (by decide) (ev_ne (by decide) (ev_eq (by decide)))) (ev_eq (by decide)) (fun w => by go_simp)) w) ?_
          refine held_pure 7 (some 58) (v := Value.bool false) rfl (by kernel_rfl) (by kernel_rfl) (by kernel_rfl) rfl (fun _ _ _ h => h) (wanted_none rfl) HS (fun w hS => (ro_pickf rfl (ev_ne (by decide) (ev_ne (by decide) (ev_ne (by decide) (ev_ne (by decide) (ev_eq (by decide)))))) (ev_eq (by decide))) w) ?_
          refine held_pure 8 (some 59) (v := Value.bool false) rfl (by kernel_rfl) (by kernel_rfl) (by kernel_rfl) rfl (fun _ _ _ h => h) (wanted_none rfl) HS (fun w hS => (ro_move (.inl rfl) (ev_eq (by decide))) w) ?_
          refine held_pure 9 (some 60) (v := Value.bool true) rfl (by kernel_rfl) (by kernel_rfl) (by kernel_rfl) rfl (fun _ _ _ h => h) (wanted_of rfl rfl rfl (ev_eq (by decide))) HS (fun w hS => (ro_move (.inl rfl) (ev_ne (by decide) (ev_ne (by decide) (ev_ne (by decide) (ev_ne (by decide) (ev_ne (by decide) (ev_ne (by decide) (ev_ne (by decide) (ev_ne (by decide) (ev_ne (by decide) s11)))))))))) w) ?_
          refine held_pure 10 (some 61) (v := Value.bool false) rfl (by kernel_rfl) (by kernel_rfl) (by kernel_rfl) rfl (fun _ _ _ h => h) (wanted_of rfl rfl rfl (ev_ne (by decide) (ev_eq (by decide)))) HS (fun w hS => ((ro_unOp rfl (ev_eq (by decide)) (fun w => by go_simp))) w) ?_
          refine held_pure 11 (some 62) (v := Value.bool false) rfl (by kernel_rfl) (by kernel_rfl) (by kernel_rfl) rfl (fun _ _ _ h => h) (wanted_none rfl) HS (fun w hS => (ro_pickf rfl (ev_ne (by decide) (ev_ne (by decide) (ev_eq (by decide)))) (ev_eq (by decide))) w) ?_
          refine held_pure 12 (some 63) (v := Value.bool false) rfl (by kernel_rfl) (by kernel_rfl) (by kernel_rfl) rfl (fun _ _ _ h => h) (wanted_none rfl) HS (fun w hS => (ro_move (.inl rfl) (ev_eq (by decide))) w) ?_
          refine held_pure 13 (some 64) (v := Value.int .i64 (m : Int)) rfl (by kernel_rfl) (by kernel_rfl) (by kernel_rfl) rfl (fun _ _ _ h => h) (wanted_of rfl rfl rfl (ev_eq (by decide))) HS (fun w hS => (ro_move (.inl rfl) (ev_ne (by decide) (ev_ne (by decide) (ev_ne (by decide) (ev_ne (by decide) (ev_ne (by decide) (ev_ne (by decide) (ev_ne (by decide) (ev_ne (by decide) (ev_ne (by decide) (ev_ne (by decide) (ev_ne (by decide) (ev_ne (by decide) (ev_ne (by decide) s9)))))))))))))) w) ?_
          refine held_pure 14 (some 65) (v := Value.pointer (some ⟨wr.heap.size, 1, none⟩)) rfl (by kernel_rfl) (by kernel_rfl) (by kernel_rfl) rfl (fun _ _ _ h => h) (wanted_of rfl rfl rfl (ev_ne (by decide) (ev_eq (by decide)))) HS (fun w hS => (ro_field rfl (ev_ne (by decide) (ev_ne (by decide) (ev_ne (by decide) (ev_ne (by decide) (ev_ne (by decide) (ev_ne (by decide) (ev_ne (by decide) (ev_ne (by decide) (ev_ne (by decide) (ev_ne (by decide) (ev_ne (by decide) (ev_ne (by decide) (ev_ne (by decide) (ev_ne (by decide) s6)))))))))))))) (fun w => fa32 (B := wr.heap.size) (o := 0) (j := 1) (by decide) w)) w) ?_
          refine held_pure 15 (some 66) (v := Value.int .i64 x.f1) rfl (by kernel_rfl) (by kernel_rfl) (by kernel_rfl) rfl (fun _ _ _ h => h) (wanted_of rfl rfl rfl (ev_ne (by decide) (ev_ne (by decide) (ev_eq (by decide))))) HS (fun w hS => (fun w => ro_load rfl (ev_eq (by decide)) (loadN hS.c1)) w) ?_
          refine held_pure 16 (some 67) (v := Value.bool false) rfl (by kernel_rfl) (by kernel_rfl) (by kernel_rfl) rfl (fun _ _ _ h => h) (wanted_of rfl rfl rfl (ev_ne (by decide) (ev_ne (by decide) (ev_ne (by decide) (ev_eq (by decide)))))) HS (fun w hS => (ro_bin rfl (ev_ne (by decide) (ev_ne (by decide) (ev_eq (by decide)))) (ev_eq (by decide)) (fun w => by have e0 := HE1.out; go_simp)) w) ?_
          refine held_pure 17 (some 68) (v := Value.bool false) rfl (by kernel_rfl) (by kernel_rfl) (by kernel_rfl) rfl (fun _ _ _ h => h) (wanted_none rfl) HS (fun w hS => (ro_pickf rfl (ev_ne (by decide) (ev_ne (by decide) (ev_ne (by decide) (ev_ne (by decide) (ev_eq (by decide)))))) (ev_eq (by decide))) w) ?_
          refine held_pure 18 (some 69) (v := Value.bool false) rfl (by kernel_rfl) (by kernel_rfl) (by kernel_rfl) rfl (fun _ _ _ h => h) (wanted_none rfl) HS (fun w hS => (ro_move (.inl rfl) (ev_eq (by decide))) w) ?_
          refine held_pure 19 (some 70) (v := Value.int .i64 (m : Int)) rfl (by kernel_rfl) (by kernel_rfl) (by kernel_rfl) rfl (fun _ _ _ h => h) (wanted_of rfl rfl rfl (ev_eq (by decide))) HS (fun w hS => (ro_move (.inl rfl) (ev_ne (by decide) (ev_ne (by decide) (ev_ne (by decide) (ev_ne (by decide) (ev_ne (by decide) (ev_ne (by decide) (ev_ne (by decide) (ev_ne (by decide) (ev_ne (by decide) (ev_ne (by decide) (ev_ne (by decide) (ev_ne (by decide) (ev_ne (by decide) (ev_ne (by decide) (ev_ne (by decide) (ev_ne (by decide) (ev_ne (by decide) (ev_ne (by decide) (ev_ne (by decide) s9)))))))))))))))))))) w) ?_
          refine held_pure 20 (some 71) (v := Value.pointer (some ⟨wr.heap.size, 1, none⟩)) rfl (by kernel_rfl) (by kernel_rfl) (by kernel_rfl) rfl (fun _ _ _ h => h) (wanted_of rfl rfl rfl (ev_ne (by decide) (ev_eq (by decide)))) HS (fun w hS => (ro_field rfl (ev_ne (by decide) (ev_ne (by decide) (ev_ne (by decide) (ev_ne (by decide) (ev_ne (by decide) (ev_ne (by decide) (ev_ne (by decide) (ev_ne (by decide) (ev_ne (by decide) (ev_ne (by decide) (ev_ne (by decide) (ev_ne (by decide) (ev_ne (by decide) (ev_ne (by decide) (ev_ne (by decide) (ev_ne (by decide) (ev_ne (by decide) (ev_ne (by decide) (ev_ne (by decide) (ev_ne (by decide) s6)))))))))))))))))))) (fun w => fa32 (B := wr.heap.size) (o := 0) (j := 1) (by decide) w)) w) ?_
          refine held_pure 21 (some 72) (v := Value.int .i64 x.f1) rfl (by kernel_rfl) (by kernel_rfl) (by kernel_rfl) rfl (fun _ _ _ h => h) (wanted_of rfl rfl rfl (ev_ne (by decide) (ev_ne (by decide) (ev_eq (by decide))))) HS (fun w hS => (fun w => ro_load rfl (ev_eq (by decide)) (loadN hS.c1)) w) ?_
          refine held_pure 22 (some 73) (v := Value.bool true) rfl (by kernel_rfl) (by kernel_rfl) (by kernel_rfl) rfl (fun _ _ _ h => h) (wanted_of rfl rfl rfl (ev_ne (by decide) (ev_ne (by decide) (ev_ne (by decide) (ev_eq (by decide)))))) HS (fun w hS => (ro_bin rfl (ev_ne (by decide) (ev_ne (by decide) (ev_eq (by decide)))) (ev_eq (by decide)) (fun w => by have e0 := HE2.out; go_simp)) w) ?_
          refine held_pure 23 (some 74) (v := Value.bool true) rfl (by kernel_rfl) (by kernel_rfl) (by kernel_rfl) rfl (fun _ _ _ h => h) (wanted_of rfl rfl rfl (ev_ne (by decide) (ev_ne (by decide) (ev_ne (by decide) (ev_ne (by decide) (ev_eq (by decide))))))) HS (fun w hS => (ro_move (.inl rfl) (ev_eq (by decide))) w) ?_
          refine held_pure 24 (some 75) (v := Value.int .i64 x.f2) rfl (by kernel_rfl) (by kernel_rfl) (by kernel_rfl) rfl (fun _ _ _ h => h) (wanted_of rfl rfl rfl (ev_eq (by decide))) HS (fun w hS => (ro_move (.inl rfl) (ev_ne (by decide) (ev_ne (by decide) (ev_ne (by decide) (ev_ne (by decide) (ev_ne (by decide) (ev_ne (by decide) (ev_ne (by decide) (ev_ne (by decide) (ev_ne (by decide) (ev_ne (by decide) (ev_ne (by decide) (ev_ne (by decide) (ev_ne (by decide) (ev_ne (by decide) (ev_ne (by decide) (ev_ne (by decide) (ev_ne (by decide) (ev_ne (by decide) (ev_ne (by decide) (ev_ne (by decide) (ev_ne (by decide) (ev_ne (by decide) (ev_ne (by decide) (ev_ne (by decide) s10))))))))))))))))))))))))) w) ?_
          refine held_pure 25 (some 76) (v := Value.pointer (some ⟨wr.heap.size, 2, none⟩)) rfl (by kernel_rfl) (by kernel_rfl) (by kernel_rfl) rfl (fun _ _ _ h => h) (wanted_of rfl rfl rfl (ev_ne (by decide) (ev_eq (by decide)))) HS (fun w hS => (ro_field rfl (ev_ne (by decide) (ev_ne (by decide) (ev_ne (by decide) (ev_ne (by decide) (ev_ne (by decide) (ev_ne (by decide) (ev_ne (by decide) (ev_ne (by decide) (ev_ne (by decide) (ev_ne (by decide) (ev_ne (by decide) (ev_ne (by decide) (ev_ne (by decide) (ev_ne (by decide) (ev_ne (by decide) (ev_ne (by decide) (ev_ne (by decide) (ev_ne (by decide) (ev_ne (by decide) (ev_ne (by decide) (ev_ne (by decide) (ev_ne (by decide) (ev_ne (by decide) (ev_ne (by decide) (ev_ne (by decide) s6))))))))))))))))))))))))) (fun w => fa32 (B := wr.heap.size) (o := 0) (j := 2) (by decide) w)) w) ?_
          refine held_pure 26 (some 77) (v := Value.int .i64 x.f2) rfl (by kernel_rfl) (by kernel_rfl) (by kernel_rfl) rfl (fun _ _ _ h => h) (wanted_of rfl rfl rfl (ev_ne (by decide) (ev_ne (by decide) (ev_eq (by decide))))) HS (fun w hS => (fun w => ro_load rfl (ev_eq (by decide)) (loadN hS.c2)) w) ?_
          refine held_pure 27 (some 78) (v := Value.bool false) rfl (by kernel_rfl) (by kernel_rfl) (by kernel_rfl) rfl (fun _ _ _ h => h) (wanted_of rfl rfl rfl (ev_ne (by decide) (ev_ne (by decide) (ev_ne (by decide) (ev_eq (by decide)))))) HS (fun w hS => (ro_bin rfl (ev_ne (by decide) (ev_ne (by decide) (ev_eq (by decide)))) (ev_eq (by decide)) (fun w => by go_simp)) w) ?_
          refine held_pure 28 (some 79) (v := Value.bool false) rfl (by kernel_rfl) (by kernel_rfl) (by kernel_rfl) rfl (fun _ _ _ h => h) (wanted_of rfl rfl rfl (ev_ne (by decide) (ev_ne (by decide) (ev_ne (by decide) (ev_ne (by decide) (ev_ne (by decide) (ev_ne (by decide) (ev_ne (by decide) (ev_ne (by decide) (ev_ne (by decide) (ev_eq (by decide)))))))))))) HS (fun w hS => (ro_pickt rfl (ev_ne (by decide) (ev_ne (by decide) (ev_ne (by decide) (ev_ne (by decide) (ev_eq (by decide)))))) (ev_eq (by decide))) w) ?_
          refine held_pure 29 (some 80) (v := Value.bool false) rfl (by kernel_rfl) (by kernel_rfl) (by kernel_rfl) rfl (fun _ _ _ h => h) (wanted_none rfl) HS (fun w hS => (ro_pickf rfl (ev_ne (by decide) (ev_ne (by decide) (ev_ne (by decide) (ev_ne (by decide) (ev_ne (by decide) (ev_ne (by decide) (ev_ne (by decide) (ev_ne (by decide) (ev_ne (by decide) (ev_ne (by decide) (ev_eq (by decide)))))))))))) (ev_eq (by decide))) w) ?_
          refine held_pure 30 (some 81) (v := Value.bool false) rfl (by kernel_rfl) (by kernel_rfl) (by kernel_rfl) rfl (fun _ _ _ h => h) (wanted_none rfl) HS (fun w hS => (ro_move (.inl rfl) (ev_eq (by decide))) w) ?_
          refine held_pure 31 (some 82) (v := Value.int .i64 (m : Int)) rfl (by kernel_rfl) (by kernel_rfl) (by kernel_rfl) rfl (fun _ _ _ h => h) (wanted_of rfl rfl rfl (ev_eq (by decide))) HS (fun w hS => (ro_move (.inl rfl) (ev_ne (by decide) (ev_ne (by decide) (ev_ne (by decide) (ev_ne (by decide) (ev_ne (by decide) (ev_ne (by decide) (ev_ne (by decide) (ev_ne (by decide) (ev_ne (by decide) (ev_ne (by decide) (ev_ne (by decide) (ev_ne (by decide) (ev_ne (by decide) (ev_ne (by decide) (ev_ne (by decide) (ev_ne (by decide) (ev_ne (by decide) (ev_ne (by decide) (ev_ne (by decide) (ev_ne (by decide) (ev_ne (by decide) (ev_ne (by decide) (ev_ne (by decide) (ev_ne (by decide) (ev_ne (by decide) (ev_ne (by decide) (ev_ne (by decide) (ev_ne (by decide) (ev_ne (by decide) (ev_ne (by decide) (ev_ne (by decide) s9)))))))))))))))))))))))))))))))) w) ?_
          refine held_pure 32 (some 83) (v := Value.pointer (some ⟨wr.heap.size, 0, none⟩)) rfl (by kernel_rfl) (by kernel_rfl) (by kernel_rfl) rfl (fun _ _ _ h => h) (wanted_of rfl rfl rfl (ev_ne (by decide) (ev_eq (by decide)))) HS (fun w hS => (ro_field rfl (ev_ne (by decide) (ev_ne (by decide) (ev_ne (by decide) (ev_ne (by decide) (ev_ne (by decide) (ev_ne (by decide) (ev_ne (by decide) (ev_ne (by decide) (ev_ne (by decide) (ev_ne (by decide) (ev_ne (by decide) (ev_ne (by decide) (ev_ne (by decide) (ev_ne (by decide) (ev_ne (by decide) (ev_ne (by decide) (ev_ne (by decide) (ev_ne (by decide) (ev_ne (by decide) (ev_ne (by decide) (ev_ne (by decide) (ev_ne (by decide) (ev_ne (by decide) (ev_ne (by decide) (ev_ne (by decide) (ev_ne (by decide) (ev_ne (by decide) (ev_ne (by decide) (ev_ne (by decide) (ev_ne (by decide) (ev_ne (by decide) (ev_ne (by decide) s6)))))))))))))))))))))))))))))))) (fun w => fa32 (B := wr.heap.size) (o := 0) (j := 0) (by decide) w)) w) ?_
          refine held_pure 33 (some 84) (v := Value.string x.f0) rfl (by kernel_rfl) (by kernel_rfl) (by kernel_rfl) rfl (fun _ _ _ h => h) (wanted_of rfl rfl rfl (ev_ne (by decide) (ev_ne (by decide) (ev_eq (by decide))))) HS (fun w hS => (fun w => ro_load rfl (ev_eq (by decide)) (loadS hS.c0)) w) ?_
          refine held_pure 34 (some 85) (v := Value.int .i64 (x.f0.size : Int)) rfl (by kernel_rfl) (by kernel_rfl) (by kernel_rfl) rfl (fun _ _ _ h => h) (wanted_of rfl rfl rfl (ev_ne (by decide) (ev_ne (by decide) (ev_ne (by decide) (ev_eq (by decide)))))) HS (fun w hS => (ro_len rfl (ev_eq (by decide)) (fun w => by go_simp)) w) ?_
          refine held_pure 35 (some 86) (v := Value.int .i64 (8 * (x.f0.size : Int))) rfl (by kernel_rfl) (by kernel_rfl) (by kernel_rfl) rfl (fun _ _ _ h => h) (wanted_of rfl rfl rfl (ev_ne (by decide) (ev_ne (by decide) (ev_ne (by decide) (ev_ne (by decide) (ev_eq (by decide))))))) HS (fun w hS => (ro_bin rfl rfl (ev_eq (by decide)) (fun w => by have e := HE5.out; go_simp)) w) ?_
          refine held_pure 36 (some 87) (v := Value.bool false) rfl (by kernel_rfl) (by kernel_rfl) (by kernel_rfl) rfl (fun _ _ _ h => h) (wanted_of rfl rfl rfl (ev_ne (by decide) (ev_ne (by decide) (ev_ne (by decide) (ev_ne (by decide) (ev_ne (by decide) (ev_eq (by decide)))))))) HS (fun w hS => (ro_bin rfl (ev_ne (by decide) (ev_ne (by decide) (ev_ne (by decide) (ev_ne (by decide) (ev_eq (by decide)))))) (ev_eq (by decide)) (fun w => by have e0 := HE4.out; go_simp)) w) ?_
          refine held_pure 37 (some 88) (v := Value.bool false) rfl (by kernel_rfl) (by kernel_rfl) (by kernel_rfl) rfl (fun _ _ _ h => h) (wanted_none rfl) HS (fun w hS => (ro_pickf rfl (ev_ne (by decide) (ev_ne (by decide) (ev_ne (by decide) (ev_ne (by decide) (ev_ne (by decide) (ev_ne (by decide) (ev_eq (by decide)))))))) (ev_eq (by decide))) w) ?_
          refine held_pure 38 (some 89) (v := Value.bool false) rfl (by kernel_rfl) (by kernel_rfl) (by kernel_rfl) rfl (fun _ _ _ h => h) (wanted_none rfl) HS (fun w hS => (ro_move (.inl rfl) (ev_eq (by decide))) w) ?_
          refine held_pure 39 (some 90) (v := Value.pointer (some ⟨wr.heap.size, 0, none⟩)) rfl (by kernel_rfl) (by kernel_rfl) (by kernel_rfl) rfl (fun _ _ _ h => h) (wanted_of rfl rfl rfl (ev_eq (by decide))) HS (fun w hS => (ro_field rfl (ev_ne (by decide) (ev_ne (by decide) (ev_ne (by decide) (ev_ne (by decide) (ev_ne (by decide) (ev_ne (by decide) (ev_ne (by decide) (ev_ne (by decide) (ev_ne (by decide) (ev_ne (by decide) (ev_ne (by decide) (ev_ne (by decide) (ev_ne (by decide) (ev_ne (by decide) (ev_ne (by decide) (ev_ne (by decide) (ev_ne (by decide) (ev_ne (by decide) (ev_ne (by decide) (ev_ne (by decide) (ev_ne (by decide) (ev_ne (by decide) (ev_ne (by decide) (ev_ne (by decide) (ev_ne (by decide) (ev_ne (by decide) (ev_ne (by decide) (ev_ne (by decide) (ev_ne (by decide) (ev_ne (by decide) (ev_ne (by decide) (ev_ne (by decide) (ev_ne (by decide) (ev_ne (by decide) (ev_ne (by decide) (ev_ne (by decide) (ev_ne (by decide) (ev_ne (by decide) (ev_ne (by decide) s6))))))))))))))))))))))))))))))))))))))) (fun w => fa32 (B := wr.heap.size) (o := 0) (j := 0) (by decide) w)) w) ?_
          refine held_pure 40 (some 91) (v := Value.string x.f0) rfl (by kernel_rfl) (by kernel_rfl) (by kernel_rfl) rfl (fun _ _ _ h => h) (wanted_of rfl rfl rfl (ev_ne (by decide) (ev_eq (by decide)))) HS (fun w hS => (fun w => ro_load rfl (ev_eq (by decide)) (loadS hS.c0)) w) ?_
          refine held_pure 41 (some 92) (v := Value.pointer (some ⟨wr.heap.size, 1, none⟩)) rfl (by kernel_rfl) (by kernel_rfl) (by kernel_rfl) rfl (fun _ _ _ h => h) (wanted_of rfl rfl rfl (ev_ne (by decide) (ev_ne (by decide) (ev_eq (by decide))))) HS (fun w hS => (ro_field rfl (ev_ne (by decide) (ev_ne (by decide) (ev_ne (by decide) (ev_ne (by decide) (ev_ne (by decide) (ev_ne (by decide) (ev_ne (by decide) (ev_ne (by decide) (ev_ne (by decide) (ev_ne (by decide) (ev_ne (by decide) (ev_ne (by decide) (ev_ne (by decide) (ev_ne (by decide) (ev_ne (by decide) (ev_ne (by decide) (ev_ne (by decide) (ev_ne (by decide) (ev_ne (by decide) (ev_ne (by decide) (ev_ne (by decide) (ev_ne (by decide) (ev_ne (by decide) (ev_ne (by decide) (ev_ne (by decide) (ev_ne (by decide) (ev_ne (by decide) (ev_ne (by decide) (ev_ne (by decide) (ev_ne (by decide) (ev_ne (by decide) (ev_ne (by decide) (ev_ne (by decide) (ev_ne (by decide) (ev_ne (by decide) (ev_ne (by decide) (ev_ne (by decide) (ev_ne (by decide) (ev_ne (by decide) (ev_ne (by decide) (ev_ne (by decide) s6))))))))))))))))))))))))))))))))))))))))) (fun w => fa32 (B := wr.heap.size) (o := 0) (j := 1) (by decide) w)) w) ?_
          refine held_pure 42 (some 93) (v := Value.int .i64 x.f1) rfl (by kernel_rfl) (by kernel_rfl) (by kernel_rfl) rfl (fun _ _ _ h => h) (wanted_of rfl rfl rfl (ev_ne (by decide) (ev_ne (by decide) (ev_ne (by decide) (ev_eq (by decide)))))) HS (fun w hS => (fun w => ro_load rfl (ev_eq (by decide)) (loadN hS.c1)) w) ?_
          refine held_pure 44 (some 95) (v := Value.pointer (some ⟨wr.heap.size, 0, none⟩)) rfl (by kernel_rfl) (by kernel_rfl) (by kernel_rfl) rfl (fun _ _ _ h => h) (wanted_of rfl rfl rfl (ev_ne (by decide) (ev_ne (by decide) (ev_ne (by decide) (ev_ne (by decide) (ev_eq (by decide))))))) HS (fun w hS => (ro_field rfl (ev_ne (by decide) (ev_ne (by decide) (ev_ne (by decide) (ev_ne (by decide) (ev_ne (by decide) (ev_ne (by decide) (ev_ne (by decide) (ev_ne (by decide) (ev_ne (by decide) (ev_ne (by decide) (ev_ne (by decide) (ev_ne (by decide) (ev_ne (by decide) (ev_ne (by decide) (ev_ne (by decide) (ev_ne (by decide) (ev_ne (by decide) (ev_ne (by decide) (ev_ne (by decide) (ev_ne (by decide) (ev_ne (by decide) (ev_ne (by decide) (ev_ne (by decide) (ev_ne (by decide) (ev_ne (by decide) (ev_ne (by decide) (ev_ne (by decide) (ev_ne (by decide) (ev_ne (by decide) (ev_ne (by decide) (ev_ne (by decide) (ev_ne (by decide) (ev_ne (by decide) (ev_ne (by decide) (ev_ne (by decide) (ev_ne (by decide) (ev_ne (by decide) (ev_ne (by decide) (ev_ne (by decide) (ev_ne (by decide) (ev_ne (by decide) (ev_ne (by decide) (ev_ne (by decide) s6))))))))))))))))))))))))))))))))))))))))))) (fun w => fa32 (B := wr.heap.size) (o := 0) (j := 0) (by decide) w)) w) ?_
          refine held_pure 45 (some 96) (v := Value.string x.f0) rfl (by kernel_rfl) (by kernel_rfl) (by kernel_rfl) rfl (fun _ _ _ h => h) (wanted_of rfl rfl rfl (ev_ne (by decide) (ev_ne (by decide) (ev_ne (by decide) (ev_ne (by decide) (ev_ne (by decide) (ev_eq (by decide)))))))) HS (fun w hS => (fun w => ro_load rfl (ev_eq (by decide)) (loadS hS.c0)) w) ?_
          refine held_call 43 (some 94) 19 #[Value.string x.f0, Value.int .i64 x.f1] (by kernel_rfl) rfl rfl (wanted_of rfl rfl rfl (ev_ne (by decide) (ev_ne (by decide) (ev_ne (by decide) (ev_ne (by decide) (ev_ne (by decide) (ev_ne (by decide) (ev_eq (by decide))))))))) rfl (map2 (ev_ne (by decide) (ev_ne (by decide) (ev_ne (by decide) (ev_ne (by decide) (ev_eq (by decide)))))) (ev_ne (by decide) (ev_ne (by decide) (ev_eq (by decide))))) (fun args w => by kernel_rfl) (cut_x HIX.out _) ?_
          rintro e' u7 ⟨rfl, hb⟩
          have h := HA.out.below hb; clear HA; have HA := Aside0.mk h; clear h
          have HS2 := HS.below hb; clear HS hb; refine ⟨_, rfl, HS2, fun HS => ?_⟩; clear HS2
          refine held_pure 46 (some 97) (v := Value.bool false) rfl (by kernel_rfl) (by kernel_rfl) (by kernel_rfl) rfl (fun _ _ _ h => h) (wanted_of rfl rfl rfl (ev_ne (by decide) (ev_ne (by decide) (ev_ne (by decide) (ev_ne (by decide) (ev_ne (by decide) (ev_ne (by decide) (ev_ne (by decide) (ev_eq (by decide)))))))))) HS (fun w hS => (ro_bin rfl (ev_eq (by decide)) (ev_ne (by decide) (ev_eq (by decide))) (fun w => by go_simp)) w) ?_
          refine held_pure 47 (some 98) (v := Value.bool false) rfl (by kernel_rfl) (by kernel_rfl) (by kernel_rfl) rfl (fun _ _ _ h => h) (wanted_none rfl) HS (fun w hS => (ro_pickf rfl (ev_ne (by decide) (ev_ne (by decide) (ev_ne (by decide) (ev_ne (by decide) (ev_ne (by decide) (ev_ne (by decide) (ev_ne (by decide) (ev_ne (by decide) (ev_eq (by decide)))))))))) (ev_eq (by decide))) w) ?_
          refine held_done (by kernel_rfl) ?_
          have hA := HAA.out
          subst hA
          simp only [Act.put, List.setIfInBounds_toArray, List.set_cons_zero, List.set_cons_succ]
          clear HAA HFr s6 s7 s8 s9 s10 s11
          clear HS HVX
          by_cases h0 : i = 0
          · have hz : ((i : Int) == 0) = true := by subst h0; rfl
            have HA2 := Aside0.mk HA.out.less
            clear HA HD2
            go_wp2_with fail
            go_roundg (ys.length - 1 - i)
            case measure => have := HD.out; omega
            case rel => exact ⟨i + 1, by go_num, ⟨by have := HD.out; omega⟩, HA2⟩
          · have hz : ((i : Int) == 0) = false := beq_false_of_ne (by omega)
            obtain ⟨ip, hip⟩ : ∃ ip, i = ip + 1 := ⟨i - 1, by omega⟩
            have hiz : (i : Int) - 1 = (ip : Int) := by omega
            have hil : ip < ys.length := by omega
            obtain ⟨G', hg', d0, d1, d2⟩ := HA.out.at (r := ⟨some ⟨G, 0, none⟩, c, ys⟩) (by simp) ip hil
            obtain rfl : G = G' := by injection hg' with e; injection e
            clear hg'
            rw [yAt_eq] at d0 d1 d2
            obtain ⟨y, hy⟩ : ∃ y, y = yAt ys ip := ⟨_, rfl⟩
            rw [← hy] at d0 d1 d2
            have HNX : Aside0 (Nx y x) := ⟨by rw [hy, HX2.out, hip]; have h := next_of HT.out.2 (i := ip) (by rw [HYS.out]; omega); rw [HYS.out] at h; exact h⟩
            clear hy hip h0
            have hu := Try.underlying32
            have hi9 := HI.out
            go_wp2_with fail
            clear d0 d1 d2 hu hiz hil
            have h := (HA.out.var y).below (pw_below_drewN (Below.refl _ _) 1); clear HA; have HA := Aside0.mk h; clear h
            have HVV := Aside0.mk (And.intro (HA.out.va (p := wr.heap.size) (y := x) (by simp)) (HA.out.va (p := u7.heap.size) (y := y) (by simp)))
            cases HNX.out with
            | pre bb hlt =>
              have HBB := Aside0.mk bb
              have HK3 : Aside0 (decide (y.f1 ≥ x.f1) = false) := ⟨decide_eq_false (by omega)⟩
              clear bb hlt HNX
              cases hk : (y.f0.toList == x.f0.toList) with
              | true =>
                have HK2 := Aside0.mk hk
                clear hk
                refine wp_region_held_drew (S := fun u => VarAt u wr.heap.size x ∧ VarAt u u7.heap.size y) (by kernel_rfl) HVV.out ?_
                intro HS
                refine held_var (fun A hA => ?_)
                have s6 : A.eval (.tmp 6) = Value.pointer (some ⟨wr.heap.size, 0, none⟩) := by rw [hA]; rfl
                have s12 : A.eval (.tmp 12) = Value.pointer (some ⟨u7.heap.size, 0, none⟩) := by rw [hA]; rfl
                haveI HFr : Fr 145 A := ⟨by rw [hA]; exact Nat.le_refl _⟩
                have HAA := Aside0.mk hA
                clear hA
                refine held_pure 0 (some 106) (v := Value.agg #[Value.string y.f0, Value.int .i64 y.f1, Value.int .i64 y.f2]) rfl (by kernel_rfl) (by kernel_rfl) (by kernel_rfl) rfl (fun _ _ _ h => h) (wanted_none rfl) HS (fun w hS => (fun w => ro_load rfl s12 (load32 hS.2)) w) ?_
                refine held_pure 2 (some 108) (v := Value.pointer (some ⟨wr.heap.size, 0, none⟩)) rfl (by kernel_rfl) (by kernel_rfl) (by kernel_rfl) rfl (fun _ _ _ h => h) (wanted_none rfl) HS (fun w hS => (ro_field rfl (ev_ne (by decide) s6) (fun w => fa32 (B := wr.heap.size) (o := 0) (j := 0) (by decide) w)) w) ?_
                refine held_pure 3 (some 109) (v := Value.string x.f0) rfl (by kernel_rfl) (by kernel_rfl) (by kernel_rfl) rfl (fun _ _ _ h => h) (wanted_none rfl) HS (fun w hS => (fun w => ro_load rfl (ev_eq (by decide)) (loadS hS.1.c0)) w) ?_
                refine held_call 1 (some 107) 21 #[Value.agg #[Value.string y.f0, Value.int .i64 y.f1, Value.int .i64 y.f2]] (by kernel_rfl) rfl rfl (wanted_none rfl) rfl (map1 (ev_ne (by decide) (ev_ne (by decide) (ev_eq (by decide))))) (fun args w => by kernel_rfl) (item_c y _) ?_
                rintro e' v0 ⟨rfl, hb⟩
                have h := HA.out.below hb; clear HA; have HA := Aside0.mk h; clear h
                have HS2 := And.intro (HS.1.below hb) (HS.2.below hb); clear HS hb; refine ⟨_, rfl, HS2, fun HS => ?_⟩; clear HS2
                refine held_call 4 (some 110) 20 #[Value.agg #[Value.string y.f0, Value.int .i64 y.f1, Value.int .i64 y.f2], Value.string x.f0] (by kernel_rfl) rfl rfl (wanted_none rfl) rfl (map2 (ev_eq (by decide)) (ev_ne (by decide) (ev_eq (by decide)))) (fun args w => by kernel_rfl) (beg_c y x.f0 true HBB.out _) ?_
                rintro e' v1 ⟨rfl, hb⟩
                have h := HA.out.below hb; clear HA; have HA := Aside0.mk h; clear h
                have HS2 := And.intro (HS.1.below hb) (HS.2.below hb); clear HS hb; refine ⟨_, rfl, HS2, fun HS => ?_⟩; clear HS2
                refine held_pure 5 (some 111) (v := Value.bool false) rfl (by kernel_rfl) (by kernel_rfl) (by kernel_rfl) rfl (fun _ _ _ h => h) (wanted_none rfl) HS (fun w hS => ((ro_unOp rfl (ev_eq (by decide)) (fun w => by go_simp))) w) ?_
                refine held_pure 6 (some 112) (v := Value.bool false) rfl (by kernel_rfl) (by kernel_rfl) (by kernel_rfl) rfl (fun _ _ _ h => h) (wanted_none rfl) HS (fun w hS => (ro_move (.inl rfl) (ev_eq (by decide))) w) ?_
                refine held_skip 7 (some 113) rfl (by kernel_rfl) (by kernel_rfl) (by kernel_rfl) rfl (fun _ _ _ h => h) (unwanted_of rfl rfl rfl (ev_eq (by decide)) (by decide)) HS ?_
                refine held_skip 8 (some 114) rfl (by kernel_rfl) (by kernel_rfl) (by kernel_rfl) rfl (fun _ _ _ h => h) (unwanted_of rfl rfl rfl (ev_ne (by decide) (ev_eq (by decide))) (by decide)) HS ?_
                refine held_skip 9 (some 115) rfl (by kernel_rfl) (by kernel_rfl) (by kernel_rfl) rfl (fun _ _ _ h => h) (unwanted_of rfl rfl rfl (ev_ne (by decide) (ev_ne (by decide) (ev_eq (by decide)))) (by decide)) HS ?_
                refine held_skip 10 (some 116) rfl (by kernel_rfl) (by kernel_rfl) (by kernel_rfl) rfl (fun _ _ _ h => h) (unwanted_of rfl rfl rfl (ev_ne (by decide) (ev_ne (by decide) (ev_ne (by decide) (ev_eq (by decide))))) (by decide)) HS ?_
                refine held_skip 11 (some 117) rfl (by kernel_rfl) (by kernel_rfl) (by kernel_rfl) rfl (fun _ _ _ h => h) (unwanted_of rfl rfl rfl (ev_ne (by decide) (ev_ne (by decide) (ev_ne (by decide) (ev_ne (by decide) (ev_eq (by decide)))))) (by decide)) HS ?_
                refine held_skip 12 (some 118) rfl (by kernel_rfl) (by kernel_rfl) (by kernel_rfl) rfl (fun _ _ _ h => h) (unwanted_of rfl rfl rfl (ev_ne (by decide) (ev_ne (by decide) (ev_ne (by decide) (ev_ne (by decide) (ev_ne (by decide) (ev_eq (by decide))))))) (by decide)) HS ?_
                refine held_skip 13 (some 119) rfl (by kernel_rfl) (by kernel_rfl) (by kernel_rfl) rfl (fun _ _ _ h => h) (unwanted_undef rfl rfl rfl (ev_eq (by decide))) HS ?_
                refine held_skip 15 (some 121) rfl (by kernel_rfl) (by kernel_rfl) (by kernel_rfl) rfl (fun _ _ _ h => h) (unwanted_undef rfl rfl rfl (ev_ne (by decide) (ev_eq (by decide)))) HS ?_
                refine held_skip 16 (some 122) rfl (by kernel_rfl) (by kernel_rfl) (by kernel_rfl) rfl (fun _ _ _ h => h) (unwanted_undef rfl rfl rfl (ev_ne (by decide) (ev_ne (by decide) (ev_eq (by decide))))) HS ?_
                refine held_skip1 14 (some 120) (by kernel_rfl) rfl rfl (unwanted_undef rfl rfl rfl (ev_ne (by decide) (ev_ne (by decide) (ev_ne (by decide) (ev_eq (by decide)))))) HS ?_
                refine held_skip1 17 (some 123) (by kernel_rfl) rfl rfl (unwanted_undef rfl rfl rfl (ev_ne (by decide) (ev_ne (by decide) (ev_ne (by decide) (ev_ne (by decide) (ev_eq (by decide))))))) HS ?_
                refine held_skip 18 (some 124) rfl (by kernel_rfl) (by kernel_rfl) (by kernel_rfl) rfl (fun _ _ _ h => h) (unwanted_of rfl rfl rfl (ev_ne (by decide) (ev_ne (by decide) (ev_ne (by decide) (ev_ne (by decide) (ev_ne (by decide) (ev_ne (by decide) (ev_ne (by decide) (ev_ne (by decide) (ev_ne (by decide) (ev_ne (by decide) (ev_ne (by decide) (ev_eq (by decide))))))))))))) (by decide)) HS ?_
                refine held_pure 19 (some 125) (v := Value.bool false) rfl (by kernel_rfl) (by kernel_rfl) (by kernel_rfl) rfl (fun _ _ _ h => h) (wanted_none rfl) HS (fun w hS => (ro_pickf rfl (ev_ne (by decide) (ev_ne (by decide) (ev_ne (by decide) (ev_ne (by decide) (ev_ne (by decide) (ev_ne (by decide) (ev_ne (by decide) (ev_ne (by decide) (ev_ne (by decide) (ev_ne (by decide) (ev_ne (by decide) (ev_ne (by decide) (ev_eq (by decide)))))))))))))) (ev_const _ _)) w) ?_
                refine held_pure 20 (some 126) (v := Value.bool false) rfl (by kernel_rfl) (by kernel_rfl) (by kernel_rfl) rfl (fun _ _ _ h => h) (wanted_none rfl) HS (fun w hS => (ro_move (.inl rfl) (ev_eq (by decide))) w) ?_
                refine held_pure 21 (some 127) (v := Value.pointer (some ⟨u7.heap.size, 0, none⟩)) rfl (by kernel_rfl) (by kernel_rfl) (by kernel_rfl) rfl (fun _ _ _ h => h) (wanted_of rfl rfl rfl (ev_eq (by decide))) HS (fun w hS => (ro_field rfl (ev_ne (by decide) (ev_ne (by decide) (ev_ne (by decide) (ev_ne (by decide) (ev_ne (by decide) (ev_ne (by decide) (ev_ne (by decide) (ev_ne (by decide) (ev_ne (by decide) (ev_ne (by decide) (ev_ne (by decide) (ev_ne (by decide) (ev_ne (by decide) (ev_ne (by decide) (ev_ne (by decide) (ev_ne (by decide) (ev_ne (by decide) (ev_ne (by decide) (ev_ne (by decide) (ev_ne (by decide) (ev_ne (by decide) s12))))))))))))))))))))) (fun w => fa32 (B := u7.heap.size) (o := 0) (j := 0) (by decide) w)) w) ?_
                refine held_pure 22 (some 128) (v := Value.string y.f0) rfl (by kernel_rfl) (by kernel_rfl) (by kernel_rfl) rfl (fun _ _ _ h => h) (wanted_of rfl rfl rfl (ev_ne (by decide) (ev_eq (by decide)))) HS (fun w hS => (fun w => ro_load rfl (ev_eq (by decide)) (loadS hS.2.c0)) w) ?_
                refine held_pure 23 (some 129) (v := Value.pointer (some ⟨wr.heap.size, 0, none⟩)) rfl (by kernel_rfl) (by kernel_rfl) (by kernel_rfl) rfl (fun _ _ _ h => h) (wanted_of rfl rfl rfl (ev_ne (by decide) (ev_ne (by decide) (ev_eq (by decide))))) HS (fun w hS => (ro_field rfl (ev_ne (by decide) (ev_ne (by decide) (ev_ne (by decide) (ev_ne (by decide) (ev_ne (by decide) (ev_ne (by decide) (ev_ne (by decide) (ev_ne (by decide) (ev_ne (by decide) (ev_ne (by decide) (ev_ne (by decide) (ev_ne (by decide) (ev_ne (by decide) (ev_ne (by decide) (ev_ne (by decide) (ev_ne (by decide) (ev_ne (by decide) (ev_ne (by decide) (ev_ne (by decide) (ev_ne (by decide) (ev_ne (by decide) (ev_ne (by decide) (ev_ne (by decide) s6))))))))))))))))))))))) (fun w => fa32 (B := wr.heap.size) (o := 0) (j := 0) (by decide) w)) w) ?_
                refine held_pure 24 (some 130) (v := Value.string x.f0) rfl (by kernel_rfl) (by kernel_rfl) (by kernel_rfl) rfl (fun _ _ _ h => h) (wanted_of rfl rfl rfl (ev_ne (by decide) (ev_ne (by decide) (ev_ne (by decide) (ev_eq (by decide)))))) HS (fun w hS => (fun w => ro_load rfl (ev_eq (by decide)) (loadS hS.1.c0)) w) ?_
                refine held_pure 25 (some 131) (v := Value.bool true) rfl (by kernel_rfl) (by kernel_rfl) (by kernel_rfl) rfl (fun _ _ _ h => h) (wanted_of rfl rfl rfl (ev_ne (by decide) (ev_ne (by decide) (ev_ne (by decide) (ev_ne (by decide) (ev_eq (by decide))))))) HS (fun w hS => (ro_bin rfl (ev_ne (by decide) (ev_ne (by decide) (ev_eq (by decide)))) (ev_eq (by decide)) (fun w => by have e0 := HK2.out; go_simp)) w) ?_
                refine held_pure 26 (some 132) (v := Value.bool true) rfl (by kernel_rfl) (by kernel_rfl) (by kernel_rfl) rfl (fun _ _ _ h => h) (wanted_of rfl rfl rfl (ev_ne (by decide) (ev_ne (by decide) (ev_ne (by decide) (ev_ne (by decide) (ev_ne (by decide) (ev_eq (by decide)))))))) HS (fun w hS => (ro_move (.inl rfl) (ev_eq (by decide))) w) ?_
                refine held_pure 27 (some 133) (v := Value.pointer (some ⟨u7.heap.size, 1, none⟩)) rfl (by kernel_rfl) (by kernel_rfl) (by kernel_rfl) rfl (fun _ _ _ h => h) (wanted_of rfl rfl rfl (ev_eq (by decide))) HS (fun w hS => (ro_field rfl (ev_ne (by decide) (ev_ne (by decide) (ev_ne (by decide) (ev_ne (by decide) (ev_ne (by decide) (ev_ne (by decide) (ev_ne (by decide) (ev_ne (by decide) (ev_ne (by decide) (ev_ne (by decide) (ev_ne (by decide) (ev_ne (by decide) (ev_ne (by decide) (ev_ne (by decide) (ev_ne (by decide) (ev_ne (by decide) (ev_ne (by decide) (ev_ne (by decide) (ev_ne (by decide) (ev_ne (by decide) (ev_ne (by decide) (ev_ne (by decide) (ev_ne (by decide) (ev_ne (by decide) (ev_ne (by decide) (ev_ne (by decide) (ev_ne (by decide) s12))))))))))))))))))))))))))) (fun w => fa32 (B := u7.heap.size) (o := 0) (j := 1) (by decide) w)) w) ?_
                refine held_pure 28 (some 134) (v := Value.int .i64 y.f1) rfl (by kernel_rfl) (by kernel_rfl) (by kernel_rfl) rfl (fun _ _ _ h => h) (wanted_of rfl rfl rfl (ev_ne (by decide) (ev_eq (by decide)))) HS (fun w hS => (fun w => ro_load rfl (ev_eq (by decide)) (loadN hS.2.c1)) w) ?_
                refine held_pure 29 (some 135) (v := Value.pointer (some ⟨wr.heap.size, 1, none⟩)) rfl (by kernel_rfl) (by kernel_rfl) (by kernel_rfl) rfl (fun _ _ _ h => h) (wanted_of rfl rfl rfl (ev_ne (by decide) (ev_ne (by decide) (ev_eq (by decide))))) HS (fun w hS => (ro_field rfl (ev_ne (by decide) (ev_ne (by decide) (ev_ne (by decide) (ev_ne (by decide) (ev_ne (by decide) (ev_ne (by decide) (ev_ne (by decide) (ev_ne (by decide) (ev_ne (by decide) (ev_ne (by decide) (ev_ne (by decide) (ev_ne (by decide) (ev_ne (by decide) (ev_ne (by decide) (ev_ne (by decide) (ev_ne (by decide) (ev_ne (by decide) (ev_ne (by decide) (ev_ne (by decide) (ev_ne (by decide) (ev_ne (by decide) (ev_ne (by decide) (ev_ne (by decide) (ev_ne (by decide) (ev_ne (by decide) (ev_ne (by decide) (ev_ne (by decide) (ev_ne (by decide) (ev_ne (by decide) s6))))))))))))))))))))))))))))) (fun w => fa32 (B := wr.heap.size) (o := 0) (j := 1) (by decide) w)) w) ?_
                refine held_pure 30 (some 136) (v := Value.int .i64 x.f1) rfl (by kernel_rfl) (by kernel_rfl) (by kernel_rfl) rfl (fun _ _ _ h => h) (wanted_of rfl rfl rfl (ev_ne (by decide) (ev_ne (by decide) (ev_ne (by decide) (ev_eq (by decide)))))) HS (fun w hS => (fun w => ro_load rfl (ev_eq (by decide)) (loadN hS.1.c1)) w) ?_
                refine held_pure 31 (some 137) (v := Value.bool false) rfl (by kernel_rfl) (by kernel_rfl) (by kernel_rfl) rfl (fun _ _ _ h => h) (wanted_of rfl rfl rfl (ev_ne (by decide) (ev_ne (by decide) (ev_ne (by decide) (ev_ne (by decide) (ev_eq (by decide))))))) HS (fun w hS => (ro_bin rfl (ev_ne (by decide) (ev_ne (by decide) (ev_eq (by decide)))) (ev_eq (by decide)) (fun w => by have e0 := HK3.out; go_simp)) w) ?_
                refine held_pure 32 (some 138) (v := Value.bool false) rfl (by kernel_rfl) (by kernel_rfl) (by kernel_rfl) rfl (fun _ _ _ h => h) (wanted_of rfl rfl rfl (ev_ne (by decide) (ev_ne (by decide) (ev_ne (by decide) (ev_ne (by decide) (ev_ne (by decide) (ev_ne (by decide) (ev_ne (by decide) (ev_ne (by decide) (ev_ne (by decide) (ev_ne (by decide) (ev_ne (by decide) (ev_eq (by decide)))))))))))))) HS (fun w hS => (ro_pickt rfl (ev_ne (by decide) (ev_ne (by decide) (ev_ne (by decide) (ev_ne (by decide) (ev_ne (by decide) (ev_eq (by decide))))))) (ev_eq (by decide))) w) ?_
                refine held_pure 33 (some 139) (v := Value.bool false) rfl (by kernel_rfl) (by kernel_rfl) (by kernel_rfl) rfl (fun _ _ _ h => h) (wanted_none rfl) HS (fun w hS => (ro_pickf rfl (ev_ne (by decide) (ev_ne (by decide) (ev_ne (by decide) (ev_ne (by decide) (ev_ne (by decide) (ev_ne (by decide) (ev_ne (by decide) (ev_ne (by decide) (ev_ne (by decide) (ev_ne (by decide) (ev_ne (by decide) (ev_ne (by decide) (ev_eq (by decide)))))))))))))) (ev_eq (by decide))) w) ?_
                refine held_done (by kernel_rfl) ?_
                have hA := HAA.out
                subst hA
                simp only [Act.put, List.setIfInBounds_toArray, List.set_cons_zero, List.set_cons_succ]
                clear HAA HFr s6 s12
                clear HS HVV
                go_wp2_with fail
                go_roundg (ys.length - 1 - i)
                case measure => have := HD.out; omega
                case rel => exact ⟨i + 1, by go_num, ⟨by have := HD.out; omega⟩, ⟨HA.out.less.less⟩⟩
              | false =>
                have HK2 := Aside0.mk hk
                clear hk
                refine wp_region_held_drew (S := fun u => VarAt u wr.heap.size x ∧ VarAt u u7.heap.size y) (by kernel_rfl) HVV.out ?_
                intro HS
                refine held_var (fun A hA => ?_)
                have s6 : A.eval (.tmp 6) = Value.pointer (some ⟨wr.heap.size, 0, none⟩) := by rw [hA]; rfl
                have s12 : A.eval (.tmp 12) = Value.pointer (some ⟨u7.heap.size, 0, none⟩) := by rw [hA]; rfl
                haveI HFr : Fr 145 A := ⟨by rw [hA]; exact Nat.le_refl _⟩
                have HAA := Aside0.mk hA
                clear hA
                refine held_pure 0 (some 106) (v := Value.agg #[Value.string y.f0, Value.int .i64 y.f1, Value.int .i64 y.f2]) rfl (by kernel_rfl) (by kernel_rfl) (by kernel_rfl) rfl (fun _ _ _ h => h) (wanted_none rfl) HS (fun w hS => (fun w => ro_load rfl s12 (load32 hS.2)) w) ?_
                refine held_pure 2 (some 108) (v := Value.pointer (some ⟨wr.heap.size, 0, none⟩)) rfl (by kernel_rfl) (by kernel_rfl) (by kernel_rfl) rfl (fun _ _ _ h => h) (wanted_none rfl) HS (fun w hS => (ro_field rfl (ev_ne (by decide) s6) (fun w => fa32 (B := wr.heap.size) (o := 0) (j := 0) (by decide) w)) w) ?_
                refine held_pure 3 (some 109) (v := Value.string x.f0) rfl (by kernel_rfl) (by kernel_rfl) (by kernel_rfl) rfl (fun _ _ _ h => h) (wanted_none rfl) HS (fun w hS => (fun w => ro_load rfl (ev_eq (by decide)) (loadS hS.1.c0)) w) ?_
                refine held_call 1 (some 107) 21 #[Value.agg #[Value.string y.f0, Value.int .i64 y.f1, Value.int .i64 y.f2]] (by kernel_rfl) rfl rfl (wanted_none rfl) rfl (map1 (ev_ne (by decide) (ev_ne (by decide) (ev_eq (by decide))))) (fun args w => by kernel_rfl) (item_c y _) ?_
                rintro e' v0 ⟨rfl, hb⟩
                have h := HA.out.below hb; clear HA; have HA := Aside0.mk h; clear h
                have HS2 := And.intro (HS.1.below hb) (HS.2.below hb); clear HS hb; refine ⟨_, rfl, HS2, fun HS => ?_⟩; clear HS2
                refine held_call 4 (some 110) 20 #[Value.agg #[Value.string y.f0, Value.int .i64 y.f1, Value.int .i64 y.f2], Value.string x.f0] (by kernel_rfl) rfl rfl (wanted_none rfl) rfl (map2 (ev_eq (by decide)) (ev_ne (by decide) (ev_eq (by decide)))) (fun args w => by kernel_rfl) (beg_c y x.f0 true HBB.out _) ?_
                rintro e' v1 ⟨rfl, hb⟩
                have h := HA.out.below hb; clear HA; have HA := Aside0.mk h; clear h
                have HS2 := And.intro (HS.1.below hb) (HS.2.below hb); clear HS hb; refine ⟨_, rfl, HS2, fun HS => ?_⟩; clear HS2
                refine held_pure 5 (some 111) (v := Value.bool false) rfl (by kernel_rfl) (by kernel_rfl) (by kernel_rfl) rfl (fun _ _ _ h => h) (wanted_none rfl) HS (fun w hS => ((ro_unOp rfl (ev_eq (by decide)) (fun w => by go_simp))) w) ?_
                refine held_pure 6 (some 112) (v := Value.bool false) rfl (by kernel_rfl) (by kernel_rfl) (by kernel_rfl) rfl (fun _ _ _ h => h) (wanted_none rfl) HS (fun w hS => (ro_move (.inl rfl) (ev_eq (by decide))) w) ?_
                refine held_skip 7 (some 113) rfl (by kernel_rfl) (by kernel_rfl) (by kernel_rfl) rfl (fun _ _ _ h => h) (unwanted_of rfl rfl rfl (ev_eq (by decide)) (by decide)) HS ?_
                refine held_skip 8 (some 114) rfl (by kernel_rfl) (by kernel_rfl) (by kernel_rfl) rfl (fun _ _ _ h => h) (unwanted_of rfl rfl rfl (ev_ne (by decide) (ev_eq (by decide))) (by decide)) HS ?_
                refine held_skip 9 (some 115) rfl (by kernel_rfl) (by kernel_rfl) (by kernel_rfl) rfl (fun _ _ _ h => h) (unwanted_of rfl rfl rfl (ev_ne (by decide) (ev_ne (by decide) (ev_eq (by decide)))) (by decide)) HS ?_
                refine held_skip 10 (some 116) rfl (by kernel_rfl) (by kernel_rfl) (by kernel_rfl) rfl (fun _ _ _ h => h) (unwanted_of rfl rfl rfl (ev_ne (by decide) (ev_ne (by decide) (ev_ne (by decide) (ev_eq (by decide))))) (by decide)) HS ?_
                refine held_skip 11 (some 117) rfl (by kernel_rfl) (by kernel_rfl) (by kernel_rfl) rfl (fun _ _ _ h => h) (unwanted_of rfl rfl rfl (ev_ne (by decide) (ev_ne (by decide) (ev_ne (by decide) (ev_ne (by decide) (ev_eq (by decide)))))) (by decide)) HS ?_
                refine held_skip 12 (some 118) rfl (by kernel_rfl) (by kernel_rfl) (by kernel_rfl) rfl (fun _ _ _ h => h) (unwanted_of rfl rfl rfl (ev_ne (by decide) (ev_ne (by decide) (ev_ne (by decide) (ev_ne (by decide) (ev_ne (by decide) (ev_eq (by decide))))))) (by decide)) HS ?_
                refine held_skip 13 (some 119) rfl (by kernel_rfl) (by kernel_rfl) (by kernel_rfl) rfl (fun _ _ _ h => h) (unwanted_undef rfl rfl rfl (ev_eq (by decide))) HS ?_
                refine held_skip 15 (some 121) rfl (by kernel_rfl) (by kernel_rfl) (by kernel_rfl) rfl (fun _ _ _ h => h) (unwanted_undef rfl rfl rfl (ev_ne (by decide) (ev_eq (by decide)))) HS ?_
                refine held_skip 16 (some 122) rfl (by kernel_rfl) (by kernel_rfl) (by kernel_rfl) rfl (fun _ _ _ h => h) (unwanted_undef rfl rfl rfl (ev_ne (by decide) (ev_ne (by decide) (ev_eq (by decide))))) HS ?_
                refine held_skip1 14 (some 120) (by kernel_rfl) rfl rfl (unwanted_undef rfl rfl rfl (ev_ne (by decide) (ev_ne (by decide) (ev_ne (by decide) (ev_eq (by decide)))))) HS ?_
                refine held_skip1 17 (some 123) (by kernel_rfl) rfl rfl (unwanted_undef rfl rfl rfl (ev_ne (by decide) (ev_ne (by decide) (ev_ne (by decide) (ev_ne (by decide) (ev_eq (by decide))))))) HS ?_
                refine held_skip 18 (some 124) rfl (by kernel_rfl) (by kernel_rfl) (by kernel_rfl) rfl (fun _ _ _ h => h) (unwanted_of rfl rfl rfl (ev_ne (by decide) (ev_ne (by decide) (ev_ne (by decide) (ev_ne (by decide) (ev_ne (by decide) (ev_ne (by decide) (ev_ne (by decide) (ev_ne (by decide) (ev_ne (by decide) (ev_ne (by decide) (ev_ne (by decide) (ev_eq (by decide))))))))))))) (by decide)) HS ?_
                refine held_pure 19 (some 125) (v := Value.bool false) rfl (by kernel_rfl) (by kernel_rfl) (by kernel_rfl) rfl (fun _ _ _ h => h) (wanted_none rfl) HS (fun w hS => (ro_pickf rfl (ev_ne (by decide) (ev_ne (by decide) (ev_ne (by decide) (ev_ne (by decide) (ev_ne (by decide) (ev_ne (by decide) (ev_ne (by decide) (ev_ne (by decide) (ev_ne (by decide) (ev_ne (by decide) (ev_ne (by decide) (ev_ne (by decide) (ev_eq (by decide)))))))))))))) (ev_const _ _)) w) ?_
                refine held_pure 20 (some 126) (v := Value.bool false) rfl (by kernel_rfl) (by kernel_rfl) (by kernel_rfl) rfl (fun _ _ _ h => h) (wanted_none rfl) HS (fun w hS => (ro_move (.inl rfl) (ev_eq (by decide))) w) ?_
                refine held_pure 21 (some 127) (v := Value.pointer (some ⟨u7.heap.size, 0, none⟩)) rfl (by kernel_rfl) (by kernel_rfl) (by kernel_rfl) rfl (fun _ _ _ h => h) (wanted_of rfl rfl rfl (ev_eq (by decide))) HS (fun w hS => (ro_field rfl (ev_ne (by decide) (ev_ne (by decide) (ev_ne (by decide) (ev_ne (by decide) (ev_ne (by decide) (ev_ne (by decide) (ev_ne (by decide) (ev_ne (by decide) (ev_ne (by decide) (ev_ne (by decide) (ev_ne (by decide) (ev_ne (by decide) (ev_ne (by decide) (ev_ne (by decide) (ev_ne (by decide) (ev_ne (by decide) (ev_ne (by decide) (ev_ne (by decide) (ev_ne (by decide) (ev_ne (by decide) (ev_ne (by decide) s12))))))))))))))))))))) (fun w => fa32 (B := u7.heap.size) (o := 0) (j := 0) (by decide) w)) w) ?_
                refine held_pure 22 (some 128) (v := Value.string y.f0) rfl (by kernel_rfl) (by kernel_rfl) (by kernel_rfl) rfl (fun _ _ _ h => h) (wanted_of rfl rfl rfl (ev_ne (by decide) (ev_eq (by decide)))) HS (fun w hS => (fun w => ro_load rfl (ev_eq (by decide)) (loadS hS.2.c0)) w) ?_
                refine held_pure 23 (some 129) (v := Value.pointer (some ⟨wr.heap.size, 0, none⟩)) rfl (by kernel_rfl) (by kernel_rfl) (by kernel_rfl) rfl (fun _ _ _ h => h) (wanted_of rfl rfl rfl (ev_ne (by decide) (ev_ne (by decide) (ev_eq (by decide))))) HS (fun w hS => (ro_field rfl (ev_ne (by decide) (ev_ne (by decide) (ev_ne (by decide) (ev_ne (by decide) (ev_ne (by decide) (ev_ne (by decide) (ev_ne (by decide) (ev_ne (by decide) (ev_ne (by decide) (ev_ne (by decide) (ev_ne (by decide) (ev_ne (by decide) (ev_ne (by decide) (ev_ne (by decide) (ev_ne (by decide) (ev_ne (by decide) (ev_ne (by decide) (ev_ne (by decide) (ev_ne (by decide) (ev_ne (by decide) (ev_ne (by decide) (ev_ne (by decide) (ev_ne (by decide) s6))))))))))))))))))))))) (fun w => fa32 (B := wr.heap.size) (o := 0) (j := 0) (by decide) w)) w) ?_
                refine held_pure 24 (some 130) (v := Value.string x.f0) rfl (by kernel_rfl) (by kernel_rfl) (by kernel_rfl) rfl (fun _ _ _ h => h) (wanted_of rfl rfl rfl (ev_ne (by decide) (ev_ne (by decide) (ev_ne (by decide) (ev_eq (by decide)))))) HS (fun w hS => (fun w => ro_load rfl (ev_eq (by decide)) (loadS hS.1.c0)) w) ?_
                refine held_pure 25 (some 131) (v := Value.bool false) rfl (by kernel_rfl) (by kernel_rfl) (by kernel_rfl) rfl (fun _ _ _ h => h) (wanted_of rfl rfl rfl (ev_ne (by decide) (ev_ne (by decide) (ev_ne (by decide) (ev_ne (by decide) (ev_eq (by decide))))))) HS (fun w hS => (ro_bin rfl (ev_ne (by decide) (ev_ne (by decide) (ev_eq (by decide)))) (ev_eq (by decide)) (fun w => by have e0 := HK2.out; go_simp)) w) ?_
                refine held_pure 26 (some 132) (v := Value.bool false) rfl (by kernel_rfl) (by kernel_rfl) (by kernel_rfl) rfl (fun _ _ _ h => h) (wanted_of rfl rfl rfl (ev_ne (by decide) (ev_ne (by decide) (ev_ne (by decide) (ev_ne (by decide) (ev_ne (by decide) (ev_eq (by decide)))))))) HS (fun w hS => (ro_move (.inl rfl) (ev_eq (by decide))) w) ?_
                refine held_skip 27 (some 133) rfl (by kernel_rfl) (by kernel_rfl) (by kernel_rfl) rfl (fun _ _ _ h => h) (unwanted_of rfl rfl rfl (ev_eq (by decide)) (by decide)) HS ?_
                refine held_skip 28 (some 134) rfl (by kernel_rfl) (by kernel_rfl) (by kernel_rfl) rfl (fun _ _ _ h => h) (unwanted_of rfl rfl rfl (ev_ne (by decide) (ev_eq (by decide))) (by decide)) HS ?_
                refine held_skip 29 (some 135) rfl (by kernel_rfl) (by kernel_rfl) (by kernel_rfl) rfl (fun _ _ _ h => h) (unwanted_of rfl rfl rfl (ev_ne (by decide) (ev_ne (by decide) (ev_eq (by decide)))) (by decide)) HS ?_
                refine held_skip 30 (some 136) rfl (by kernel_rfl) (by kernel_rfl) (by kernel_rfl) rfl (fun _ _ _ h => h) (unwanted_of rfl rfl rfl (ev_ne (by decide) (ev_ne (by decide) (ev_ne (by decide) (ev_eq (by decide))))) (by decide)) HS ?_
                refine held_skip 31 (some 137) rfl (by kernel_rfl) (by kernel_rfl) (by kernel_rfl) rfl (fun _ _ _ h => h) (unwanted_of rfl rfl rfl (ev_ne (by decide) (ev_ne (by decide) (ev_ne (by decide) (ev_ne (by decide) (ev_eq (by decide)))))) (by decide)) HS ?_
                refine held_pure 32 (some 138) (v := Value.bool false) rfl (by kernel_rfl) (by kernel_rfl) (by kernel_rfl) rfl (fun _ _ _ h => h) (wanted_of rfl rfl rfl (ev_ne (by decide) (ev_ne (by decide) (ev_ne (by decide) (ev_ne (by decide) (ev_ne (by decide) (ev_ne (by decide) (ev_ne (by decide) (ev_ne (by decide) (ev_ne (by decide) (ev_ne (by decide) (ev_ne (by decide) (ev_eq (by decide)))))))))))))) HS (fun w hS => (ro_pickf rfl (ev_ne (by decide) (ev_ne (by decide) (ev_ne (by decide) (ev_ne (by decide) (ev_ne (by decide) (ev_eq (by decide))))))) (ev_const _ _)) w) ?_
                refine held_pure 33 (some 139) (v := Value.bool false) rfl (by kernel_rfl) (by kernel_rfl) (by kernel_rfl) rfl (fun _ _ _ h => h) (wanted_none rfl) HS (fun w hS => (ro_pickf rfl (ev_ne (by decide) (ev_ne (by decide) (ev_ne (by decide) (ev_ne (by decide) (ev_ne (by decide) (ev_ne (by decide) (ev_ne (by decide) (ev_ne (by decide) (ev_ne (by decide) (ev_ne (by decide) (ev_ne (by decide) (ev_ne (by decide) (ev_eq (by decide)))))))))))))) (ev_eq (by decide))) w) ?_
                refine held_done (by kernel_rfl) ?_
                have hA := HAA.out
                subst hA
                simp only [Act.put, List.setIfInBounds_toArray, List.set_cons_zero, List.set_cons_succ]
                clear HAA HFr s6 s12
                clear HS HVV
                go_wp2_with fail
                go_roundg (ys.length - 1 - i)
                case measure => have := HD.out; omega
                case rel => exact ⟨i + 1, by go_num, ⟨by have := HD.out; omega⟩, ⟨HA.out.less.less⟩⟩
            | less b1 b2 h1 h2 =>
              have HBB := Aside0.mk b1
              have HB3 := Aside0.mk b2
              have HK1 := Aside0.mk h1
              have HK2 := Aside0.mk h2
              clear b1 b2 h1 h2 HNX
              refine wp_region_held_drew (S := fun u => VarAt u wr.heap.size x ∧ VarAt u u7.heap.size y) (by kernel_rfl) HVV.out ?_
              intro HS
              refine held_var (fun A hA => ?_)
              have s6 : A.eval (.tmp 6) = Value.pointer (some ⟨wr.heap.size, 0, none⟩) := by rw [hA]; rfl
              have s12 : A.eval (.tmp 12) = Value.pointer (some ⟨u7.heap.size, 0, none⟩) := by rw [hA]; rfl
              haveI HFr : Fr 145 A := ⟨by rw [hA]; exact Nat.le_refl _⟩
              have HAA := Aside0.mk hA
              clear hA
              refine held_pure 0 (some 106) (v := Value.agg #[Value.string y.f0, Value.int .i64 y.f1, Value.int .i64 y.f2]) rfl (by kernel_rfl) (by kernel_rfl) (by kernel_rfl) rfl (fun _ _ _ h => h) (wanted_none rfl) HS (fun w hS => (fun w => ro_load rfl s12 (load32 hS.2)) w) ?_
              refine held_pure 2 (some 108) (v := Value.pointer (some ⟨wr.heap.size, 0, none⟩)) rfl (by kernel_rfl) (by kernel_rfl) (by kernel_rfl) rfl (fun _ _ _ h => h) (wanted_none rfl) HS (fun w hS => (ro_field rfl (ev_ne (by decide) s6) (fun w => fa32 (B := wr.heap.size) (o := 0) (j := 0) (by decide) w)) w) ?_
              refine held_pure 3 (some 109) (v := Value.string x.f0) rfl (by kernel_rfl) (by kernel_rfl) (by kernel_rfl) rfl (fun _ _ _ h => h) (wanted_none rfl) HS (fun w hS => (fun w => ro_load rfl (ev_eq (by decide)) (loadS hS.1.c0)) w) ?_
              refine held_call 1 (some 107) 21 #[Value.agg #[Value.string y.f0, Value.int .i64 y.f1, Value.int .i64 y.f2]] (by kernel_rfl) rfl rfl (wanted_none rfl) rfl (map1 (ev_ne (by decide) (ev_ne (by decide) (ev_eq (by decide))))) (fun args w => by kernel_rfl) (item_c y _) ?_
              rintro e' v0 ⟨rfl, hb⟩
              have h := HA.out.below hb; clear HA; have HA := Aside0.mk h; clear h
              have HS2 := And.intro (HS.1.below hb) (HS.2.below hb); clear HS hb; refine ⟨_, rfl, HS2, fun HS => ?_⟩; clear HS2
              refine held_call 4 (some 110) 20 #[Value.agg #[Value.string y.f0, Value.int .i64 y.f1, Value.int .i64 y.f2], Value.string x.f0] (by kernel_rfl) rfl rfl (wanted_none rfl) rfl (map2 (ev_eq (by decide)) (ev_ne (by decide) (ev_eq (by decide)))) (fun args w => by kernel_rfl) (beg_c y x.f0 false HBB.out _) ?_
              rintro e' v1 ⟨rfl, hb⟩
              have h := HA.out.below hb; clear HA; have HA := Aside0.mk h; clear h
              have HS2 := And.intro (HS.1.below hb) (HS.2.below hb); clear HS hb; refine ⟨_, rfl, HS2, fun HS => ?_⟩; clear HS2
              refine held_pure 5 (some 111) (v := Value.bool true) rfl (by kernel_rfl) (by kernel_rfl) (by kernel_rfl) rfl (fun _ _ _ h => h) (wanted_none rfl) HS (fun w hS => ((ro_unOp rfl (ev_eq (by decide)) (fun w => by go_simp))) w) ?_
              refine held_pure 6 (some 112) (v := Value.bool true) rfl (by kernel_rfl) (by kernel_rfl) (by kernel_rfl) rfl (fun _ _ _ h => h) (wanted_none rfl) HS (fun w hS => (ro_move (.inl rfl) (ev_eq (by decide))) w) ?_
              refine held_pure 7 (some 113) (v := Value.pointer (some ⟨u7.heap.size, 0, none⟩)) rfl (by kernel_rfl) (by kernel_rfl) (by kernel_rfl) rfl (fun _ _ _ h => h) (wanted_of rfl rfl rfl (ev_eq (by decide))) HS (fun w hS => (ro_field rfl (ev_ne (by decide) (ev_ne (by decide) (ev_ne (by decide) (ev_ne (by decide) (ev_ne (by decide) (ev_ne (by decide) (ev_ne (by decide) s12))))))) (fun w => fa32 (B := u7.heap.size) (o := 0) (j := 0) (by decide) w)) w) ?_
              refine held_pure 8 (some 114) (v := Value.string y.f0) rfl (by kernel_rfl) (by kernel_rfl) (by kernel_rfl) rfl (fun _ _ _ h => h) (wanted_of rfl rfl rfl (ev_ne (by decide) (ev_eq (by decide)))) HS (fun w hS => (fun w => ro_load rfl (ev_eq (by decide)) (loadS hS.2.c0)) w) ?_
              refine held_pure 9 (some 115) (v := Value.pointer (some ⟨wr.heap.size, 0, none⟩)) rfl (by kernel_rfl) (by kernel_rfl) (by kernel_rfl) rfl (fun _ _ _ h => h) (wanted_of rfl rfl rfl (ev_ne (by decide) (ev_ne (by decide) (ev_eq (by decide))))) HS (fun w hS => (ro_field rfl (ev_ne (by decide) (ev_ne (by decide) (ev_ne (by decide) (ev_ne (by decide) (ev_ne (by decide) (ev_ne (by decide) (ev_ne (by decide) (ev_ne (by decide) (ev_ne (by decide) s6))))))))) (fun w => fa32 (B := wr.heap.size) (o := 0) (j := 0) (by decide) w)) w) ?_
              refine held_pure 10 (some 116) (v := Value.string x.f0) rfl (by kernel_rfl) (by kernel_rfl) (by kernel_rfl) rfl (fun _ _ _ h => h) (wanted_of rfl rfl rfl (ev_ne (by decide) (ev_ne (by decide) (ev_ne (by decide) (ev_eq (by decide)))))) HS (fun w hS => (fun w => ro_load rfl (ev_eq (by decide)) (loadS hS.1.c0)) w) ?_
              refine held_pure 11 (some 117) (v := Value.bool false) rfl (by kernel_rfl) (by kernel_rfl) (by kernel_rfl) rfl (fun _ _ _ h => h) (wanted_of rfl rfl rfl (ev_ne (by decide) (ev_ne (by decide) (ev_ne (by decide) (ev_ne (by decide) (ev_eq (by decide))))))) HS (fun w hS => (ro_bin rfl (ev_ne (by decide) (ev_ne (by decide) (ev_eq (by decide)))) (ev_eq (by decide)) (fun w => geq_no (t := 9) HK1.out w)) w) ?_
              refine held_pure 12 (some 118) (v := Value.bool false) rfl (by kernel_rfl) (by kernel_rfl) (by kernel_rfl) rfl (fun _ _ _ h => h) (wanted_of rfl rfl rfl (ev_ne (by decide) (ev_ne (by decide) (ev_ne (by decide) (ev_ne (by decide) (ev_ne (by decide) (ev_eq (by decide)))))))) HS (fun w hS => (ro_move (.inl rfl) (ev_eq (by decide))) w) ?_
              refine held_pure 13 (some 119) (v := Value.agg #[Value.string x.f0, Value.int .i64 x.f1, Value.int .i64 x.f2]) rfl (by kernel_rfl) (by kernel_rfl) (by kernel_rfl) rfl (fun _ _ _ h => h) (wanted_of rfl rfl rfl (ev_eq (by decide))) HS (fun w hS => (fun w => ro_load rfl (ev_ne (by decide) (ev_ne (by decide) (ev_ne (by decide) (ev_ne (by decide) (ev_ne (by decide) (ev_ne (by decide) (ev_ne (by decide) (ev_ne (by decide) (ev_ne (by decide) (ev_ne (by decide) (ev_ne (by decide) (ev_ne (by decide) (ev_ne (by decide) s6))))))))))))) (load32 hS.1)) w) ?_
              refine held_pure 15 (some 121) (v := Value.pointer (some ⟨u7.heap.size, 0, none⟩)) rfl (by kernel_rfl) (by kernel_rfl) (by kernel_rfl) rfl (fun _ _ _ h => h) (wanted_of rfl rfl rfl (ev_ne (by decide) (ev_eq (by decide)))) HS (fun w hS => (ro_field rfl (ev_ne (by decide) (ev_ne (by decide) (ev_ne (by decide) (ev_ne (by decide) (ev_ne (by decide) (ev_ne (by decide) (ev_ne (by decide) (ev_ne (by decide) (ev_ne (by decide) (ev_ne (by decide) (ev_ne (by decide) (ev_ne (by decide) (ev_ne (by decide) (ev_ne (by decide) s12)))))))))))))) (fun w => fa32 (B := u7.heap.size) (o := 0) (j := 0) (by decide) w)) w) ?_
              refine held_pure 16 (some 122) (v := Value.string y.f0) rfl (by kernel_rfl) (by kernel_rfl) (by kernel_rfl) rfl (fun _ _ _ h => h) (wanted_of rfl rfl rfl (ev_ne (by decide) (ev_ne (by decide) (ev_eq (by decide))))) HS (fun w hS => (fun w => ro_load rfl (ev_eq (by decide)) (loadS hS.2.c0)) w) ?_
              refine held_call 14 (some 120) 21 #[Value.agg #[Value.string x.f0, Value.int .i64 x.f1, Value.int .i64 x.f2]] (by kernel_rfl) rfl rfl (wanted_of rfl rfl rfl (ev_ne (by decide) (ev_ne (by decide) (ev_ne (by decide) (ev_eq (by decide)))))) rfl (map1 (ev_ne (by decide) (ev_ne (by decide) (ev_eq (by decide))))) (fun args w => by kernel_rfl) (item_c x _) ?_
              rintro e' v2 ⟨rfl, hb⟩
              have h := HA.out.below hb; clear HA; have HA := Aside0.mk h; clear h
              have HS2 := And.intro (HS.1.below hb) (HS.2.below hb); clear HS hb; refine ⟨_, rfl, HS2, fun HS => ?_⟩; clear HS2
              refine held_call 17 (some 123) 20 #[Value.agg #[Value.string x.f0, Value.int .i64 x.f1, Value.int .i64 x.f2], Value.string y.f0] (by kernel_rfl) rfl rfl (wanted_of rfl rfl rfl (ev_ne (by decide) (ev_ne (by decide) (ev_ne (by decide) (ev_ne (by decide) (ev_eq (by decide))))))) rfl (map2 (ev_eq (by decide)) (ev_ne (by decide) (ev_eq (by decide)))) (fun args w => by kernel_rfl) (beg_c x y.f0 false HB3.out _) ?_
              rintro e' v3 ⟨rfl, hb⟩
              have h := HA.out.below hb; clear HA; have HA := Aside0.mk h; clear h
              have HS2 := And.intro (HS.1.below hb) (HS.2.below hb); clear HS hb; refine ⟨_, rfl, HS2, fun HS => ?_⟩; clear HS2
              refine held_pure 18 (some 124) (v := Value.bool false) rfl (by kernel_rfl) (by kernel_rfl) (by kernel_rfl) rfl (fun _ _ _ h => h) (wanted_of rfl rfl rfl (ev_ne (by decide) (ev_ne (by decide) (ev_ne (by decide) (ev_ne (by decide) (ev_ne (by decide) (ev_ne (by decide) (ev_ne (by decide) (ev_ne (by decide) (ev_ne (by decide) (ev_ne (by decide) (ev_ne (by decide) (ev_eq (by decide)))))))))))))) HS (fun w hS => (ro_pickf rfl (ev_ne (by decide) (ev_ne (by decide) (ev_ne (by decide) (ev_ne (by decide) (ev_ne (by decide) (ev_eq (by decide))))))) (ev_eq (by decide))) w) ?_
              refine held_pure 19 (some 125) (v := Value.bool false) rfl (by kernel_rfl) (by kernel_rfl) (by kernel_rfl) rfl (fun _ _ _ h => h) (wanted_none rfl) HS (fun w hS => (ro_pickt rfl (ev_ne (by decide) (ev_ne (by decide) (ev_ne (by decide) (ev_ne (by decide) (ev_ne (by decide) (ev_ne (by decide) (ev_ne (by decide) (ev_ne (by decide) (ev_ne (by decide) (ev_ne (by decide) (ev_ne (by decide) (ev_ne (by decide) (ev_eq (by decide)))))))))))))) (ev_eq (by decide))) w) ?_
              refine held_pure 20 (some 126) (v := Value.bool false) rfl (by kernel_rfl) (by kernel_rfl) (by kernel_rfl) rfl (fun _ _ _ h => h) (wanted_none rfl) HS (fun w hS => (ro_move (.inl rfl) (ev_eq (by decide))) w) ?_
              refine held_pure 21 (some 127) (v := Value.pointer (some ⟨u7.heap.size, 0, none⟩)) rfl (by kernel_rfl) (by kernel_rfl) (by kernel_rfl) rfl (fun _ _ _ h => h) (wanted_of rfl rfl rfl (ev_eq (by decide))) HS (fun w hS => (ro_field rfl (ev_ne (by decide) (ev_ne (by decide) (ev_ne (by decide) (ev_ne (by decide) (ev_ne (by decide) (ev_ne (by decide) (ev_ne (by decide) (ev_ne (by decide) (ev_ne (by decide) (ev_ne (by decide) (ev_ne (by decide) (ev_ne (by decide) (ev_ne (by decide) (ev_ne (by decide) (ev_ne (by decide) (ev_ne (by decide) (ev_ne (by decide) (ev_ne (by decide) (ev_ne (by decide) (ev_ne (by decide) (ev_ne (by decide) s12))))))))))))))))))))) (fun w => fa32 (B := u7.heap.size) (o := 0) (j := 0) (by decide) w)) w) ?_
              refine held_pure 22 (some 128) (v := Value.string y.f0) rfl (by kernel_rfl) (by kernel_rfl) (by kernel_rfl) rfl (fun _ _ _ h => h) (wanted_of rfl rfl rfl (ev_ne (by decide) (ev_eq (by decide)))) HS (fun w hS => (fun w => ro_load rfl (ev_eq (by decide)) (loadS hS.2.c0)) w) ?_
              refine held_pure 23 (some 129) (v := Value.pointer (some ⟨wr.heap.size, 0, none⟩)) rfl (by kernel_rfl) (by kernel_rfl) (by kernel_rfl) rfl (fun _ _ _ h => h) (wanted_of rfl rfl rfl (ev_ne (by decide) (ev_ne (by decide) (ev_eq (by decide))))) HS (fun w hS => (ro_field rfl (ev_ne (by decide) (ev_ne (by decide) (ev_ne (by decide) (ev_ne (by decide) (ev_ne (by decide) (ev_ne (by decide) (ev_ne (by decide) (ev_ne (by decide) (ev_ne (by decide) (ev_ne (by decide) (ev_ne (by decide) (ev_ne (by decide) (ev_ne (by decide) (ev_ne (by decide) (ev_ne (by decide) (ev_ne (by decide) (ev_ne (by decide) (ev_ne (by decide) (ev_ne (by decide) (ev_ne (by decide) (ev_ne (by decide) (ev_ne (by decide) (ev_ne (by decide) s6))))))))))))))))))))))) (fun w => fa32 (B := wr.heap.size) (o := 0) (j := 0) (by decide) w)) w) ?_
              refine held_pure 24 (some 130) (v := Value.string x.f0) rfl (by kernel_rfl) (by kernel_rfl) (by kernel_rfl) rfl (fun _ _ _ h => h) (wanted_of rfl rfl rfl (ev_ne (by decide) (ev_ne (by decide) (ev_ne (by decide) (ev_eq (by decide)))))) HS (fun w hS => (fun w => ro_load rfl (ev_eq (by decide)) (loadS hS.1.c0)) w) ?_
              refine held_pure 25 (some 131) (v := Value.bool false) rfl (by kernel_rfl) (by kernel_rfl) (by kernel_rfl) rfl (fun _ _ _ h => h) (wanted_of rfl rfl rfl (ev_ne (by decide) (ev_ne (by decide) (ev_ne (by decide) (ev_ne (by decide) (ev_eq (by decide))))))) HS (fun w hS => (ro_bin rfl (ev_ne (by decide) (ev_ne (by decide) (ev_eq (by decide)))) (ev_eq (by decide)) (fun w => by have e0 := HK2.out; go_simp)) w) ?_
              refine held_pure 26 (some 132) (v := Value.bool false) rfl (by kernel_rfl) (by kernel_rfl) (by kernel_rfl) rfl (fun _ _ _ h => h) (wanted_of rfl rfl rfl (ev_ne (by decide) (ev_ne (by decide) (ev_ne (by decide) (ev_ne (by decide) (ev_ne (by decide) (ev_eq (by decide)))))))) HS (fun w hS => (ro_move (.inl rfl) (ev_eq (by decide))) w) ?_
              refine held_skip 27 (some 133) rfl (by kernel_rfl) (by kernel_rfl) (by kernel_rfl) rfl (fun _ _ _ h => h) (unwanted_of rfl rfl rfl (ev_eq (by decide)) (by decide)) HS ?_
              refine held_skip 28 (some 134) rfl (by kernel_rfl) (by kernel_rfl) (by kernel_rfl) rfl (fun _ _ _ h => h) (unwanted_of rfl rfl rfl (ev_ne (by decide) (ev_eq (by decide))) (by decide)) HS ?_
              refine held_skip 29 (some 135) rfl (by kernel_rfl) (by kernel_rfl) (by kernel_rfl) rfl (fun _ _ _ h => h) (unwanted_of rfl rfl rfl (ev_ne (by decide) (ev_ne (by decide) (ev_eq (by decide)))) (by decide)) HS ?_
              refine held_skip 30 (some 136) rfl (by kernel_rfl) (by kernel_rfl) (by kernel_rfl) rfl (fun _ _ _ h => h) (unwanted_of rfl rfl rfl (ev_ne (by decide) (ev_ne (by decide) (ev_ne (by decide) (ev_eq (by decide))))) (by decide)) HS ?_
              refine held_skip 31 (some 137) rfl (by kernel_rfl) (by kernel_rfl) (by kernel_rfl) rfl (fun _ _ _ h => h) (unwanted_of rfl rfl rfl (ev_ne (by decide) (ev_ne (by decide) (ev_ne (by decide) (ev_ne (by decide) (ev_eq (by decide)))))) (by decide)) HS ?_
              refine held_pure 32 (some 138) (v := Value.bool false) rfl (by kernel_rfl) (by kernel_rfl) (by kernel_rfl) rfl (fun _ _ _ h => h) (wanted_of rfl rfl rfl (ev_ne (by decide) (ev_ne (by decide) (ev_ne (by decide) (ev_ne (by decide) (ev_ne (by decide) (ev_ne (by decide) (ev_ne (by decide) (ev_ne (by decide) (ev_ne (by decide) (ev_ne (by decide) (ev_ne (by decide) (ev_eq (by decide)))))))))))))) HS (fun w hS => (ro_pickf rfl (ev_ne (by decide) (ev_ne (by decide) (ev_ne (by decide) (ev_ne (by decide) (ev_ne (by decide) (ev_eq (by decide))))))) (ev_const _ _)) w) ?_
              refine held_pure 33 (some 139) (v := Value.bool false) rfl (by kernel_rfl) (by kernel_rfl) (by kernel_rfl) rfl (fun _ _ _ h => h) (wanted_none rfl) HS (fun w hS => (ro_pickf rfl (ev_ne (by decide) (ev_ne (by decide) (ev_ne (by decide) (ev_ne (by decide) (ev_ne (by decide) (ev_ne (by decide) (ev_ne (by decide) (ev_ne (by decide) (ev_ne (by decide) (ev_ne (by decide) (ev_ne (by decide) (ev_ne (by decide) (ev_eq (by decide)))))))))))))) (ev_eq (by decide))) w) ?_
              refine held_done (by kernel_rfl) ?_
              have hA := HAA.out
              subst hA
              simp only [Act.put, List.setIfInBounds_toArray, List.set_cons_zero, List.set_cons_succ]
              clear HAA HFr s6 s12
              clear HS HVV
              go_wp2_with fail
              go_roundg (ys.length - 1 - i)
              case measure => have := HD.out; omega
              case rel => exact ⟨i + 1, by go_num, ⟨by have := HD.out; omega⟩, ⟨HA.out.less.less⟩⟩
        · have HE2 : Aside0 (((m : Int) == x.f1) = false) := ⟨by rw [HMV.out.1]; exact beq_false_of_ne (by omega)⟩
          clear hmb HMV
          go_wp2_with fail
          have h := HA.out.below (pw_below_drewN (Below.refl _ _) 1); clear HA; have HA := Aside0.mk h; clear h
          have HVX := Aside0.mk (HA.out.va (p := wr.heap.size) (y := x) (by simp))
          refine wp_region_held_drew (S := fun u => VarAt u wr.heap.size x) (by kernel_rfl) HVX.out ?_
          intro HS
          refine held_var (fun A hA => ?_)
          have s6 : A.eval (.tmp 6) = Value.pointer (some ⟨wr.heap.size, 0, none⟩) := by rw [hA]; rfl
          have s7 : A.eval (.tmp 7) = Value.int .i64 x.f2 := by rw [hA]; rfl
          have s8 : A.eval (.tmp 8) = Value.bool true := by rw [hA]; rfl
          have s9 : A.eval (.tmp 9) = Value.int .i64 (m : Int) := by rw [hA]; rfl
          have s10 : A.eval (.tmp 10) = Value.int .i64 v := by rw [hA]; rfl
          have s11 : A.eval (.tmp 11) = Value.bool true := by rw [hA]; rfl
          haveI HFr : Fr 145 A := ⟨by rw [hA]; exact Nat.le_refl _⟩
          have HAA := Aside0.mk hA
          clear hA
          refine held_pure 0 (some 51) (v := Value.bool true) rfl (by kernel_rfl) (by kernel_rfl) (by kernel_rfl) rfl (fun _ _ _ h => h) (wanted_none rfl) HS (fun w hS => (ro_move (.inl rfl) s8) w) ?_
          refine held_pure 1 (some 52) (v := Value.bool false) rfl (by kernel_rfl) (by kernel_rfl) (by kernel_rfl) rfl (fun _ _ _ h => h) (wanted_none rfl) HS (fun w hS => ((ro_unOp rfl (ev_eq (by decide)) (fun w => by go_simp))) w) ?_
          refine held_pure 2 (some 53) (v := Value.bool false) rfl (by kernel_rfl) (by kernel_rfl) (by kernel_rfl) rfl (fun _ _ _ h => h) (wanted_none rfl) HS (fun w hS => (ro_move (.inl rfl) (ev_eq (by decide))) w) ?_
          refine held_pure 3 (some 54) (v := Value.int .i64 x.f2) rfl (by kernel_rfl) (by kernel_rfl) (by kernel_rfl) rfl (fun _ _ _ h => h) (wanted_of rfl rfl rfl (ev_eq (by decide))) HS (fun w hS => (ro_move (.inl rfl) (ev_ne (by decide) (ev_ne (by decide) (ev_ne (by decide) s7)))) w) ?_
          refine held_pure 4 (some 55) (v := Value.pointer (some ⟨wr.heap.size, 2, none⟩)) rfl (by kernel_rfl) (by kernel_rfl) (by kernel_rfl) rfl (fun _ _ _ h => h) (wanted_of rfl rfl rfl (ev_ne (by decide) (ev_eq (by decide)))) HS (fun w hS => (ro_field rfl (ev_ne (by decide) (ev_ne (by decide) (ev_ne (by decide) (ev_ne (by decide) s6)))) (fun w => fa32 (B := wr.heap.size) (o := 0) (j := 2) (by decide) w)) w) ?_
          refine held_pure 5 (some 56) (v := Value.int .i64 x.f2) rfl (by kernel_rfl) (by kernel_rfl) (by kernel_rfl) rfl (fun _ _ _ h => h) (wanted_of rfl rfl rfl (ev_ne (by decide) (ev_ne (by decide) (ev_eq (by decide))))) HS (fun w hS => (fun w => ro_load rfl (ev_eq (by decide)) (loadN hS.c2)) w) ?_
          refine held_pure 6 (some 57) (v := Value.bool false) rfl (by kernel_rfl) (by kernel_rfl) (by kernel_rfl) rfl (fun _ _ _ h => h) (wanted_of rfl rfl rfl (ev_ne (by decide) (ev_ne (by decide) (ev_ne (by decide) (ev_eq (by decide)))))) HS (fun w hS => (ro_bin rfl (ev_ne (by decide) (ev_ne (by decide) (ev_eq (by decide)))) (ev_eq (by decide)) (fun w => by go_simp)) w) ?_
          refine held_pure 7 (some 58) (v := Value.bool false) rfl (by kernel_rfl) (by kernel_rfl) (by kernel_rfl) rfl (fun _ _ _ h => h) (wanted_none rfl) HS (fun w hS => (ro_pickf rfl (ev_ne (by decide) (ev_ne (by decide) (ev_ne (by decide) (ev_ne (by decide) (ev_eq (by decide)))))) (ev_eq (by decide))) w) ?_
          refine held_pure 8 (some 59) (v := Value.bool false) rfl (by kernel_rfl) (by kernel_rfl) (by kernel_rfl) rfl (fun _ _ _ h => h) (wanted_none rfl) HS (fun w hS => (ro_move (.inl rfl) (ev_eq (by decide))) w) ?_
          refine held_pure 9 (some 60) (v := Value.bool true) rfl (by kernel_rfl) (by kernel_rfl) (by kernel_rfl) rfl (fun _ _ _ h => h) (wanted_of rfl rfl rfl (ev_eq (by decide))) HS (fun w hS => (ro_move (.inl rfl) (ev_ne (by decide) (ev_ne (by decide) (ev_ne (by decide) (ev_ne (by decide) (ev_ne (by decide) (ev_ne (by decide) (ev_ne (by decide) (ev_ne (by decide) (ev_ne (by decide) s11)))))))))) w) ?_
          refine held_pure 10 (some 61) (v := Value.bool false) rfl (by kernel_rfl) (by kernel_rfl) (by kernel_rfl) rfl (fun _ _ _ h => h) (wanted_of rfl rfl rfl (ev_ne (by decide) (ev_eq (by decide)))) HS (fun w hS => ((ro_unOp rfl (ev_eq (by decide)) (fun w => by go_simp))) w) ?_
          refine held_pure 11 (some 62) (v := Value.bool false) rfl (by kernel_rfl) (by kernel_rfl) (by kernel_rfl) rfl (fun _ _ _ h => h) (wanted_none rfl) HS (fun w hS => (ro_pickf rfl (ev_ne (by decide) (ev_ne (by decide) (ev_eq (by decide)))) (ev_eq (by decide))) w) ?_
          refine held_pure 12 (some 63) (v := Value.bool false) rfl (by kernel_rfl) (by kernel_rfl) (by kernel_rfl) rfl (fun _ _ _ h => h) (wanted_none rfl) HS (fun w hS => (ro_move (.inl rfl) (ev_eq (by decide))) w) ?_
          refine held_pure 13 (some 64) (v := Value.int .i64 (m : Int)) rfl (by kernel_rfl) (by kernel_rfl) (by kernel_rfl) rfl (fun _ _ _ h => h) (wanted_of rfl rfl rfl (ev_eq (by decide))) HS (fun w hS => (ro_move (.inl rfl) (ev_ne (by decide) (ev_ne (by decide) (ev_ne (by decide) (ev_ne (by decide) (ev_ne (by decide) (ev_ne (by decide) (ev_ne (by decide) (ev_ne (by decide) (ev_ne (by decide) (ev_ne (by decide) (ev_ne (by decide) (ev_ne (by decide) (ev_ne (by decide) s9)))))))))))))) w) ?_
          refine held_pure 14 (some 65) (v := Value.pointer (some ⟨wr.heap.size, 1, none⟩)) rfl (by kernel_rfl) (by kernel_rfl) (by kernel_rfl) rfl (fun _ _ _ h => h) (wanted_of rfl rfl rfl (ev_ne (by decide) (ev_eq (by decide)))) HS (fun w hS => (ro_field rfl (ev_ne (by decide) (ev_ne (by decide) (ev_ne (by decide) (ev_ne (by decide) (ev_ne (by decide) (ev_ne (by decide) (ev_ne (by decide) (ev_ne (by decide) (ev_ne (by decide) (ev_ne (by decide) (ev_ne (by decide) (ev_ne (by decide) (ev_ne (by decide) (ev_ne (by decide) s6)))))))))))))) (fun w => fa32 (B := wr.heap.size) (o := 0) (j := 1) (by decide) w)) w) ?_
          refine held_pure 15 (some 66) (v := Value.int .i64 x.f1) rfl (by kernel_rfl) (by kernel_rfl) (by kernel_rfl) rfl (fun _ _ _ h => h) (wanted_of rfl rfl rfl (ev_ne (by decide) (ev_ne (by decide) (ev_eq (by decide))))) HS (fun w hS => (fun w => ro_load rfl (ev_eq (by decide)) (loadN hS.c1)) w) ?_
          refine held_pure 16 (some 67) (v := Value.bool false) rfl (by kernel_rfl) (by kernel_rfl) (by kernel_rfl) rfl (fun _ _ _ h => h) (wanted_of rfl rfl rfl (ev_ne (by decide) (ev_ne (by decide) (ev_ne (by decide) (ev_eq (by decide)))))) HS (fun w hS => (ro_bin rfl (ev_ne (by decide) (ev_ne (by decide) (ev_eq (by decide)))) (ev_eq (by decide)) (fun w => by have e0 := HE1.out; go_simp)) w) ?_
          refine held_pure 17 (some 68) (v := Value.bool false) rfl (by kernel_rfl) (by kernel_rfl) (by kernel_rfl) rfl (fun _ _ _ h => h) (wanted_none rfl) HS (fun w hS => (ro_pickf rfl (ev_ne (by decide) (ev_ne (by decide) (ev_ne (by decide) (ev_ne (by decide) (ev_eq (by decide)))))) (ev_eq (by decide))) w) ?_
          refine held_pure 18 (some 69) (v := Value.bool false) rfl (by kernel_rfl) (by kernel_rfl) (by kernel_rfl) rfl (fun _ _ _ h => h) (wanted_none rfl) HS (fun w hS => (ro_move (.inl rfl) (ev_eq (by decide))) w) ?_
          refine held_pure 19 (some 70) (v := Value.int .i64 (m : Int)) rfl (by kernel_rfl) (by kernel_rfl) (by kernel_rfl) rfl (fun _ _ _ h => h) (wanted_of rfl rfl rfl (ev_eq (by decide))) HS (fun w hS => (ro_move (.inl rfl) (ev_ne (by decide) (ev_ne (by decide) (ev_ne (by decide) (ev_ne (by decide) (ev_ne (by decide) (ev_ne (by decide) (ev_ne (by decide) (ev_ne (by decide) (ev_ne (by decide) (ev_ne (by decide) (ev_ne (by decide) (ev_ne (by decide) (ev_ne (by decide) (ev_ne (by decide) (ev_ne (by decide) (ev_ne (by decide) (ev_ne (by decide) (ev_ne (by decide) (ev_ne (by decide) s9)))))))))))))))))))) w) ?_
          refine held_pure 20 (some 71) (v := Value.pointer (some ⟨wr.heap.size, 1, none⟩)) rfl (by kernel_rfl) (by kernel_rfl) (by kernel_rfl) rfl (fun _ _ _ h => h) (wanted_of rfl rfl rfl (ev_ne (by decide) (ev_eq (by decide)))) HS (fun w hS => (ro_field rfl (ev_ne (by decide) (ev_ne (by decide) (ev_ne (by decide) (ev_ne (by decide) (ev_ne (by decide) (ev_ne (by decide) (ev_ne (by decide) (ev_ne (by decide) (ev_ne (by decide) (ev_ne (by decide) (ev_ne (by decide) (ev_ne (by decide) (ev_ne (by decide) (ev_ne (by decide) (ev_ne (by decide) (ev_ne (by decide) (ev_ne (by decide) (ev_ne (by decide) (ev_ne (by decide) (ev_ne (by decide) s6)))))))))))))))))))) (fun w => fa32 (B := wr.heap.size) (o := 0) (j := 1) (by decide) w)) w) ?_
          refine held_pure 21 (some 72) (v := Value.int .i64 x.f1) rfl (by kernel_rfl) (by kernel_rfl) (by kernel_rfl) rfl (fun _ _ _ h => h) (wanted_of rfl rfl rfl (ev_ne (by decide) (ev_ne (by decide) (ev_eq (by decide))))) HS (fun w hS => (fun w => ro_load rfl (ev_eq (by decide)) (loadN hS.c1)) w) ?_
          refine held_pure 22 (some 73) (v := Value.bool false) rfl (by kernel_rfl) (by kernel_rfl) (by kernel_rfl) rfl (fun _ _ _ h => h) (wanted_of rfl rfl rfl (ev_ne (by decide) (ev_ne (by decide) (ev_ne (by decide) (ev_eq (by decide)))))) HS (fun w hS => (ro_bin rfl (ev_ne (by decide) (ev_ne (by decide) (ev_eq (by decide)))) (ev_eq (by decide)) (fun w => by have e0 := HE2.out; go_simp)) w) ?_
          refine held_pure 23 (some 74) (v := Value.bool false) rfl (by kernel_rfl) (by kernel_rfl) (by kernel_rfl) rfl (fun _ _ _ h => h) (wanted_of rfl rfl rfl (ev_ne (by decide) (ev_ne (by decide) (ev_ne (by decide) (ev_ne (by decide) (ev_eq (by decide))))))) HS (fun w hS => (ro_move (.inl rfl) (ev_eq (by decide))) w) ?_
          refine held_skip 24 (some 75) rfl (by kernel_rfl) (by kernel_rfl) (by kernel_rfl) rfl (fun _ _ _ h => h) (unwanted_of rfl rfl rfl (ev_eq (by decide)) (by decide)) HS ?_
          refine held_skip 25 (some 76) rfl (by kernel_rfl) (by kernel_rfl) (by kernel_rfl) rfl (fun _ _ _ h => h) (unwanted_of rfl rfl rfl (ev_ne (by decide) (ev_eq (by decide))) (by decide)) HS ?_
          refine held_skip 26 (some 77) rfl (by kernel_rfl) (by kernel_rfl) (by kernel_rfl) rfl (fun _ _ _ h => h) (unwanted_of rfl rfl rfl (ev_ne (by decide) (ev_ne (by decide) (ev_eq (by decide)))) (by decide)) HS ?_
          refine held_skip 27 (some 78) rfl (by kernel_rfl) (by kernel_rfl) (by kernel_rfl) rfl (fun _ _ _ h => h) (unwanted_of rfl rfl rfl (ev_ne (by decide) (ev_ne (by decide) (ev_ne (by decide) (ev_eq (by decide))))) (by decide)) HS ?_
          refine held_pure 28 (some 79) (v := Value.bool false) rfl (by kernel_rfl) (by kernel_rfl) (by kernel_rfl) rfl (fun _ _ _ h => h) (wanted_of rfl rfl rfl (ev_ne (by decide) (ev_ne (by decide) (ev_ne (by decide) (ev_ne (by decide) (ev_ne (by decide) (ev_ne (by decide) (ev_ne (by decide) (ev_ne (by decide) (ev_ne (by decide) (ev_eq (by decide)))))))))))) HS (fun w hS => (ro_pickf rfl (ev_ne (by decide) (ev_ne (by decide) (ev_ne (by decide) (ev_ne (by decide) (ev_eq (by decide)))))) (ev_const _ _)) w) ?_
          refine held_pure 29 (some 80) (v := Value.bool false) rfl (by kernel_rfl) (by kernel_rfl) (by kernel_rfl) rfl (fun _ _ _ h => h) (wanted_none rfl) HS (fun w hS => (ro_pickf rfl (ev_ne (by decide) (ev_ne (by decide) (ev_ne (by decide) (ev_ne (by decide) (ev_ne (by decide) (ev_ne (by decide) (ev_ne (by decide) (ev_ne (by decide) (ev_ne (by decide) (ev_ne (by decide) (ev_eq (by decide)))))))))))) (ev_eq (by decide))) w) ?_
          refine held_pure 30 (some 81) (v := Value.bool false) rfl (by kernel_rfl) (by kernel_rfl) (by kernel_rfl) rfl (fun _ _ _ h => h) (wanted_none rfl) HS (fun w hS => (ro_move (.inl rfl) (ev_eq (by decide))) w) ?_
          refine held_pure 31 (some 82) (v := Value.int .i64 (m : Int)) rfl (by kernel_rfl) (by kernel_rfl) (by kernel_rfl) rfl (fun _ _ _ h => h) (wanted_of rfl rfl rfl (ev_eq (by decide))) HS (fun w hS => (ro_move (.inl rfl) (ev_ne (by decide) (ev_ne (by decide) (ev_ne (by decide) (ev_ne (by decide) (ev_ne (by decide) (ev_ne (by decide) (ev_ne (by decide) (ev_ne (by decide) (ev_ne (by decide) (ev_ne (by decide) (ev_ne (by decide) (ev_ne (by decide) (ev_ne (by decide) (ev_ne (by decide) (ev_ne (by decide) (ev_ne (by decide) (ev_ne (by decide) (ev_ne (by decide) (ev_ne (by decide) (ev_ne (by decide) (ev_ne (by decide) (ev_ne (by decide) (ev_ne (by decide) (ev_ne (by decide) (ev_ne (by decide) (ev_ne (by decide) (ev_ne (by decide) (ev_ne (by decide) (ev_ne (by decide) (ev_ne (by decide) (ev_ne (by decide) s9)))))))))))))))))))))))))))))))) w) ?_
          refine held_pure 32 (some 83) (v := Value.pointer (some ⟨wr.heap.size, 0, none⟩)) rfl (by kernel_rfl) (by kernel_rfl) (by kernel_rfl) rfl (fun _ _ _ h => h) (wanted_of rfl rfl rfl (ev_ne (by decide) (ev_eq (by decide)))) HS (fun w hS => (ro_field rfl (ev_ne (by decide) (ev_ne (by decide) (ev_ne (by decide) (ev_ne (by decide) (ev_ne (by decide) (ev_ne (by decide) (ev_ne (by decide) (ev_ne (by decide) (ev_ne (by decide) (ev_ne (by decide) (ev_ne (by decide) (ev_ne (by decide) (ev_ne (by decide) (ev_ne (by decide) (ev_ne (by decide) (ev_ne (by decide) (ev_ne (by decide) (ev_ne (by decide) (ev_ne (by decide) (ev_ne (by decide) (ev_ne (by decide) (ev_ne (by decide) (ev_ne (by decide) (ev_ne (by decide) (ev_ne (by decide) (ev_ne (by decide) (ev_ne (by decide) (ev_ne (by decide) (ev_ne (by decide) (ev_ne (by decide) (ev_ne (by decide) (ev_ne (by decide) s6)))))))))))))))))))))))))))))))) (fun w => fa32 (B := wr.heap.size) (o := 0) (j := 0) (by decide) w)) w) ?_
          refine held_pure 33 (some 84) (v := Value.string x.f0) rfl (by kernel_rfl) (by kernel_rfl) (by kernel_rfl) rfl (fun _ _ _ h => h) (wanted_of rfl rfl rfl (ev_ne (by decide) (ev_ne (by decide) (ev_eq (by decide))))) HS (fun w hS => (fun w => ro_load rfl (ev_eq (by decide)) (loadS hS.c0)) w) ?_
          refine held_pure 34 (some 85) (v := Value.int .i64 (x.f0.size : Int)) rfl (by kernel_rfl) (by kernel_rfl) (by kernel_rfl) rfl (fun _ _ _ h => h) (wanted_of rfl rfl rfl (ev_ne (by decide) (ev_ne (by decide) (ev_ne (by decide) (ev_eq (by decide)))))) HS (fun w hS => (ro_len rfl (ev_eq (by decide)) (fun w => by go_simp)) w) ?_
          refine held_pure 35 (some 86) (v := Value.int .i64 (8 * (x.f0.size : Int))) rfl (by kernel_rfl) (by kernel_rfl) (by kernel_rfl) rfl (fun _ _ _ h => h) (wanted_of rfl rfl rfl (ev_ne (by decide) (ev_ne (by decide) (ev_ne (by decide) (ev_ne (by decide) (ev_eq (by decide))))))) HS (fun w hS => (ro_bin rfl rfl (ev_eq (by decide)) (fun w => by have e := HE5.out; go_simp)) w) ?_
          refine held_pure 36 (some 87) (v := Value.bool false) rfl (by kernel_rfl) (by kernel_rfl) (by kernel_rfl) rfl (fun _ _ _ h => h) (wanted_of rfl rfl rfl (ev_ne (by decide) (ev_ne (by decide) (ev_ne (by decide) (ev_ne (by decide) (ev_ne (by decide) (ev_eq (by decide)))))))) HS (fun w hS => (ro_bin rfl (ev_ne (by decide) (ev_ne (by decide) (ev_ne (by decide) (ev_ne (by decide) (ev_eq (by decide)))))) (ev_eq (by decide)) (fun w => by have e0 := HE4.out; go_simp)) w) ?_
          refine held_pure 37 (some 88) (v := Value.bool false) rfl (by kernel_rfl) (by kernel_rfl) (by kernel_rfl) rfl (fun _ _ _ h => h) (wanted_none rfl) HS (fun w hS => (ro_pickf rfl (ev_ne (by decide) (ev_ne (by decide) (ev_ne (by decide) (ev_ne (by decide) (ev_ne (by decide) (ev_ne (by decide) (ev_eq (by decide)))))))) (ev_eq (by decide))) w) ?_
          refine held_pure 38 (some 89) (v := Value.bool false) rfl (by kernel_rfl) (by kernel_rfl) (by kernel_rfl) rfl (fun _ _ _ h => h) (wanted_none rfl) HS (fun w hS => (ro_move (.inl rfl) (ev_eq (by decide))) w) ?_
          refine held_pure 39 (some 90) (v := Value.pointer (some ⟨wr.heap.size, 0, none⟩)) rfl (by kernel_rfl) (by kernel_rfl) (by kernel_rfl) rfl (fun _ _ _ h => h) (wanted_of rfl rfl rfl (ev_eq (by decide))) HS (fun w hS => (ro_field rfl (ev_ne (by decide) (ev_ne (by decide) (ev_ne (by decide) (ev_ne (by decide) (ev_ne (by decide) (ev_ne (by decide) (ev_ne (by decide) (ev_ne (by decide) (ev_ne (by decide) (ev_ne (by decide) (ev_ne (by decide) (ev_ne (by decide) (ev_ne (by decide) (ev_ne (by decide) (ev_ne (by decide) (ev_ne (by decide) (ev_ne (by decide) (ev_ne (by decide) (ev_ne (by decide) (ev_ne (by decide) (ev_ne (by decide) (ev_ne (by decide) (ev_ne (by decide) (ev_ne (by decide) (ev_ne (by decide) (ev_ne (by decide) (ev_ne (by decide) (ev_ne (by decide) (ev_ne (by decide) (ev_ne (by decide) (ev_ne (by decide) (ev_ne (by decide) (ev_ne (by decide) (ev_ne (by decide) (ev_ne (by decide) (ev_ne (by decide) (ev_ne (by decide) (ev_ne (by decide) (ev_ne (by decide) s6))))))))))))))))))))))))))))))))))))))) (fun w => fa32 (B := wr.heap.size) (o := 0) (j := 0) (by decide) w)) w) ?_
          refine held_pure 40 (some 91) (v := Value.string x.f0) rfl (by kernel_rfl) (by kernel_rfl) (by kernel_rfl) rfl (fun _ _ _ h => h) (wanted_of rfl rfl rfl (ev_ne (by decide) (ev_eq (by decide)))) HS (fun w hS => (fun w => ro_load rfl (ev_eq (by decide)) (loadS hS.c0)) w) ?_
          refine held_pure 41 (some 92) (v := Value.pointer (some ⟨wr.heap.size, 1, none⟩)) rfl (by kernel_rfl) (by kernel_rfl) (by kernel_rfl) rfl (fun _ _ _ h => h) (wanted_of rfl rfl rfl (ev_ne (by decide) (ev_ne (by decide) (ev_eq (by decide))))) HS (fun w hS => (ro_field rfl (ev_ne (by decide) (ev_ne (by decide) (ev_ne (by decide) (ev_ne (by decide) (ev_ne (by decide) (ev_ne (by decide) (ev_ne (by decide) (ev_ne (by decide) (ev_ne (by decide) (ev_ne (by decide) (ev_ne (by decide) (ev_ne (by decide) (ev_ne (by decide) (ev_ne (by decide) (ev_ne (by decide) (ev_ne (by decide) (ev_ne (by decide) (ev_ne (by decide) (ev_ne (by decide) (ev_ne (by decide) (ev_ne (by decide) (ev_ne (by decide) (ev_ne (by decide) (ev_ne (by decide) (ev_ne (by decide) (ev_ne (by decide) (ev_ne (by decide) (ev_ne (by decide) (ev_ne (by decide) (ev_ne (by decide) (ev_ne (by decide) (ev_ne (by decide) (ev_ne (by decide) (ev_ne (by decide) (ev_ne (by decide) (ev_ne (by decide) (ev_ne (by decide) (ev_ne (by decide) (ev_ne (by decide) (ev_ne (by decide) (ev_ne (by decide) s6))))))))))))))))))))))))))))))))))))))))) (fun w => fa32 (B := wr.heap.size) (o := 0) (j := 1) (by decide) w)) w) ?_
          refine held_pure 42 (some 93) (v := Value.int .i64 x.f1) rfl (by kernel_rfl) (by kernel_rfl) (by kernel_rfl) rfl (fun _ _ _ h => h) (wanted_of rfl rfl rfl (ev_ne (by decide) (ev_ne (by decide) (ev_ne (by decide) (ev_eq (by decide)))))) HS (fun w hS => (fun w => ro_load rfl (ev_eq (by decide)) (loadN hS.c1)) w) ?_
          refine held_pure 44 (some 95) (v := Value.pointer (some ⟨wr.heap.size, 0, none⟩)) rfl (by kernel_rfl) (by kernel_rfl) (by kernel_rfl) rfl (fun _ _ _ h => h) (wanted_of rfl rfl rfl (ev_ne (by decide) (ev_ne (by decide) (ev_ne (by decide) (ev_ne (by decide) (ev_eq (by decide))))))) HS (fun w hS => (ro_field rfl (ev_ne (by decide) (ev_ne (by decide) (ev_ne (by decide) (ev_ne (by decide) (ev_ne (by decide) (ev_ne (by decide) (ev_ne (by decide) (ev_ne (by decide) (ev_ne (by decide) (ev_ne (by decide) (ev_ne (by decide) (ev_ne (by decide) (ev_ne (by decide) (ev_ne (by decide) (ev_ne (by decide) (ev_ne (by decide) (ev_ne (by decide) (ev_ne (by decide) (ev_ne (by decide) (ev_ne (by decide) (ev_ne (by decide) (ev_ne (by decide) (ev_ne (by decide) (ev_ne (by decide) (ev_ne (by decide) (ev_ne (by decide) (ev_ne (by decide) (ev_ne (by decide) (ev_ne (by decide) (ev_ne (by decide) (ev_ne (by decide) (ev_ne (by decide) (ev_ne (by decide) (ev_ne (by decide) (ev_ne (by decide) (ev_ne (by decide) (ev_ne (by decide) (ev_ne (by decide) (ev_ne (by decide) (ev_ne (by decide) (ev_ne (by decide) (ev_ne (by decide) (ev_ne (by decide) s6))))))))))))))))))))))))))))))))))))))))))) (fun w => fa32 (B := wr.heap.size) (o := 0) (j := 0) (by decide) w)) w) ?_
          refine held_pure 45 (some 96) (v := Value.string x.f0) rfl (by kernel_rfl) (by kernel_rfl) (by kernel_rfl) rfl (fun _ _ _ h => h) (wanted_of rfl rfl rfl (ev_ne (by decide) (ev_ne (by decide) (ev_ne (by decide) (ev_ne (by decide) (ev_ne (by decide) (ev_eq (by decide)))))))) HS (fun w hS => (fun w => ro_load rfl (ev_eq (by decide)) (loadS hS.c0)) w) ?_
          refine held_call 43 (some 94) 19 #[Value.string x.f0, Value.int .i64 x.f1] (by kernel_rfl) rfl rfl (wanted_of rfl rfl rfl (ev_ne (by decide) (ev_ne (by decide) (ev_ne (by decide) (ev_ne (by decide) (ev_ne (by decide) (ev_ne (by decide) (ev_eq (by decide))))))))) rfl (map2 (ev_ne (by decide) (ev_ne (by decide) (ev_ne (by decide) (ev_ne (by decide) (ev_eq (by decide)))))) (ev_ne (by decide) (ev_ne (by decide) (ev_eq (by decide))))) (fun args w => by kernel_rfl) (cut_x HIX.out _) ?_
          rintro e' u7 ⟨rfl, hb⟩
          have h := HA.out.below hb; clear HA; have HA := Aside0.mk h; clear h
          have HS2 := HS.below hb; clear HS hb; refine ⟨_, rfl, HS2, fun HS => ?_⟩; clear HS2
          refine held_pure 46 (some 97) (v := Value.bool false) rfl (by kernel_rfl) (by kernel_rfl) (by kernel_rfl) rfl (fun _ _ _ h => h) (wanted_of rfl rfl rfl (ev_ne (by decide) (ev_ne (by decide) (ev_ne (by decide) (ev_ne (by decide) (ev_ne (by decide) (ev_ne (by decide) (ev_ne (by decide) (ev_eq (by decide)))))))))) HS (fun w hS => (ro_bin rfl (ev_eq (by decide)) (ev_ne (by decide) (ev_eq (by decide))) (fun w => by go_simp)) w) ?_
          refine held_pure 47 (some 98) (v := Value.bool false) rfl (by kernel_rfl) (by kernel_rfl) (by kernel_rfl) rfl (fun _ _ _ h => h) (wanted_none rfl) HS (fun w hS => (ro_pickf rfl (ev_ne (by decide) (ev_ne (by decide) (ev_ne (by decide) (ev_ne (by decide) (ev_ne (by decide) (ev_ne (by decide) (ev_ne (by decide) (ev_ne (by decide) (ev_eq (by decide)))))))))) (ev_eq (by decide))) w) ?_
          refine held_done (by kernel_rfl) ?_
          have hA := HAA.out
          subst hA
          simp only [Act.put, List.setIfInBounds_toArray, List.set_cons_zero, List.set_cons_succ]
          clear HAA HFr s6 s7 s8 s9 s10 s11
          clear HS HVX
          by_cases h0 : i = 0
          · have hz : ((i : Int) == 0) = true := by subst h0; rfl
            have HA2 := Aside0.mk HA.out.less
            clear HA HD2
            go_wp2_with fail
            go_roundg (ys.length - 1 - i)
            case measure => have := HD.out; omega
            case rel => exact ⟨i + 1, by go_num, ⟨by have := HD.out; omega⟩, HA2⟩
          · have hz : ((i : Int) == 0) = false := beq_false_of_ne (by omega)
            obtain ⟨ip, hip⟩ : ∃ ip, i = ip + 1 := ⟨i - 1, by omega⟩
            have hiz : (i : Int) - 1 = (ip : Int) := by omega
            have hil : ip < ys.length := by omega
            obtain ⟨G', hg', d0, d1, d2⟩ := HA.out.at (r := ⟨some ⟨G, 0, none⟩, c, ys⟩) (by simp) ip hil
            obtain rfl : G = G' := by injection hg' with e; injection e
            clear hg'
            rw [yAt_eq] at d0 d1 d2
            obtain ⟨y, hy⟩ : ∃ y, y = yAt ys ip := ⟨_, rfl⟩
            rw [← hy] at d0 d1 d2
            have HNX : Aside0 (Nx y x) := ⟨by rw [hy, HX2.out, hip]; have h := next_of HT.out.2 (i := ip) (by rw [HYS.out]; omega); rw [HYS.out] at h; exact h⟩
            clear hy hip h0
            have hu := Try.underlying32
            have hi9 := HI.out
            go_wp2_with fail
            clear d0 d1 d2 hu hiz hil
            have h := (HA.out.var y).below (pw_below_drewN (Below.refl _ _) 1); clear HA; have HA := Aside0.mk h; clear h
            have HVV := Aside0.mk (And.intro (HA.out.va (p := wr.heap.size) (y := x) (by simp)) (HA.out.va (p := u7.heap.size) (y := y) (by simp)))
            cases HNX.out with
            | pre bb hlt =>
              have HBB := Aside0.mk bb
              have HK3 : Aside0 (decide (y.f1 ≥ x.f1) = false) := ⟨decide_eq_false (by omega)⟩
              clear bb hlt HNX
              cases hk : (y.f0.toList == x.f0.toList) with
              | true =>
                have HK2 := Aside0.mk hk
                clear hk
                refine wp_region_held_drew (S := fun u => VarAt u wr.heap.size x ∧ VarAt u u7.heap.size y) (by kernel_rfl) HVV.out ?_
                intro HS
                refine held_var (fun A hA => ?_)
                have s6 : A.eval (.tmp 6) = Value.pointer (some ⟨wr.heap.size, 0, none⟩) := by rw [hA]; rfl
                have s12 : A.eval (.tmp 12) = Value.pointer (some ⟨u7.heap.size, 0, none⟩) := by rw [hA]; rfl
                haveI HFr : Fr 145 A := ⟨by rw [hA]; exact Nat.le_refl _⟩
                have HAA := Aside0.mk hA
                clear hA
                refine held_pure 0 (some 106) (v := Value.agg #[Value.string y.f0, Value.int .i64 y.f1, Value.int .i64 y.f2]) rfl (by kernel_rfl) (by kernel_rfl) (by kernel_rfl) rfl (fun _ _ _ h => h) (wanted_none rfl) HS (fun w hS => (fun w => ro_load rfl s12 (load32 hS.2)) w) ?_
                refine held_pure 2 (some 108) (v := Value.pointer (some ⟨wr.heap.size, 0, none⟩)) rfl (by kernel_rfl) (by kernel_rfl) (by kernel_rfl) rfl (fun _ _ _ h => h) (wanted_none rfl) HS (fun w hS => (ro_field rfl (ev_ne (by decide) s6) (fun w => fa32 (B := wr.heap.size) (o := 0) (j := 0) (by decide) w)) w) ?_
                refine held_pure 3 (some 109) (v := Value.string x.f0) rfl (by kernel_rfl) (by kernel_rfl) (by kernel_rfl) rfl (fun _ _ _ h => h) (wanted_none rfl) HS (fun w hS => (fun w => ro_load rfl (ev_eq (by decide)) (loadS hS.1.c0)) w) ?_
                refine held_call 1 (some 107) 21 #[Value.agg #[Value.string y.f0, Value.int .i64 y.f1, Value.int .i64 y.f2]] (by kernel_rfl) rfl rfl (wanted_none rfl) rfl (map1 (ev_ne (by decide) (ev_ne (by decide) (ev_eq (by decide))))) (fun args w => by kernel_rfl) (item_c y _) ?_
                rintro e' v0 ⟨rfl, hb⟩
                have h := HA.out.below hb; clear HA; have HA := Aside0.mk h; clear h
                have HS2 := And.intro (HS.1.below hb) (HS.2.below hb); clear HS hb; refine ⟨_, rfl, HS2, fun HS => ?_⟩; clear HS2
                refine held_call 4 (some 110) 20 #[Value.agg #[Value.string y.f0, Value.int .i64 y.f1, Value.int .i64 y.f2], Value.string x.f0] (by kernel_rfl) rfl rfl (wanted_none rfl) rfl (map2 (ev_eq (by decide)) (ev_ne (by decide) (ev_eq (by decide)))) (fun args w => by kernel_rfl) (beg_c y x.f0 true HBB.out _) ?_
                rintro e' v1 ⟨rfl, hb⟩
                have h := HA.out.below hb; clear HA; have HA := Aside0.mk h; clear h
                have HS2 := And.intro (HS.1.below hb) (HS.2.below hb); clear HS hb; refine ⟨_, rfl, HS2, fun HS => ?_⟩; clear HS2
                refine held_pure 5 (some 111) (v := Value.bool false) rfl (by kernel_rfl) (by kernel_rfl) (by kernel_rfl) rfl (fun _ _ _ h => h) (wanted_none rfl) HS (fun w hS => ((ro_unOp rfl (ev_eq (by decide)) (fun w => by go_simp))) w) ?_
                refine held_pure 6 (some 112) (v := Value.bool false) rfl (by kernel_rfl) (by kernel_rfl) (by kernel_rfl) rfl (fun _ _ _ h => h) (wanted_none rfl) HS (fun w hS => (ro_move (.inl rfl) (ev_eq (by decide))) w) ?_
                refine held_skip 7 (some 113) rfl (by kernel_rfl) (by kernel_rfl) (by kernel_rfl) rfl (fun _ _ _ h => h) (unwanted_of rfl rfl rfl (ev_eq (by decide)) (by decide)) HS ?_
                refine held_skip 8 (some 114) rfl (by kernel_rfl) (by kernel_rfl) (by kernel_rfl) rfl (fun _ _ _ h => h) (unwanted_of rfl rfl rfl (ev_ne (by decide) (ev_eq (by decide))) (by decide)) HS ?_
                refine held_skip 9 (some 115) rfl (by kernel_rfl) (by kernel_rfl) (by kernel_rfl) rfl (fun _ _ _ h => h) (unwanted_of rfl rfl rfl (ev_ne (by decide) (ev_ne (by decide) (ev_eq (by decide)))) (by decide)) HS ?_
                refine held_skip 10 (some 116) rfl (by kernel_rfl) (by kernel_rfl) (by kernel_rfl) rfl (fun _ _ _ h => h) (unwanted_of rfl rfl rfl (ev_ne (by decide) (ev_ne (by decide) (ev_ne (by decide) (ev_eq (by decide))))) (by decide)) HS ?_
                refine held_skip 11 (some 117) rfl (by kernel_rfl) (by kernel_rfl) (by kernel_rfl) rfl (fun _ _ _ h => h) (unwanted_of rfl rfl rfl (ev_ne (by decide) (ev_ne (by decide) (ev_ne (by decide) (ev_ne (by decide) (ev_eq (by decide)))))) (by decide)) HS ?_
                refine held_skip 12 (some 118) rfl (by kernel_rfl) (by kernel_rfl) (by kernel_rfl) rfl (fun _ _ _ h => h) (unwanted_of rfl rfl rfl (ev_ne (by decide) (ev_ne (by decide) (ev_ne (by decide) (ev_ne (by decide) (ev_ne (by decide) (ev_eq (by decide))))))) (by decide)) HS ?_
                refine held_skip 13 (some 119) rfl (by kernel_rfl) (by kernel_rfl) (by kernel_rfl) rfl (fun _ _ _ h => h) (unwanted_undef rfl rfl rfl (ev_eq (by decide))) HS ?_
                refine held_skip 15 (some 121) rfl (by kernel_rfl) (by kernel_rfl) (by kernel_rfl) rfl (fun _ _ _ h => h) (unwanted_undef rfl rfl rfl (ev_ne (by decide) (ev_eq (by decide)))) HS ?_
                refine held_skip 16 (some 122) rfl (by kernel_rfl) (by kernel_rfl) (by kernel_rfl) rfl (fun _ _ _ h => h) (unwanted_undef rfl rfl rfl (ev_ne (by decide) (ev_ne (by decide) (ev_eq (by decide))))) HS ?_
                refine held_skip1 14 (some 120) (by kernel_rfl) rfl rfl (unwanted_undef rfl rfl rfl (ev_ne (by decide) (ev_ne (by decide) (ev_ne (by decide) (ev_eq (by decide)))))) HS ?_
                refine held_skip1 17 (some 123) (by kernel_rfl) rfl rfl (unwanted_undef rfl rfl rfl (ev_ne (by decide) (ev_ne (by decide) (ev_ne (by decide) (ev_ne (by decide) (ev_eq (by decide))))))) HS ?_
                refine held_skip 18 (some 124) rfl (by kernel_rfl) (by kernel_rfl) (by kernel_rfl) rfl (fun _ _ _ h => h) (unwanted_of rfl rfl rfl (ev_ne (by decide) (ev_ne (by decide) (ev_ne (by decide) (ev_ne (by decide) (ev_ne (by decide) (ev_ne (by decide) (ev_ne (by decide) (ev_ne (by decide) (ev_ne (by decide) (ev_ne (by decide) (ev_ne (by decide) (ev_eq (by decide))))))))))))) (by decide)) HS ?_
                refine held_pure 19 (some 125) (v := Value.bool false) rfl (by kernel_rfl) (by kernel_rfl) (by kernel_rfl) rfl (fun _ _ _ h => h) (wanted_none rfl) HS (fun w hS => (ro_pickf rfl (ev_ne (by decide) (ev_ne (by decide) (ev_ne (by decide) (ev_ne (by decide) (ev_ne (by decide) (ev_ne (by decide) (ev_ne (by decide) (ev_ne (by decide) (ev_ne (by decide) (ev_ne (by decide) (ev_ne (by decide) (ev_ne (by decide) (ev_eq (by decide)))))))))))))) (ev_const _ _)) w) ?_
                refine held_pure 20 (some 126) (v := Value.bool false) rfl (by kernel_rfl) (by kernel_rfl) (by kernel_rfl) rfl (fun _ _ _ h => h) (wanted_none rfl) HS (fun w hS => (ro_move (.inl rfl) (ev_eq (by decide))) w) ?_
                refine held_pure 21 (some 127) (v := Value.pointer (some ⟨u7.heap.size, 0, none⟩)) rfl (by kernel_rfl) (by kernel_rfl) (by kernel_rfl) rfl (fun _ _ _ h => h) (wanted_of rfl rfl rfl (ev_eq (by decide))) HS (fun w hS => (ro_field rfl (ev_ne (by decide) (ev_ne (by decide) (ev_ne (by decide) (ev_ne (by decide) (ev_ne (by decide) (ev_ne (by decide) (ev_ne (by decide) (ev_ne (by decide) (ev_ne (by decide) (ev_ne (by decide) (ev_ne (by decide) (ev_ne (by decide) (ev_ne (by decide) (ev_ne (by decide) (ev_ne (by decide) (ev_ne (by decide) (ev_ne (by decide) (ev_ne (by decide) (ev_ne (by decide) (ev_ne (by decide) (ev_ne (by decide) s12))))))))))))))))))))) (fun w => fa32 (B := u7.heap.size) (o := 0) (j := 0) (by decide) w)) w) ?_
                refine held_pure 22 (some 128) (v := Value.string y.f0) rfl (by kernel_rfl) (by kernel_rfl) (by kernel_rfl) rfl (fun _ _ _ h => h) (wanted_of rfl rfl rfl (ev_ne (by decide) (ev_eq (by decide)))) HS (fun w hS => (fun w => ro_load rfl (ev_eq (by decide)) (loadS hS.2.c0)) w) ?_
                refine held_pure 23 (some 129) (v := Value.pointer (some ⟨wr.heap.size, 0, none⟩)) rfl (by kernel_rfl) (by kernel_rfl) (by kernel_rfl) rfl (fun _ _ _ h => h) (wanted_of rfl rfl rfl (ev_ne (by decide) (ev_ne (by decide) (ev_eq (by decide))))) HS (fun w hS => (ro_field rfl (ev_ne (by decide) (ev_ne (by decide) (ev_ne (by decide) (ev_ne (by decide) (ev_ne (by decide) (ev_ne (by decide) (ev_ne (by decide) (ev_ne (by decide) (ev_ne (by decide) (ev_ne (by decide) (ev_ne (by decide) (ev_ne (by decide) (ev_ne (by decide) (ev_ne (by decide) (ev_ne (by decide) (ev_ne (by decide) (ev_ne (by decide) (ev_ne (by decide) (ev_ne (by decide) (ev_ne (by decide) (ev_ne (by decide) (ev_ne (by decide) (ev_ne (by decide) s6))))))))))))))))))))))) (fun w => fa32 (B := wr.heap.size) (o := 0) (j := 0) (by decide) w)) w) ?_
                refine held_pure 24 (some 130) (v := Value.string x.f0) rfl (by kernel_rfl) (by kernel_rfl) (by kernel_rfl) rfl (fun _ _ _ h => h) (wanted_of rfl rfl rfl (ev_ne (by decide) (ev_ne (by decide) (ev_ne (by decide) (ev_eq (by decide)))))) HS (fun w hS => (fun w => ro_load rfl (ev_eq (by decide)) (loadS hS.1.c0)) w) ?_
                refine held_pure 25 (some 131) (v := Value.bool true) rfl (by kernel_rfl) (by kernel_rfl) (by kernel_rfl) rfl (fun _ _ _ h => h) (wanted_of rfl rfl rfl (ev_ne (by decide) (ev_ne (by decide) (ev_ne (by decide) (ev_ne (by decide) (ev_eq (by decide))))))) HS (fun w hS => (ro_bin rfl (ev_ne (by decide) (ev_ne (by decide) (ev_eq (by decide)))) (ev_eq (by decide)) (fun w => by have e0 := HK2.out; go_simp)) w) ?_
                refine held_pure 26 (some 132) (v := Value.bool true) rfl (by kernel_rfl) (by kernel_rfl) (by kernel_rfl) rfl (fun _ _ _ h => h) (wanted_of rfl rfl rfl (ev_ne (by decide) (ev_ne (by decide) (ev_ne (by decide) (ev_ne (by decide) (ev_ne (by decide) (ev_eq (by decide)))))))) HS (fun w hS => (ro_move (.inl rfl) (ev_eq (by decide))) w) ?_
                refine held_pure 27 (some 133) (v := Value.pointer (some ⟨u7.heap.size, 1, none⟩)) rfl (by kernel_rfl) (by kernel_rfl) (by kernel_rfl) rfl (fun _ _ _ h => h) (wanted_of rfl rfl rfl (ev_eq (by decide))) HS (fun w hS => (ro_field rfl (ev_ne (by decide) (ev_ne (by decide) (ev_ne (by decide) (ev_ne (by decide) (ev_ne (by decide) (ev_ne (by decide) (ev_ne (by decide) (ev_ne (by decide) (ev_ne (by decide) (ev_ne (by decide) (ev_ne (by decide) (ev_ne (by decide) (ev_ne (by decide) (ev_ne (by decide) (ev_ne (by decide) (ev_ne (by decide) (ev_ne (by decide) (ev_ne (by decide) (ev_ne (by decide) (ev_ne (by decide) (ev_ne (by decide) (ev_ne (by decide) (ev_ne (by decide) (ev_ne (by decide) (ev_ne (by decide) (ev_ne (by decide) (ev_ne (by decide) s12))))))))))))))))))))))))))) (fun w => fa32 (B := u7.heap.size) (o := 0) (j := 1) (by decide) w)) w) ?_
                refine held_pure 28 (some 134) (v := Value.int .i64 y.f1) rfl (by kernel_rfl) (by kernel_rfl) (by kernel_rfl) rfl (fun _ _ _ h => h) (wanted_of rfl rfl rfl (ev_ne (by decide) (ev_eq (by decide)))) HS (fun w hS => (fun w => ro_load rfl (ev_eq (by decide)) (loadN hS.2.c1)) w) ?_
                refine held_pure 29 (some 135) (v := Value.pointer (some ⟨wr.heap.size, 1, none⟩)) rfl (by kernel_rfl) (by kernel_rfl) (by kernel_rfl) rfl (fun _ _ _ h => h) (wanted_of rfl rfl rfl (ev_ne (by decide) (ev_ne (by decide) (ev_eq (by decide))))) HS (fun w hS => (ro_field rfl (ev_ne (by decide) (ev_ne (by decide) (ev_ne (by decide) (ev_ne (by decide) (ev_ne (by decide) (ev_ne (by decide) (ev_ne (by decide) (ev_ne (by decide) (ev_ne (by decide) (ev_ne (by decide) (ev_ne (by decide) (ev_ne (by decide) (ev_ne (by decide) (ev_ne (by decide) (ev_ne (by decide) (ev_ne (by decide) (ev_ne (by decide) (ev_ne (by decide) (ev_ne (by decide) (ev_ne (by decide) (ev_ne (by decide) (ev_ne (by decide) (ev_ne (by decide) (ev_ne (by decide) (ev_ne (by decide) (ev_ne (by decide) (ev_ne (by decide) (ev_ne (by decide) (ev_ne (by decide) s6))))))))))))))))))))))))))))) (fun w => fa32 (B := wr.heap.size) (o := 0) (j := 1) (by decide) w)) w) ?_
                refine held_pure 30 (some 136) (v := Value.int .i64 x.f1) rfl (by kernel_rfl) (by kernel_rfl) (by kernel_rfl) rfl (fun _ _ _ h => h) (wanted_of rfl rfl rfl (ev_ne (by decide) (ev_ne (by decide) (ev_ne (by decide) (ev_eq (by decide)))))) HS (fun w hS => (fun w => ro_load rfl (ev_eq (by decide)) (loadN hS.1.c1)) w) ?_
                refine held_pure 31 (some 137) (v := Value.bool false) rfl (by kernel_rfl) (by kernel_rfl) (by kernel_rfl) rfl (fun _ _ _ h => h) (wanted_of rfl rfl rfl (ev_ne (by decide) (ev_ne (by decide) (ev_ne (by decide) (ev_ne (by decide) (ev_eq (by decide))))))) HS (fun w hS => (ro_bin rfl (ev_ne (by decide) (ev_ne (by decide) (ev_eq (by decide)))) (ev_eq (by decide)) (fun w => by have e0 := HK3.out; go_simp)) w) ?_
                refine held_pure 32 (some 138) (v := Value.bool false) rfl (by kernel_rfl) (by kernel_rfl) (by kernel_rfl) rfl (fun _ _ _ h => h) (wanted_of rfl rfl rfl (ev_ne (by decide) (ev_ne (by decide) (ev_ne (by decide) (ev_ne (by decide) (ev_ne (by decide) (ev_ne (by decide) (ev_ne (by decide) (ev_ne (by decide) (ev_ne (by decide) (ev_ne (by decide) (ev_ne (by decide) (ev_eq (by decide)))))))))))))) HS (fun w hS => (ro_pickt rfl (ev_ne (by decide) (ev_ne (by decide) (ev_ne (by decide) (ev_ne (by decide) (ev_ne (by decide) (ev_eq (by decide))))))) (ev_eq (by decide))) w) ?_
                refine held_pure 33 (some 139) (v := Value.bool false) rfl (by kernel_rfl) (by kernel_rfl) (by kernel_rfl) rfl (fun _ _ _ h => h) (wanted_none rfl) HS (fun w hS => (ro_pickf rfl (ev_ne (by decide) (ev_ne (by decide) (ev_ne (by decide) (ev_ne (by decide) (ev_ne (by decide) (ev_ne (by decide) (ev_ne (by decide) (ev_ne (by decide) (ev_ne (by decide) (ev_ne (by decide) (ev_ne (by decide) (ev_ne (by decide) (ev_eq (by decide)))))))))))))) (ev_eq (by decide))) w) ?_
                refine held_done (by kernel_rfl) ?_
                have hA := HAA.out
                subst hA
                simp only [Act.put, List.setIfInBounds_toArray, List.set_cons_zero, List.set_cons_succ]
                clear HAA HFr s6 s12
                clear HS HVV
                go_wp2_with fail
                go_roundg (ys.length - 1 - i)
                case measure => have := HD.out; omega
                case rel => exact ⟨i + 1, by go_num, ⟨by have := HD.out; omega⟩, ⟨HA.out.less.less⟩⟩
              | false =>
                have HK2 := Aside0.mk hk
                clear hk
                refine wp_region_held_drew (S := fun u => VarAt u wr.heap.size x ∧ VarAt u u7.heap.size y) (by kernel_rfl) HVV.out ?_
                intro HS
                refine held_var (fun A hA => ?_)
                have s6 : A.eval (.tmp 6) = Value.pointer (some ⟨wr.heap.size, 0, none⟩) := by rw [hA]; rfl
                have s12 : A.eval (.tmp 12) = Value.pointer (some ⟨u7.heap.size, 0, none⟩) := by rw [hA]; rfl
                haveI HFr : Fr 145 A := ⟨by rw [hA]; exact Nat.le_refl _⟩
                have HAA := Aside0.mk hA
                clear hA
                refine held_pure 0 (some 106) (v := Value.agg #[Value.string y.f0, Value.int .i64 y.f1, Value.int .i64 y.f2]) rfl (by kernel_rfl) (by kernel_rfl) (by kernel_rfl) rfl (fun _ _ _ h => h) (wanted_none rfl) HS (fun w hS => (fun w => ro_load rfl s12 (load32 hS.2)) w) ?_
                refine held_pure 2 (some 108) (v := Value.pointer (some ⟨wr.heap.size, 0, none⟩)) rfl (by kernel_rfl) (by kernel_rfl) (by kernel_rfl) rfl (fun _ _ _ h => h) (wanted_none rfl) HS (fun w hS => (ro_field rfl (ev_ne (by decide) s6) (fun w => fa32 (B := wr.heap.size) (o := 0) (j := 0) (by decide) w)) w) ?_
                refine held_pure 3 (some 109) (v := Value.string x.f0) rfl (by kernel_rfl) (by kernel_rfl) (by kernel_rfl) rfl (fun _ _ _ h => h) (wanted_none rfl) HS (fun w hS => (fun w => ro_load rfl (ev_eq (by decide)) (loadS hS.1.c0)) w) ?_
                refine held_call 1 (some 107) 21 #[Value.agg #[Value.string y.f0, Value.int .i64 y.f1, Value.int .i64 y.f2]] (by kernel_rfl) rfl rfl (wanted_none rfl) rfl (map1 (ev_ne (by decide) (ev_ne (by decide) (ev_eq (by decide))))) (fun args w => by kernel_rfl) (item_c y _) ?_
                rintro e' v0 ⟨rfl, hb⟩
                have h := HA.out.below hb; clear HA; have HA := Aside0.mk h; clear h
                have HS2 := And.intro (HS.1.below hb) (HS.2.below hb); clear HS hb; refine ⟨_, rfl, HS2, fun HS => ?_⟩; clear HS2
                refine held_call 4 (some 110) 20 #[Value.agg #[Value.string y.f0, Value.int .i64 y.f1, Value.int .i64 y.f2], Value.string x.f0] (by kernel_rfl) rfl rfl (wanted_none rfl) rfl (map2 (ev_eq (by decide)) (ev_ne (by decide) (ev_eq (by decide)))) (fun args w => by kernel_rfl) (beg_c y x.f0 true HBB.out _) ?_
                rintro e' v1 ⟨rfl, hb⟩
                have h := HA.out.below hb; clear HA; have HA := Aside0.mk h; clear h
                have HS2 := And.intro (HS.1.below hb) (HS.2.below hb); clear HS hb; refine ⟨_, rfl, HS2, fun HS => ?_⟩; clear HS2
                refine held_pure 5 (some 111) (v := Value.bool false) rfl (by kernel_rfl) (by kernel_rfl) (by kernel_rfl) rfl (fun _ _ _ h => h) (wanted_none rfl) HS (fun w hS => ((ro_unOp rfl (ev_eq (by decide)) (fun w => by go_simp))) w) ?_
                refine held_pure 6 (some 112) (v := Value.bool false) rfl (by kernel_rfl) (by kernel_rfl) (by kernel_rfl) rfl (fun _ _ _ h => h) (wanted_none rfl) HS (fun w hS => (ro_move (.inl rfl) (ev_eq (by decide))) w) ?_
                refine held_skip 7 (some 113) rfl (by kernel_rfl) (by kernel_rfl) (by kernel_rfl) rfl (fun _ _ _ h => h) (unwanted_of rfl rfl rfl (ev_eq (by decide)) (by decide)) HS ?_
                refine held_skip 8 (some 114) rfl (by kernel_rfl) (by kernel_rfl) (by kernel_rfl) rfl (fun _ _ _ h => h) (unwanted_of rfl rfl rfl (ev_ne (by decide) (ev_eq (by decide))) (by decide)) HS ?_
                refine held_skip 9 (some 115) rfl (by kernel_rfl) (by kernel_rfl) (by kernel_rfl) rfl (fun _ _ _ h => h) (unwanted_of rfl rfl rfl (ev_ne (by decide) (ev_ne (by decide) (ev_eq (by decide)))) (by decide)) HS ?_
                refine held_skip 10 (some 116) rfl (by kernel_rfl) (by kernel_rfl) (by kernel_rfl) rfl (fun _ _ _ h => h) (unwanted_of rfl rfl rfl (ev_ne (by decide) (ev_ne (by decide) (ev_ne (by decide) (ev_eq (by decide))))) (by decide)) HS ?_
                refine held_skip 11 (some 117) rfl (by kernel_rfl) (by kernel_rfl) (by kernel_rfl) rfl (fun _ _ _ h => h) (unwanted_of rfl rfl rfl (ev_ne (by decide) (ev_ne (by decide) (ev_ne (by decide) (ev_ne (by decide) (ev_eq (by decide)))))) (by decide)) HS ?_
                refine held_skip 12 (some 118) rfl (by kernel_rfl) (by kernel_rfl) (by kernel_rfl) rfl (fun _ _ _ h => h) (unwanted_of rfl rfl rfl (ev_ne (by decide) (ev_ne (by decide) (ev_ne (by decide) (ev_ne (by decide) (ev_ne (by decide) (ev_eq (by decide))))))) (by decide)) HS ?_
                refine held_skip 13 (some 119) rfl (by kernel_rfl) (by kernel_rfl) (by kernel_rfl) rfl (fun _ _ _ h => h) (unwanted_undef rfl rfl rfl (ev_eq (by decide))) HS ?_
                refine held_skip 15 (some 121) rfl (by kernel_rfl) (by kernel_rfl) (by kernel_rfl) rfl (fun _ _ _ h => h) (unwanted_undef rfl rfl rfl (ev_ne (by decide) (ev_eq (by decide)))) HS ?_
                refine held_skip 16 (some 122) rfl (by kernel_rfl) (by kernel_rfl) (by kernel_rfl) rfl (fun _ _ _ h => h) (unwanted_undef rfl rfl rfl (ev_ne (by decide) (ev_ne (by decide) (ev_eq (by decide))))) HS ?_
                refine held_skip1 14 (some 120) (by kernel_rfl) rfl rfl (unwanted_undef rfl rfl rfl (ev_ne (by decide) (ev_ne (by decide) (ev_ne (by decide) (ev_eq (by decide)))))) HS ?_
                refine held_skip1 17 (some 123) (by kernel_rfl) rfl rfl (unwanted_undef rfl rfl rfl (ev_ne (by decide) (ev_ne (by decide) (ev_ne (by decide) (ev_ne (by decide) (ev_eq (by decide))))))) HS ?_
                refine held_skip 18 (some 124) rfl (by kernel_rfl) (by kernel_rfl) (by kernel_rfl) rfl (fun _ _ _ h => h) (unwanted_of rfl rfl rfl (ev_ne (by decide) (ev_ne (by decide) (ev_ne (by decide) (ev_ne (by decide) (ev_ne (by decide) (ev_ne (by decide) (ev_ne (by decide) (ev_ne (by decide) (ev_ne (by decide) (ev_ne (by decide) (ev_ne (by decide) (ev_eq (by decide))))))))))))) (by decide)) HS ?_
                refine held_pure 19 (some 125) (v := Value.bool false) rfl (by kernel_rfl) (by kernel_rfl) (by kernel_rfl) rfl (fun _ _ _ h => h) (wanted_none rfl) HS (fun w hS => (ro_pickf rfl (ev_ne (by decide) (ev_ne (by decide) (ev_ne (by decide) (ev_ne (by decide) (ev_ne (by decide) (ev_ne (by decide) (ev_ne (by decide) (ev_ne (by decide) (ev_ne (by decide) (ev_ne (by decide) (ev_ne (by decide) (ev_ne (by decide) (ev_eq (by decide)))))))))))))) (ev_const _ _)) w) ?_
                refine held_pure 20 (some 126) (v := Value.bool false) rfl (by kernel_rfl) (by kernel_rfl) (by kernel_rfl) rfl (fun _ _ _ h => h) (wanted_none rfl) HS (fun w hS => (ro_move (.inl rfl) (ev_eq (by decide))) w) ?_
                refine held_pure 21 (some 127) (v := Value.pointer (some ⟨u7.heap.size, 0, none⟩)) rfl (by kernel_rfl) (by kernel_rfl) (by kernel_rfl) rfl (fun _ _ _ h => h) (wanted_of rfl rfl rfl (ev_eq (by decide))) HS (fun w hS => (ro_field rfl (ev_ne (by decide) (ev_ne (by decide) (ev_ne (by decide) (ev_ne (by decide) (ev_ne (by decide) (ev_ne (by decide) (ev_ne (by decide) (ev_ne (by decide) (ev_ne (by decide) (ev_ne (by decide) (ev_ne (by decide) (ev_ne (by decide) (ev_ne (by decide) (ev_ne (by decide) (ev_ne (by decide) (ev_ne (by decide) (ev_ne (by decide) (ev_ne (by decide) (ev_ne (by decide) (ev_ne (by decide) (ev_ne (by decide) s12))))))))))))))))))))) (fun w => fa32 (B := u7.heap.size) (o := 0) (j := 0) (by decide) w)) w) ?_
                refine held_pure 22 (some 128) (v := Value.string y.f0) rfl (by kernel_rfl) (by kernel_rfl) (by kernel_rfl) rfl (fun _ _ _ h => h) (wanted_of rfl rfl rfl (ev_ne (by decide) (ev_eq (by decide)))) HS (fun w hS => (fun w => ro_load rfl (ev_eq (by decide)) (loadS hS.2.c0)) w) ?_
                refine held_pure 23 (some 129) (v := Value.pointer (some ⟨wr.heap.size, 0, none⟩)) rfl (by kernel_rfl) (by kernel_rfl) (by kernel_rfl) rfl (fun _ _ _ h => h) (wanted_of rfl rfl rfl (ev_ne (by decide) (ev_ne (by decide) (ev_eq (by decide))))) HS (fun w hS => (ro_field rfl (ev_ne (by decide) (ev_ne (by decide) (ev_ne (by decide) (ev_ne (by decide) (ev_ne (by decide) (ev_ne (by decide) (ev_ne (by decide) (ev_ne (by decide) (ev_ne (by decide) (ev_ne (by decide) (ev_ne (by decide) (ev_ne (by decide) (ev_ne (by decide) (ev_ne (by decide) (ev_ne (by decide) (ev_ne (by decide) (ev_ne (by decide) (ev_ne (by decide) (ev_ne (by decide) (ev_ne (by decide) (ev_ne (by decide) (ev_ne (by decide) (ev_ne (by decide) s6))))))))))))))))))))))) (fun w => fa32 (B := wr.heap.size) (o := 0) (j := 0) (by decide) w)) w) ?_
                refine held_pure 24 (some 130) (v := Value.string x.f0) rfl (by kernel_rfl) (by kernel_rfl) (by kernel_rfl) rfl (fun _ _ _ h => h) (wanted_of rfl rfl rfl (ev_ne (by decide) (ev_ne (by decide) (ev_ne (by decide) (ev_eq (by decide)))))) HS (fun w hS => (fun w => ro_load rfl (ev_eq (by decide)) (loadS hS.1.c0)) w) ?_
                refine held_pure 25 (some 131) (v := Value.bool false) rfl (by kernel_rfl) (by kernel_rfl) (by kernel_rfl) rfl (fun _ _ _ h => h) (wanted_of rfl rfl rfl (ev_ne (by decide) (ev_ne (by decide) (ev_ne (by decide) (ev_ne (by decide) (ev_eq (by decide))))))) HS (fun w hS => (ro_bin rfl (ev_ne (by decide) (ev_ne (by decide) (ev_eq (by decide)))) (ev_eq (by decide)) (fun w => by have e0 := HK2.out; go_simp)) w) ?_
                refine held_pure 26 (some 132) (v := Value.bool false) rfl (by kernel_rfl) (by kernel_rfl) (by kernel_rfl) rfl (fun _ _ _ h => h) (wanted_of rfl rfl rfl (ev_ne (by decide) (ev_ne (by decide) (ev_ne (by decide) (ev_ne (by decide) (ev_ne (by decide) (ev_eq (by decide)))))))) HS (fun w hS => (ro_move (.inl rfl) (ev_eq (by decide))) w) ?_
                refine held_skip 27 (some 133) rfl (by kernel_rfl) (by kernel_rfl) (by kernel_rfl) rfl (fun _ _ _ h => h) (unwanted_of rfl rfl rfl (ev_eq (by decide)) (by decide)) HS ?_
                refine held_skip 28 (some 134) rfl (by kernel_rfl) (by kernel_rfl) (by kernel_rfl) rfl (fun _ _ _ h => h) (unwanted_of rfl rfl rfl (ev_ne (by decide) (ev_eq (by decide))) (by decide)) HS ?_
                refine held_skip 29 (some 135) rfl (by kernel_rfl) (by kernel_rfl) (by kernel_rfl) rfl (fun _ _ _ h => h) (unwanted_of rfl rfl rfl (ev_ne (by decide) (ev_ne (by decide) (ev_eq (by decide)))) (by decide)) HS ?_
                refine held_skip 30 (some 136) rfl (by kernel_rfl) (by kernel_rfl) (by kernel_rfl) rfl (fun _ _ _ h => h) (unwanted_of rfl rfl rfl (ev_ne (by decide) (ev_ne (by decide) (ev_ne (by decide) (ev_eq (by decide))))) (by decide)) HS ?_
                refine held_skip 31 (some 137) rfl (by kernel_rfl) (by kernel_rfl) (by kernel_rfl) rfl (fun _ _ _ h => h) (unwanted_of rfl rfl rfl (ev_ne (by decide) (ev_ne (by decide) (ev_ne (by decide) (ev_ne (by decide) (ev_eq (by decide)))))) (by decide)) HS ?_
                refine held_pure 32 (some 138) (v := Value.bool false) rfl (by kernel_rfl) (by kernel_rfl) (by kernel_rfl) rfl (fun _ _ _ h => h) (wanted_of rfl rfl rfl (ev_ne (by decide) (ev_ne (by decide) (ev_ne (by decide) (ev_ne (by decide) (ev_ne (by decide) (ev_ne (by decide) (ev_ne (by decide) (ev_ne (by decide) (ev_ne (by decide) (ev_ne (by decide) (ev_ne (by decide) (ev_eq (by decide)))))))))))))) HS (fun w hS => (ro_pickf rfl (ev_ne (by decide) (ev_ne (by decide) (ev_ne (by decide) (ev_ne (by decide) (ev_ne (by decide) (ev_eq (by decide))))))) (ev_const _ _)) w) ?_
                refine held_pure 33 (some 139) (v := Value.bool false) rfl (by kernel_rfl) (by kernel_rfl) (by kernel_rfl) rfl (fun _ _ _ h => h) (wanted_none rfl) HS (fun w hS => (ro_pickf rfl (ev_ne (by decide) (ev_ne (by decide) (ev_ne (by decide) (ev_ne (by decide) (ev_ne (by decide) (ev_ne (by decide) (ev_ne (by decide) (ev_ne (by decide) (ev_ne (by decide) (ev_ne (by decide) (ev_ne (by decide) (ev_ne (by decide) (ev_eq (by decide)))))))))))))) (ev_eq (by decide))) w) ?_
                refine held_done (by kernel_rfl) ?_
                have hA := HAA.out
                subst hA
                simp only [Act.put, List.setIfInBounds_toArray, List.set_cons_zero, List.set_cons_succ]
                clear HAA HFr s6 s12
                clear HS HVV
                go_wp2_with fail
                go_roundg (ys.length - 1 - i)
                case measure => have := HD.out; omega
                case rel => exact ⟨i + 1, by go_num, ⟨by have := HD.out; omega⟩, ⟨HA.out.less.less⟩⟩
            | less b1 b2 h1 h2 =>
              have HBB := Aside0.mk b1
              have HB3 := Aside0.mk b2
              have HK1 := Aside0.mk h1
              have HK2 := Aside0.mk h2
              clear b1 b2 h1 h2 HNX
              refine wp_region_held_drew (S := fun u => VarAt u wr.heap.size x ∧ VarAt u u7.heap.size y) (by kernel_rfl) HVV.out ?_
              intro HS
              refine held_var (fun A hA => ?_)
              have s6 : A.eval (.tmp 6) = Value.pointer (some ⟨wr.heap.size, 0, none⟩) := by rw [hA]; rfl
              have s12 : A.eval (.tmp 12) = Value.pointer (some ⟨u7.heap.size, 0, none⟩) := by rw [hA]; rfl
              haveI HFr : Fr 145 A := ⟨by rw [hA]; exact Nat.le_refl _⟩
              have HAA := Aside0.mk hA
              clear hA
              refine held_pure 0 (some 106) (v := Value.agg #[Value.string y.f0, Value.int .i64 y.f1, Value.int .i64 y.f2]) rfl (by kernel_rfl) (by kernel_rfl) (by kernel_rfl) rfl (fun _ _ _ h => h) (wanted_none rfl) HS (fun w hS => (fun w => ro_load rfl s12 (load32 hS.2)) w) ?_
              refine held_pure 2 (some 108) (v := Value.pointer (some ⟨wr.heap.size, 0, none⟩)) rfl (by kernel_rfl) (by kernel_rfl) (by kernel_rfl) rfl (fun _ _ _ h => h) (wanted_none rfl) HS (fun w hS => (ro_field rfl (ev_ne (by decide) s6) (fun w => fa32 (B := wr.heap.size) (o := 0) (j := 0) (by decide) w)) w) ?_
              refine held_pure 3 (some 109) (v := Value.string x.f0) rfl (by kernel_rfl) (by kernel_rfl) (by kernel_rfl) rfl (fun _ _ _ h => h) (wanted_none rfl) HS (fun w hS => (fun w => ro_load rfl (ev_eq (by decide)) (loadS hS.1.c0)) w) ?_
              refine held_call 1 (some 107) 21 #[Value.agg #[Value.string y.f0, Value.int .i64 y.f1, Value.int .i64 y.f2]] (by kernel_rfl) rfl rfl (wanted_none rfl) rfl (map1 (ev_ne (by decide) (ev_ne (by decide) (ev_eq (by decide))))) (fun args w => by kernel_rfl) (item_c y _) ?_
              rintro e' v0 ⟨rfl, hb⟩
              have h := HA.out.below hb; clear HA; have HA := Aside0.mk h; clear h
              have HS2 := And.intro (HS.1.below hb) (HS.2.below hb); clear HS hb; refine ⟨_, rfl, HS2, fun HS => ?_⟩; clear HS2
              refine held_call 4 (some 110) 20 #[Value.agg #[Value.string y.f0, Value.int .i64 y.f1, Value.int .i64 y.f2], Value.string x.f0] (by kernel_rfl) rfl rfl (wanted_none rfl) rfl (map2 (ev_eq (by decide)) (ev_ne (by decide) (ev_eq (by decide)))) (fun args w => by kernel_rfl) (beg_c y x.f0 false HBB.out _) ?_
              rintro e' v1 ⟨rfl, hb⟩
              have h := HA.out.below hb; clear HA; have HA := Aside0.mk h; clear h
              have HS2 := And.intro (HS.1.below hb) (HS.2.below hb); clear HS hb; refine ⟨_, rfl, HS2, fun HS => ?_⟩; clear HS2
              refine held_pure 5 (some 111) (v := Value.bool true) rfl (by kernel_rfl) (by kernel_rfl) (by kernel_rfl) rfl (fun _ _ _ h => h) (wanted_none rfl) HS (fun w hS => ((ro_unOp rfl (ev_eq (by decide)) (fun w => by go_simp))) w) ?_
              refine held_pure 6 (some 112) (v := Value.bool true) rfl (by kernel_rfl) (by kernel_rfl) (by kernel_rfl) rfl (fun _ _ _ h => h) (wanted_none rfl) HS (fun w hS => (ro_move (.inl rfl) (ev_eq (by decide))) w) ?_
              refine held_pure 7 (some 113) (v := Value.pointer (some ⟨u7.heap.size, 0, none⟩)) rfl (by kernel_rfl) (by kernel_rfl) (by kernel_rfl) rfl (fun _ _ _ h => h) (wanted_of rfl rfl rfl (ev_eq (by decide))) HS (fun w hS => (ro_field rfl (ev_ne (by decide) (ev_ne (by decide) (ev_ne (by decide) (ev_ne (by decide) (ev_ne (by decide) (ev_ne (by decide) (ev_ne (by decide) s12))))))) (fun w => fa32 (B := u7.heap.size) (o := 0) (j := 0) (by decide) w)) w) ?_
              refine held_pure 8 (some 114) (v := Value.string y.f0) rfl (by kernel_rfl) (by kernel_rfl) (by kernel_rfl) rfl (fun _ _ _ h => h) (wanted_of rfl rfl rfl (ev_ne (by decide) (ev_eq (by decide)))) HS (fun w hS => (fun w => ro_load rfl (ev_eq (by decide)) (loadS hS.2.c0)) w) ?_
              refine held_pure 9 (some 115) (v := Value.pointer (some ⟨wr.heap.size, 0, none⟩)) rfl (by kernel_rfl) (by kernel_rfl) (by kernel_rfl) rfl (fun _ _ _ h => h) (wanted_of rfl rfl rfl (ev_ne (by decide) (ev_ne (by decide) (ev_eq (by decide))))) HS (fun w hS => (ro_field rfl (ev_ne (by decide) (ev_ne (by decide) (ev_ne (by decide) (ev_ne (by decide) (ev_ne (by decide) (ev_ne (by decide) (ev_ne (by decide) (ev_ne (by decide) (ev_ne (by decide) s6))))))))) (fun w => fa32 (B := wr.heap.size) (o := 0) (j := 0) (by decide) w)) w) ?_
              refine held_pure 10 (some 116) (v := Value.string x.f0) rfl (by kernel_rfl) (by kernel_rfl) (by kernel_rfl) rfl (fun _ _ _ h => h) (wanted_of rfl rfl rfl (ev_ne (by decide) (ev_ne (by decide) (ev_ne (by decide) (ev_eq (by decide)))))) HS (fun w hS => (fun w => ro_load rfl (ev_eq (by decide)) (loadS hS.1.c0)) w) ?_
              refine held_pure 11 (some 117) (v := Value.bool false) rfl (by kernel_rfl) (by kernel_rfl) (by kernel_rfl) rfl (fun _ _ _ h => h) (wanted_of rfl rfl rfl (ev_ne (by decide) (ev_ne (by decide) (ev_ne (by decide) (ev_ne (by decide) (ev_eq (by decide))))))) HS (fun w hS => (ro_bin rfl (ev_ne (by decide) (ev_ne (by decide) (ev_eq (by decide)))) (ev_eq (by decide)) (fun w => geq_no (t := 9) HK1.out w)) w) ?_
              refine held_pure 12 (some 118) (v := Value.bool false) rfl (by kernel_rfl) (by kernel_rfl) (by kernel_rfl) rfl (fun _ _ _ h => h) (wanted_of rfl rfl rfl (ev_ne (by decide) (ev_ne (by decide) (ev_ne (by decide) (ev_ne (by decide) (ev_ne (by decide) (ev_eq (by decide)))))))) HS (fun w hS => (ro_move (.inl rfl) (ev_eq (by decide))) w) ?_
              refine held_pure 13 (some 119) (v := Value.agg #[Value.string x.f0, Value.int .i64 x.f1, Value.int .i64 x.f2]) rfl (by kernel_rfl) (by kernel_rfl) (by kernel_rfl) rfl (fun _ _ _ h => h) (wanted_of rfl rfl rfl (ev_eq (by decide))) HS (fun w hS => (fun w => ro_load rfl (ev_ne (by decide) (ev_ne (by decide) (ev_ne (by decide) (ev_ne (by decide) (ev_ne (by decide) (ev_ne (by decide) (ev_ne (by decide) (ev_ne (by decide) (ev_ne (by decide) (ev_ne (by decide) (ev_ne (by decide) (ev_ne (by decide) (ev_ne (by decide) s6))))))))))))) (load32 hS.1)) w) ?_
              refine held_pure 15 (some 121) (v := Value.pointer (some ⟨u7.heap.size, 0, none⟩)) rfl (by kernel_rfl) (by kernel_rfl) (by kernel_rfl) rfl (fun _ _ _ h => h) (wanted_of rfl rfl rfl (ev_ne (by decide) (ev_eq (by decide)))) HS (fun w hS => (ro_field rfl (ev_ne (by decide) (ev_ne (by decide) (ev_ne (by decide) (ev_ne (by decide) (ev_ne (by decide) (ev_ne (by decide) (ev_ne (by decide) (ev_ne (by decide) (ev_ne (by decide) (ev_ne (by decide) (ev_ne (by decide) (ev_ne (by decide) (ev_ne (by decide) (ev_ne (by decide) s12)))))))))))))) (fun w => fa32 (B := u7.heap.size) (o := 0) (j := 0) (by decide) w)) w) ?_
              refine held_pure 16 (some 122) (v := Value.string y.f0) rfl (by kernel_rfl) (by kernel_rfl) (by kernel_rfl) rfl (fun _ _ _ h => h) (wanted_of rfl rfl rfl (ev_ne (by decide) (ev_ne (by decide) (ev_eq (by decide))))) HS (fun w hS => (fun w => ro_load rfl (ev_eq (by decide)) (loadS hS.2.c0)) w) ?_
              refine held_call 14 (some 120) 21 #[Value.agg #[Value.string x.f0, Value.int .i64 x.f1, Value.int .i64 x.f2]] (by kernel_rfl) rfl rfl (wanted_of rfl rfl rfl (ev_ne (by decide) (ev_ne (by decide) (ev_ne (by decide) (ev_eq (by decide)))))) rfl (map1 (ev_ne (by decide) (ev_ne (by decide) (ev_eq (by decide))))) (fun args w => by kernel_rfl) (item_c x _) ?_
              rintro e' v2 ⟨rfl, hb⟩
              have h := HA.out.below hb; clear HA; have HA := Aside0.mk h; clear h
              have HS2 := And.intro (HS.1.below hb) (HS.2.below hb); clear HS hb; refine ⟨_, rfl, HS2, fun HS => ?_⟩; clear HS2
              refine held_call 17 (some 123) 20 #[Value.agg #[Value.string x.f0, Value.int .i64 x.f1, Value.int .i64 x.f2], Value.string y.f0] (by kernel_rfl) rfl rfl (wanted_of rfl rfl rfl (ev_ne (by decide) (ev_ne (by decide) (ev_ne (by decide) (ev_ne (by decide) (ev_eq (by decide))))))) rfl (map2 (ev_eq (by decide)) (ev_ne (by decide) (ev_eq (by decide)))) (fun args w => by kernel_rfl) (beg_c x y.f0 false HB3.out _) ?_
              rintro e' v3 ⟨rfl, hb⟩
              have h := HA.out.below hb; clear HA; have HA := Aside0.mk h; clear h
              have HS2 := And.intro (HS.1.below hb) (HS.2.below hb); clear HS hb; refine ⟨_, rfl, HS2, fun HS => ?_⟩; clear HS2
              refine held_pure 18 (some 124) (v := Value.bool false) rfl (by kernel_rfl) (by kernel_rfl) (by kernel_rfl) rfl (fun _ _ _ h => h) (wanted_of rfl rfl rfl (ev_ne (by decide) (ev_ne (by decide) (ev_ne (by decide) (ev_ne (by decide) (ev_ne (by decide) (ev_ne (by decide) (ev_ne (by decide) (ev_ne (by decide) (ev_ne (by decide) (ev_ne (by decide) (ev_ne (by decide) (ev_eq (by decide)))))))))))))) HS (fun w hS => (ro_pickf rfl (ev_ne (by decide) (ev_ne (by decide) (ev_ne (by decide) (ev_ne (by decide) (ev_ne (by decide) (ev_eq (by decide))))))) (ev_eq (by decide))) w) ?_
              refine held_pure 19 (some 125) (v := Value.bool false) rfl (by kernel_rfl) (by kernel_rfl) (by kernel_rfl) rfl (fun _ _ _ h => h) (wanted_none rfl) HS (fun w hS => (ro_pickt rfl (ev_ne (by decide) (ev_ne (by decide) (ev_ne (by decide) (ev_ne (by decide) (ev_ne (by decide) (ev_ne (by decide) (ev_ne (by decide) (ev_ne (by decide) (ev_ne (by decide) (ev_ne (by decide) (ev_ne (by decide) (ev_ne (by decide) (ev_eq (by decide)))))))))))))) (ev_eq (by decide))) w) ?_
              refine held_pure 20 (some 126) (v := Value.bool false) rfl (by kernel_rfl) (by kernel_rfl) (by kernel_rfl) rfl (fun _ _ _ h => h) (wanted_none rfl) HS (fun w hS => (ro_move (.inl rfl) (ev_eq (by decide))) w) ?_
              refine held_pure 21 (some 127) (v := Value.pointer (some ⟨u7.heap.size, 0, none⟩)) rfl (by kernel_rfl) (by kernel_rfl) (by kernel_rfl) rfl (fun _ _ _ h => h) (wanted_of rfl rfl rfl (ev_eq (by decide))) HS (fun w hS => (ro_field rfl (ev_ne (by decide) (ev_ne (by decide) (ev_ne (by decide) (ev_ne (by decide) (ev_ne (by decide) (ev_ne (by decide) (ev_ne (by decide) (ev_ne (by decide) (ev_ne (by decide) (ev_ne (by decide) (ev_ne (by decide) (ev_ne (by decide) (ev_ne (by decide) (ev_ne (by decide) (ev_ne (by decide) (ev_ne (by decide) (ev_ne (by decide) (ev_ne (by decide) (ev_ne (by decide) (ev_ne (by decide) (ev_ne (by decide) s12))))))))))))))))))))) (fun w => fa32 (B := u7.heap.size) (o := 0) (j := 0) (by decide) w)) w) ?_
              refine held_pure 22 (some 128) (v := Value.string y.f0) rfl (by kernel_rfl) (by kernel_rfl) (by kernel_rfl) rfl (fun _ _ _ h => h) (wanted_of rfl rfl rfl (ev_ne (by decide) (ev_eq (by decide)))) HS (fun w hS => (fun w => ro_load rfl (ev_eq (by decide)) (loadS hS.2.c0)) w) ?_
              refine held_pure 23 (some 129) (v := Value.pointer (some ⟨wr.heap.size, 0, none⟩)) rfl (by kernel_rfl) (by kernel_rfl) (by kernel_rfl) rfl (fun _ _ _ h => h) (wanted_of rfl rfl rfl (ev_ne (by decide) (ev_ne (by decide) (ev_eq (by decide))))) HS (fun w hS => (ro_field rfl (ev_ne (by decide) (ev_ne (by decide) (ev_ne (by decide) (ev_ne (by decide) (ev_ne (by decide) (ev_ne (by decide) (ev_ne (by decide) (ev_ne (by decide) (ev_ne (by decide) (ev_ne (by decide) (ev_ne (by decide) (ev_ne (by decide) (ev_ne (by decide) (ev_ne (by decide) (ev_ne (by decide) (ev_ne (by decide) (ev_ne (by decide) (ev_ne (by decide) (ev_ne (by decide) (ev_ne (by decide) (ev_ne (by decide) (ev_ne (by decide) (ev_ne (by decide) s6))))))))))))))))))))))) (fun w => fa32 (B := wr.heap.size) (o := 0) (j := 0) (by decide) w)) w) ?_
              refine held_pure 24 (some 130) (v := Value.string x.f0) rfl (by kernel_rfl) (by kernel_rfl) (by kernel_rfl) rfl (fun _ _ _ h => h) (wanted_of rfl rfl rfl (ev_ne (by decide) (ev_ne (by decide) (ev_ne (by decide) (ev_eq (by decide)))))) HS (fun w hS => (fun w => ro_load rfl (ev_eq (by decide)) (loadS hS.1.c0)) w) ?_
              refine held_pure 25 (some 131) (v := Value.bool false) rfl (by kernel_rfl) (by kernel_rfl) (by kernel_rfl) rfl (fun _ _ _ h => h) (wanted_of rfl rfl rfl (ev_ne (by decide) (ev_ne (by decide) (ev_ne (by decide) (ev_ne (by decide) (ev_eq (by decide))))))) HS (fun w hS => (ro_bin rfl (ev_ne (by decide) (ev_ne (by decide) (ev_eq (by decide)))) (ev_eq (by decide)) (fun w => by have e0 := HK2.out; go_simp)) w) ?_
              refine held_pure 26 (some 132) (v := Value.bool false) rfl (by kernel_rfl) (by kernel_rfl) (by kernel_rfl) rfl (fun _ _ _ h => h) (wanted_of rfl rfl rfl (ev_ne (by decide) (ev_ne (by decide) (ev_ne (by decide) (ev_ne (by decide) (ev_ne (by decide) (ev_eq (by decide)))))))) HS (fun w hS => (ro_move (.inl rfl) (ev_eq (by decide))) w) ?_
              refine held_skip 27 (some 133) rfl (by kernel_rfl) (by kernel_rfl) (by kernel_rfl) rfl (fun _ _ _ h => h) (unwanted_of rfl rfl rfl (ev_eq (by decide)) (by decide)) HS ?_
              refine held_skip 28 (some 134) rfl (by kernel_rfl) (by kernel_rfl) (by kernel_rfl) rfl (fun _ _ _ h => h) (unwanted_of rfl rfl rfl (ev_ne (by decide) (ev_eq (by decide))) (by decide)) HS ?_
              refine held_skip 29 (some 135) rfl (by kernel_rfl) (by kernel_rfl) (by kernel_rfl) rfl (fun _ _ _ h => h) (unwanted_of rfl rfl rfl (ev_ne (by decide) (ev_ne (by decide) (ev_eq (by decide)))) (by decide)) HS ?_
              refine held_skip 30 (some 136) rfl (by kernel_rfl) (by kernel_rfl) (by kernel_rfl) rfl (fun _ _ _ h => h) (unwanted_of rfl rfl rfl (ev_ne (by decide) (ev_ne (by decide) (ev_ne (by decide) (ev_eq (by decide))))) (by decide)) HS ?_
              refine held_skip 31 (some 137) rfl (by kernel_rfl) (by kernel_rfl) (by kernel_rfl) rfl (fun _ _ _ h => h) (unwanted_of rfl rfl rfl (ev_ne (by decide) (ev_ne (by decide) (ev_ne (by decide) (ev_ne (by decide) (ev_eq (by decide)))))) (by decide)) HS ?_
              refine held_pure 32 (some 138) (v := Value.bool false) rfl (by kernel_rfl) (by kernel_rfl) (by kernel_rfl) rfl (fun _ _ _ h => h) (wanted_of rfl rfl rfl (ev_ne (by decide) (ev_ne (by decide) (ev_ne (by decide) (ev_ne (by decide) (ev_ne (by decide) (ev_ne (by decide) (ev_ne (by decide) (ev_ne (by decide) (ev_ne (by decide) (ev_ne (by decide) (ev_ne (by decide) (ev_eq (by decide)))))))))))))) HS (fun w hS => (ro_pickf rfl (ev_ne (by decide) (ev_ne (by decide) (ev_ne (by decide) (ev_ne (by decide) (ev_ne (by decide) (ev_eq (by decide))))))) (ev_const _ _)) w) ?_
              refine held_pure 33 (some 139) (v := Value.bool false) rfl (by kernel_rfl) (by kernel_rfl) (by kernel_rfl) rfl (fun _ _ _ h => h) (wanted_none rfl) HS (fun w hS => (ro_pickf rfl (ev_ne (by decide) (ev_ne (by decide) (ev_ne (by decide) (ev_ne (by decide) (ev_ne (by decide) (ev_ne (by decide) (ev_ne (by decide) (ev_ne (by decide) (ev_ne (by decide) (ev_ne (by decide) (ev_ne (by decide) (ev_ne (by decide) (ev_eq (by decide)))))))))))))) (ev_eq (by decide))) w) ?_
              refine held_done (by kernel_rfl) ?_
              have hA := HAA.out
              subst hA
              simp only [Act.put, List.setIfInBounds_toArray, List.set_cons_zero, List.set_cons_succ]
              clear HAA HFr s6 s12
              clear HS HVV
              go_wp2_with fail
              go_roundg (ys.length - 1 - i)
              case measure => have := HD.out; omega
              case rel => exact ⟨i + 1, by go_num, ⟨by have := HD.out; omega⟩, ⟨HA.out.less.less⟩⟩
      · have hin : ys.length = i := by have := HD.out; omega
        clear HD hi
        go_wp2_with fail
        go_at_call 18
        (with_reducible refine (len_at (x := (b, tr)) HA.out (by simp) HYL.out).mono ?_)
        rintro e' u9 ⟨rfl, h⟩
        clear HA; have HA := Aside0.mk h; clear h
        go_wp2_with fail
        go_ret
        exact ⟨rfl, HA.out.bel⟩
theorem trieRow {H : Type} {enc : TypeId × Value → H} {base fuel : Nat} {sp : Nat → Bool} {held : Bool} (a : Option Addr) (N C : Nat) (w : World) (d : DataW H × List MemPlace)
    (hN : N ≤ 140737488351232) (h : DataW.trod enc Try.prog w base sp held fuel 22 [.slice a N C] = some d) :
    Calls Try.prog 5 #[.slice a N C] w fun e' w' => e' = .returned (.bool true) ∧ Below w.heap.size w w' := by
  obtain ⟨hC, xs, rfl, hA⟩ := acts_of a N C w d h
  exact row_w a C xs w ⟨hA⟩ hC hN
end Go.Proofs.Ytpchlnbnpgaocaa.PTrie
