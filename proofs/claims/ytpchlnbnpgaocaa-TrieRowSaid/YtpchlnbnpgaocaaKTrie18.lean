/- TrieApart by hand: the walk. -/
import Derived.Test.YtpchlnbnpgaocaaKTrie16
import Derived.Test.YtpchlnbnpgaocaaKTrie17
namespace Go.Proofs.Ytpchlnbnpgaocaa.PTrie
open Go.Proofs.Ytpchlnbnpgaocaa.KTree Go.Proofs.Ytpchlnbnpgaocaa.KReg Go.Proofs.Ytpchlnbnpgaocaa.KBits Go.RowKit Go.Proofs.YtpchlnbnpgaocaaW.PrintWords Go.Proofs.YtpchlnbnpgaocaaW.PrintLast Go.Proofs.YtpchlnbnpgaocaaW.PrintMore
set_option linter.unusedVariables false
set_option linter.unusedSimpArgs false
section
variable {w0 u : World} {L : List (Nat × Tri)} {R : List Rw} {b : Nat} {t : Tri} {x : Nat × Tri}
theorem Inv.rowAt {G c i : Nat} {ys : List S32} (h : Inv w0 u L R) (hr : (⟨some ⟨G, 0, none⟩, c, ys⟩ : Rw) ∈ R) (hi : i < ys.length) : u.cell? ⟨G, i * 3, none⟩ = some (.string (yAt ys i).f0) ∧ u.cell? ⟨G, i * 3 + 1, none⟩ = some (.int .i64 (yAt ys i).f1) := by
  obtain ⟨g, hg, c0, c1, c2⟩ := h.at hr i hi
  obtain rfl : G = g := by injection hg with e; injection e
  rw [yAt_eq] at c0 c1
  exact ⟨c0, c1⟩
theorem Inv.rowA {a : Option Addr} {c i : Nat} {ys : List S32} (h : Inv w0 u L R) (hr : (⟨a, c, ys⟩ : Rw) ∈ R) (hi : i < ys.length) : ∃ G, a = some ⟨G, 0, none⟩ := by
  obtain ⟨g, hg, _⟩ := h.at hr i hi
  exact ⟨g, hg⟩
theorem del_2 (h : Inv w0 u (x :: (b, t) :: L) R) (s : ByteArray) (n : Int) (hs : s.size ≤ 140737488351232) (hc : Tri.cnt t ≤ 1000000) (hg : (tget s n t).isSome = true) :
    Calls Try.prog 17 #[.pointer (some ⟨b, 0, none⟩), .string s, .int .i64 n] u fun e u' => e = .returned (.bool true) ∧ Inv w0 u' (x :: (b, tdel s n t) :: L) R := by
  have := inv_del h.swap s n hs hc
  rw [hg] at this
  exact this.mono fun e u' hd => ⟨hd.1, hd.2.swap⟩
theorem len_at (h : Inv w0 u L R) (hx : x ∈ L) {n : Nat} (hn : Tri.cnt x.2 = n) : Calls Try.prog 18 #[.pointer (some ⟨x.1, 0, none⟩)] u fun e u' => e = .returned (.int .i64 (n : Int)) ∧ Inv w0 u' L R := by
  subst hn; exact inv_len h hx
theorem all_at (h : Inv w0 u L R) (hx : x ∈ L) {N : Nat} (hs : Sm N x.2) (hN : N ≤ 1000000) {ys : List S32} (hi : items x.2 [] = ys) :
    Calls Try.prog 12 #[.pointer (some ⟨x.1, 0, none⟩)] u fun e u' => ∃ a c, e = .returned (.slice a ys.length c) ∧ ys.length ≤ c ∧ Inv w0 u' L (⟨a, c, ys⟩ :: R) := by
  subst hi; exact inv_all h hx hs.d (hs.c hN)
end
theorem ix29 {G N C i : Nat} (hi : i < N) (w : World) : (Instr.indexAt 29 (.slice (some ⟨G, 0, none⟩) N C) (.int .i64 (i : Int)) : Sem Value).run Try.prog w = .ok (.pointer (some ⟨G, i * 3, none⟩)) w := by
  have h1 : (i : Int) < (N : Int) := by omega
  go_simp
theorem fa32 {B o j : Nat} (hj : j < 3) (w : World) : (Instr.fieldAt 32 (.pointer (some ⟨B, o, none⟩)) j : Sem Value).run Try.prog w = .ok (.pointer (some ⟨B, o + j, none⟩)) w := by
  have : j = 0 ∨ j = 1 ∨ j = 2 := by omega
  rcases this with rfl | rfl | rfl <;> go_simp
set_option maxHeartbeats 8000000 in
set_option maxRecDepth 100000 in
theorem apart_w (a a2 : Option Addr) (C C2 : Nat) (xs zs : List S49) (w : World) (HX : Aside0 (Acts w a xs)) (HX2 : Aside0 (Acts w a2 zs)) (hC : xs.length ≤ C) (hC2 : zs.length ≤ C2) (hN : xs.length ≤ 140737488351232) (hN2 : zs.length ≤ 140737488351232) :
    Calls Try.prog 6 #[.slice a xs.length C, .slice a2 zs.length C2] w fun e' w' => e' = .returned (.bool true) ∧ Below w.heap.size w w' := by
  go_enter Try.func6, Try.ntmps6
  go_wp2_with fail
  go_at_call 8
  (with_reducible refine (long_c a C xs w _ (Below.refl _ _) HX.out hC hN).mono ?_)
  rintro e' u ⟨r, rfl, hb, hr⟩
  have HB := Aside0.mk hb
  cases r with
  | true =>
    clear hb hr
    go_wp2_with fail
    go_at_call 9
    (with_reducible refine (awake_ok _).mono ?_)
    rintro e' u2 ⟨rfl, hb2⟩
    have HB2 := Aside0.mk (below_step HB.out hb2)
    clear hb2 HB
    go_wp2_with fail
    go_ret
    exact ⟨rfl, HB2.out⟩
  | false =>
    have HLN := Aside0.mk (hr rfl)
    clear hb hr
    go_wp2_with fail
    go_at_call 8
    (with_reducible refine (long_c a2 C2 zs w _ HB.out HX2.out hC2 hN2).mono ?_)
    rintro e' u1 ⟨r, rfl, hb, hr⟩
    have HB1 := Aside0.mk hb
    clear HB
    cases r with
    | true =>
      clear hb hr
      go_wp2_with fail
      go_at_call 9
      (with_reducible refine (awake_ok _).mono ?_)
      rintro e' u2 ⟨rfl, hb2⟩
      have HB2 := Aside0.mk (below_step HB1.out hb2)
      clear hb2 HB1
      go_wp2_with fail
      go_ret
      exact ⟨rfl, HB2.out⟩
    | false =>
      have HLN2 := Aside0.mk (hr rfl)
      clear hb hr
      go_wp2_with fail
      go_at_call 9
      (with_reducible refine (awake_ok _).mono ?_)
      rintro e' u2 ⟨rfl, hb2⟩
      have HB2 := Aside0.mk (below_step HB1.out hb2)
      clear hb2 HB1
      go_wp2_with fail
      go_at_call 10
      (with_reducible refine (grown_c a C xs w _ (L := []) (R := []) ⟨(Inv.nil w).below HB2.out⟩ HX hC HLN.out.1 ⟨HLN.out.2⟩).mono ?_)
      rintro e' u3 ⟨b, rfl, h⟩
      have HSM := Aside0.mk (grow_sm xs)
      clear HB2
      obtain ⟨tr, htr⟩ : ∃ tr, tr = grow xs := ⟨_, rfl⟩
      rw [← htr] at h
      have HT : Aside0 (Sm 200 tr) := ⟨by rw [htr]; exact HSM.out.up HLN.out.1⟩
      have HA := Aside0.mk h
      clear h htr HSM HLN
      obtain ⟨ys, hys⟩ : ∃ ys, items tr [] = ys := ⟨_, rfl⟩
      have HYS := Aside0.mk hys
      have hl : ys.length ≤ 200 := by rw [← hys, items_length]; exact HT.out.1
      clear hys
      go_wp2_with fail
      go_at_call 12
      (with_reducible refine (all_at (x := (b, tr)) HA.out List.mem_cons_self HT.out (by omega) HYS.out).mono ?_)
      rintro e' u4 ⟨g, c, rfl, hc, h⟩
      clear HA; have HA := Aside0.mk h; clear h
      go_wp2_with fail
      go_at_call 22
      (with_reducible refine (inv_copy HA.out).mono ?_)
      rintro e' u5 ⟨q, rfl, h⟩
      clear HA; have HA := Aside0.mk (show Inv w u5 [(q, puts (zs.take 0) tr), (b, tr)] [⟨g, c, ys⟩] from h); clear h
      have hz := HLN2.out.1
      go_wp2_with fail
      go_loopg [8] zs.length (fun d v8 wr => ∃ i : Nat, v8 = .int .i64 i ∧ Aside0 (i + d = zs.length) ∧ Aside0 (Inv w wr [(q, puts (zs.take i) tr), (b, tr)] [⟨g, c, ys⟩]))
      case atStart => exact ⟨0, rfl, ⟨by omega⟩, HA⟩
      case round =>
        clear HA
        obtain ⟨i, hv, HD, HA⟩ := hrel
        subst hv
        by_cases hi : i < zs.length
        · obtain ⟨B, O, ha, -, c1, c2, c3⟩ := act_cells HX2.out (Below.refl _ _) i hi
          subst ha
          obtain ⟨x, hxe⟩ : ∃ x, x = zs[i] := ⟨_, rfl⟩
          rw [← hxe] at c1 c2 c3
          have HI := Aside0.mk hi
          have HSZ : Aside0 (x.f1.size ≤ 140737488351232) := ⟨by have := HLN2.out.2 x (by rw [hxe]; exact List.getElem_mem _); omega⟩
          have HQ : Aside0 (Tri.cnt (puts (zs.take i) tr) ≤ 1000000) := ⟨(puts_sm (zs.take i) tr 200 HT.out).c (by rw [List.length_take]; omega)⟩
          have HG : Aside0 (puts (zs.take (i + 1)) tr = tput x.f1 x.f2 x.f3 (puts (zs.take i) tr)) := ⟨by rw [puts_take zs tr i hi, hxe]⟩
          have HZ := Aside0.mk (And.intro c1 (And.intro c2 c3))
          clear c1 c2 c3 hxe
          go_wp2_with fail
          refine wp_region_held_drew (S := fun x => Below w.heap.size w x) (by kernel_rfl) (below_step HA.out.bel (pw_below_drewN (Below.refl _ _) 1)) ?_
          intro HS
          refine held_var (fun A hA => ?_)
          have s1 : A.eval (.tmp 1) = Value.slice (some ⟨B, O, none⟩) zs.length C2 := by rw [hA]; rfl
          have s7 : A.eval (.tmp 7) = Value.pointer (some ⟨q, 0, none⟩) := by rw [hA]; rfl
          have s8 : A.eval (.tmp 8) = Value.int .i64 (i : Int) := by rw [hA]; rfl
          haveI HFr : Fr 119 A := ⟨by rw [hA]; exact Nat.le_refl _⟩
          have HAA := Aside0.mk hA
          clear hA
          refine held_pure 0 (some 37) (v := Value.pointer (some ⟨q, 0, none⟩)) rfl (by kernel_rfl) (by kernel_rfl) (by kernel_rfl) rfl (fun _ _ _ h => h) (wanted_none rfl) HS (fun w hS => (ro_move (.inl rfl) s7) w) ?_
          refine held_pure 1 (some 38) (v := Value.slice (some ⟨B, O, none⟩) zs.length C2) rfl (by kernel_rfl) (by kernel_rfl) (by kernel_rfl) rfl (fun _ _ _ h => h) (wanted_none rfl) HS (fun w hS => (ro_move (.inl rfl) (ev_ne (by decide) s1)) w) ?_
          refine held_pure 2 (some 39) (v := Value.int .i64 (i : Int)) rfl (by kernel_rfl) (by kernel_rfl) (by kernel_rfl) rfl (fun _ _ _ h => h) (wanted_none rfl) HS (fun w hS => (ro_move (.inl rfl) (ev_ne (by decide) (ev_ne (by decide) s8))) w) ?_
          refine held_pure 3 (some 40) (v := Value.pointer (some ⟨B, O + i * 4, none⟩)) rfl (by kernel_rfl) (by kernel_rfl) (by kernel_rfl) rfl (fun _ _ _ h => h) (wanted_none rfl) HS (fun w hS => (ro_iaddr rfl (ev_ne (by decide) (ev_eq (by decide))) (ev_eq (by decide)) (fun w => ix22 HI.out w)) w) ?_
          refine held_pure 4 (some 41) (v := Value.pointer (some ⟨B, O + i * 4 + 1, none⟩)) rfl (by kernel_rfl) (by kernel_rfl) (by kernel_rfl) rfl (fun _ _ _ h => h) (wanted_none rfl) HS (fun w hS => (ro_field rfl (ev_eq (by decide)) (fun w => fa49 (by decide) w)) w) ?_
          refine held_pure 5 (some 42) (v := Value.string x.f1) rfl (by kernel_rfl) (by kernel_rfl) (by kernel_rfl) rfl (fun _ _ _ h => h) (wanted_none rfl) HS (fun w hS => (fun w => ro_load rfl (ev_eq (by decide)) (loadS (bcell hS HZ.out.1))) w) ?_
          refine held_pure 6 (some 43) (v := Value.slice (some ⟨B, O, none⟩) zs.length C2) rfl (by kernel_rfl) (by kernel_rfl) (by kernel_rfl) rfl (fun _ _ _ h => h) (wanted_none rfl) HS (fun w hS => (ro_move (.inl rfl) (ev_ne (by decide) (ev_ne (by decide) (ev_ne (by decide) (ev_ne (by decide) (ev_ne (by decide) (ev_ne (by decide) s1))))))) w) ?_
          refine held_pure 7 (some 44) (v := Value.int .i64 (i : Int)) rfl (by kernel_rfl) (by kernel_rfl) (by kernel_rfl) rfl (fun _ _ _ h => h) (wanted_none rfl) HS (fun w hS => (ro_move (.inl rfl) (ev_ne (by decide) (ev_ne (by decide) (ev_ne (by decide) (ev_ne (by decide) (ev_ne (by decide) (ev_ne (by decide) (ev_ne (by decide) s8)))))))) w) ?_
          refine held_pure 8 (some 45) (v := Value.pointer (some ⟨B, O + i * 4, none⟩)) rfl (by kernel_rfl) (by kernel_rfl) (by kernel_rfl) rfl (fun _ _ _ h => h) (wanted_none rfl) HS (fun w hS => (ro_iaddr rfl (ev_ne (by decide) (ev_eq (by decide))) (ev_eq (by decide)) (fun w => ix22 HI.out w)) w) ?_
          refine held_pure 9 (some 46) (v := Value.pointer (some ⟨B, O + i * 4 + 2, none⟩)) rfl (by kernel_rfl) (by kernel_rfl) (by kernel_rfl) rfl (fun _ _ _ h => h) (wanted_none rfl) HS (fun w hS => (ro_field rfl (ev_eq (by decide)) (fun w => fa49 (by decide) w)) w) ?_
          refine held_pure 10 (some 47) (v := Value.int .i64 x.f2) rfl (by kernel_rfl) (by kernel_rfl) (by kernel_rfl) rfl (fun _ _ _ h => h) (wanted_none rfl) HS (fun w hS => (fun w => ro_load rfl (ev_eq (by decide)) (loadN (bcell hS HZ.out.2.1))) w) ?_
          refine held_pure 11 (some 48) (v := Value.slice (some ⟨B, O, none⟩) zs.length C2) rfl (by kernel_rfl) (by kernel_rfl) (by kernel_rfl) rfl (fun _ _ _ h => h) (wanted_none rfl) HS (fun w hS => (ro_move (.inl rfl) (ev_ne (by decide) (ev_ne (by decide) (ev_ne (by decide) (ev_ne (by decide) (ev_ne (by decide) (ev_ne (by decide) (ev_ne (by decide) (ev_ne (by decide) (ev_ne (by decide) (ev_ne (by decide) (ev_ne (by decide) s1)))))))))))) w) ?_
          refine held_pure 12 (some 49) (v := Value.int .i64 (i : Int)) rfl (by kernel_rfl) (by kernel_rfl) (by kernel_rfl) rfl (fun _ _ _ h => h) (wanted_none rfl) HS (fun w hS => (ro_move (.inl rfl) (ev_ne (by decide) (ev_ne (by decide) (ev_ne (by decide) (ev_ne (by decide) (ev_ne (by decide) (ev_ne (by decide) (ev_ne (by decide) (ev_ne (by decide) (ev_ne (by decide) (ev_ne (by decide) (ev_ne (by decide) (ev_ne (by decide) s8))))))))))))) w) ?_
          refine held_pure 13 (some 50) (v := Value.pointer (some ⟨B, O + i * 4, none⟩)) rfl (by kernel_rfl) (by kernel_rfl) (by kernel_rfl) rfl (fun _ _ _ h => h) (wanted_none rfl) HS (fun w hS => (ro_iaddr rfl (ev_ne (by decide) (ev_eq (by decide))) (ev_eq (by decide)) (fun w => ix22 HI.out w)) w) ?_
          refine held_pure 14 (some 51) (v := Value.pointer (some ⟨B, O + i * 4 + 3, none⟩)) rfl (by kernel_rfl) (by kernel_rfl) (by kernel_rfl) rfl (fun _ _ _ h => h) (wanted_none rfl) HS (fun w hS => (ro_field rfl (ev_eq (by decide)) (fun w => fa49 (by decide) w)) w) ?_
          refine held_pure 15 (some 52) (v := Value.int .i64 x.f3) rfl (by kernel_rfl) (by kernel_rfl) (by kernel_rfl) rfl (fun _ _ _ h => h) (wanted_none rfl) HS (fun w hS => (fun w => ro_load rfl (ev_eq (by decide)) (loadN (bcell hS HZ.out.2.2))) w) ?_
          refine held_call 16 (some 53) 14 #[Value.pointer (some ⟨q, 0, none⟩), Value.string x.f1, Value.int .i64 x.f2, Value.int .i64 x.f3] (by kernel_rfl) rfl rfl (wanted_none rfl) rfl (map4 (ev_ne (by decide) (ev_ne (by decide) (ev_ne (by decide) (ev_ne (by decide) (ev_ne (by decide) (ev_ne (by decide) (ev_ne (by decide) (ev_ne (by decide) (ev_ne (by decide) (ev_ne (by decide) (ev_ne (by decide) (ev_ne (by decide) (ev_ne (by decide) (ev_ne (by decide) (ev_ne (by decide) (ev_eq (by decide))))))))))))))))) (ev_ne (by decide) (ev_ne (by decide) (ev_ne (by decide) (ev_ne (by decide) (ev_ne (by decide) (ev_ne (by decide) (ev_ne (by decide) (ev_ne (by decide) (ev_ne (by decide) (ev_ne (by decide) (ev_eq (by decide)))))))))))) (ev_ne (by decide) (ev_ne (by decide) (ev_ne (by decide) (ev_ne (by decide) (ev_ne (by decide) (ev_eq (by decide))))))) (ev_eq (by decide))) (fun args w => by kernel_rfl) (inv_put (HA.out.below (pw_below_drewN (Below.refl _ _) 1)) x.f1 x.f2 x.f3 HSZ.out HQ.out) ?_
          rintro e u2 ⟨rfl, h⟩
          clear HA HS; have HA := Aside0.mk h; clear h
          refine ⟨_, rfl, HA.out.bel, fun HS => ?_⟩
          refine held_done (by kernel_rfl) ?_
          have hA := HAA.out
          subst hA
          simp only [Act.put, List.setIfInBounds_toArray, List.set_cons_zero, List.set_cons_succ]
          clear HAA HFr s1 s7 s8
          clear HS
          go_wp2_with fail
          go_roundg (zs.length - 1 - i)
          case measure => have := HD.out; omega
          case rel => exact ⟨i + 1, by go_num, ⟨by have := HD.out; omega⟩, ⟨by rw [HG.out]; exact HA.out⟩⟩
        · obtain rfl : zs.length = i := by have := HD.out; omega
          clear HD hi
          obtain ⟨tc, htc⟩ : ∃ tc, tc = puts (zs.take zs.length) tr := ⟨_, rfl⟩
          have HC : Aside0 (Sm 400 tc) := ⟨by rw [htc, List.take_length]; exact (puts_sm zs tr 200 HT.out).up (by omega)⟩
          have h := HA.out
          rw [← htc] at h
          clear HA; have HA := Aside0.mk h; clear h htc
          obtain ⟨ks, hks⟩ : ∃ ks, items tc [] = ks := ⟨_, rfl⟩
          have HKS := Aside0.mk hks
          have hkl : ks.length ≤ 400 := by rw [← hks, items_length]; exact HC.out.1
          have HKL : Aside0 (Tri.cnt tc = ks.length) := ⟨by rw [← hks, items_length]⟩
          have HYL : Aside0 (Tri.cnt tr = ys.length) := ⟨by rw [← HYS.out, items_length]⟩
          clear hks
          go_wp2_with fail
          go_at_call 12
          (with_reducible refine (all_at (x := (q, tc)) HA.out List.mem_cons_self HC.out (by omega) HKS.out).mono ?_)
          rintro e' u6 ⟨g2, c2, rfl, hc2, h⟩
          clear HA; have HA := Aside0.mk h; clear h
          go_wp2_with fail
          go_at_call 12
          (with_reducible refine (all_at (x := (b, tr)) HA.out (by simp) HT.out (by omega) HYS.out).mono ?_)
          rintro e' u7 ⟨g3, c3, rfl, hc3, h⟩
          clear HA; have HA := Aside0.mk h; clear h
          go_wp2_with fail
          go_at_call 15
          (with_reducible refine (inv_same_t HA.out g3 c3 g c ys (by simp) (by simp) (by omega)).mono ?_)
          rintro e' u8 ⟨rfl, h⟩
          clear HA hc3; have HA := Aside0.mk h.less; clear h
          go_wp2_with fail
          go_at_call 18
          (with_reducible refine (len_at (x := (b, tr)) HA.out (by simp) HYL.out).mono ?_)
          rintro e' u9 ⟨rfl, h⟩
          clear HA; have HA := Aside0.mk (show Inv w u9 [(q, tc), (b, rdel ys tr 0)] [⟨g2, c2, ks⟩, ⟨g, c, ys⟩] from h); clear h
          go_wp2_with fail
          go_loopg [10] ys.length (fun d v10 wr => ∃ i : Nat, v10 = .int .i64 i ∧ Aside0 (i + d = ys.length) ∧ Aside0 (Inv w wr [(q, tc), (b, rdel ys tr i)] [⟨g2, c2, ks⟩, ⟨g, c, ys⟩]))
          case atStart => exact ⟨0, rfl, ⟨by omega⟩, HA⟩
          case round =>
            clear HA
            obtain ⟨i, hv, HD, HA⟩ := hrel
            subst hv
            by_cases hi : i < ys.length
            · obtain ⟨G, hg⟩ := HA.out.rowA (a := g) (c := c) (ys := ys) (by simp) hi
              subst hg
              have HI := Aside0.mk hi
              obtain ⟨y, hy⟩ : ∃ y, y = yAt ys i := ⟨_, rfl⟩
              have HY := Aside0.mk hy
              have HCS : Aside0 (World.cell? (World.drew wr) ⟨G, i * 3, none⟩ = some (.string y.f0) ∧ World.cell? (World.drew wr) ⟨G, i * 3 + 1, none⟩ = some (.int .i64 y.f1)) := ⟨by rw [hy]; exact (HA.out.below (pw_below_drewN (Below.refl _ _) 1)).rowAt (c := c) (ys := ys) (by simp) hi⟩
              have HSZ : Aside0 (y.f0.size ≤ 140737488351232) := ⟨by
                obtain ⟨bs, hI⟩ := item_of HT.out.2 (y := y) (by rw [hy, HYS.out]; exact yAt_mem hi)
                exact hI.size⟩
              have HQ : Aside0 (Tri.cnt (rdel ys tr i) ≤ 1000000) := ⟨(rdel_sm HT.out i).c (by omega)⟩
              have HIS : Aside0 ((tget y.f0 y.f1 (rdel ys tr i)).isSome = true) := ⟨by have h := rdel_is HT.out.2 (i := i) (by rw [HYS.out]; exact hi); rw [HYS.out] at h; rw [hy]; exact h⟩
              have HG : Aside0 (rdel ys tr (i + 1) = tdel y.f0 y.f1 (rdel ys tr i)) := ⟨by rw [hy]; rfl⟩
              clear hy
              go_wp2_with fail
              refine wp_region_held_drew (S := fun x => x.cell? ⟨G, i * 3, none⟩ = some (.string y.f0) ∧ x.cell? ⟨G, i * 3 + 1, none⟩ = some (.int .i64 y.f1)) (by kernel_rfl) HCS.out ?_
              intro HS
              refine held_var (fun A hA => ?_)
              have s5 : A.eval (.tmp 5) = Value.pointer (some ⟨b, 0, none⟩) := by rw [hA]; rfl
              have s6 : A.eval (.tmp 6) = Value.slice (some ⟨G, 0, none⟩) ys.length c := by rw [hA]; rfl
              have s10 : A.eval (.tmp 10) = Value.int .i64 (i : Int) := by rw [hA]; rfl
              haveI HFr : Fr 119 A := ⟨by rw [hA]; exact Nat.le_refl _⟩
              have HAA := Aside0.mk hA
              clear hA
              refine held_pure 0 (some 74) (v := Value.pointer (some ⟨b, 0, none⟩)) rfl (by kernel_rfl) (by kernel_rfl) (by kernel_rfl) rfl (fun _ _ _ h => h) (wanted_none rfl) HS (fun w hS => (ro_move (.inl rfl) s5) w) ?_
              refine held_pure 1 (some 75) (v := Value.slice (some ⟨G, 0, none⟩) ys.length c) rfl (by kernel_rfl) (by kernel_rfl) (by kernel_rfl) rfl (fun _ _ _ h => h) (wanted_none rfl) HS (fun w hS => (ro_move (.inl rfl) (ev_ne (by decide) s6)) w) ?_
              refine held_pure 2 (some 76) (v := Value.int .i64 (i : Int)) rfl (by kernel_rfl) (by kernel_rfl) (by kernel_rfl) rfl (fun _ _ _ h => h) (wanted_none rfl) HS (fun w hS => (ro_move (.inl rfl) (ev_ne (by decide) (ev_ne (by decide) s10))) w) ?_
              refine held_pure 3 (some 77) (v := Value.pointer (some ⟨G, i * 3, none⟩)) rfl (by kernel_rfl) (by kernel_rfl) (by kernel_rfl) rfl (fun _ _ _ h => h) (wanted_none rfl) HS (fun w hS => (ro_iaddr rfl (ev_ne (by decide) (ev_eq (by decide))) (ev_eq (by decide)) (fun w => ix29 HI.out w)) w) ?_
              refine held_pure 4 (some 78) (v := Value.pointer (some ⟨G, i * 3, none⟩)) rfl (by kernel_rfl) (by kernel_rfl) (by kernel_rfl) rfl (fun _ _ _ h => h) (wanted_none rfl) HS (fun w hS => (ro_field rfl (ev_eq (by decide)) (fun w => fa32 (B := G) (o := i * 3) (j := 0) (by decide) w)) w) ?_
              refine held_pure 5 (some 79) (v := Value.string y.f0) rfl (by kernel_rfl) (by kernel_rfl) (by kernel_rfl) rfl (fun _ _ _ h => h) (wanted_none rfl) HS (fun w hS => (fun w => ro_load rfl (ev_eq (by decide)) (loadS hS.1)) w) ?_
              refine held_pure 6 (some 80) (v := Value.slice (some ⟨G, 0, none⟩) ys.length c) rfl (by kernel_rfl) (by kernel_rfl) (by kernel_rfl) rfl (fun _ _ _ h => h) (wanted_none rfl) HS (fun w hS => (ro_move (.inl rfl) (ev_ne (by decide) (ev_ne (by decide) (ev_ne (by decide) (ev_ne (by decide) (ev_ne (by decide) (ev_ne (by decide) s6))))))) w) ?_
              refine held_pure 7 (some 81) (v := Value.int .i64 (i : Int)) rfl (by kernel_rfl) (by kernel_rfl) (by kernel_rfl) rfl (fun _ _ _ h => h) (wanted_none rfl) HS (fun w hS => (ro_move (.inl rfl) (ev_ne (by decide) (ev_ne (by decide) (ev_ne (by decide) (ev_ne (by decide) (ev_ne (by decide) (ev_ne (by decide) (ev_ne (by decide) s10)))))))) w) ?_
              refine held_pure 8 (some 82) (v := Value.pointer (some ⟨G, i * 3, none⟩)) rfl (by kernel_rfl) (by kernel_rfl) (by kernel_rfl) rfl (fun _ _ _ h => h) (wanted_none rfl) HS (fun w hS => (ro_iaddr rfl (ev_ne (by decide) (ev_eq (by decide))) (ev_eq (by decide)) (fun w => ix29 HI.out w)) w) ?_
              refine held_pure 9 (some 83) (v := Value.pointer (some ⟨G, i * 3 + 1, none⟩)) rfl (by kernel_rfl) (by kernel_rfl) (by kernel_rfl) rfl (fun _ _ _ h => h) (wanted_none rfl) HS (fun w hS => (ro_field rfl (ev_eq (by decide)) (fun w => fa32 (B := G) (o := i * 3) (j := 1) (by decide) w)) w) ?_
              refine held_pure 10 (some 84) (v := Value.int .i64 y.f1) rfl (by kernel_rfl) (by kernel_rfl) (by kernel_rfl) rfl (fun _ _ _ h => h) (wanted_none rfl) HS (fun w hS => (fun w => ro_load rfl (ev_eq (by decide)) (loadN hS.2)) w) ?_
              refine held_call 11 (some 85) 17 #[Value.pointer (some ⟨b, 0, none⟩), Value.string y.f0, Value.int .i64 y.f1] (by kernel_rfl) rfl rfl (wanted_none rfl) rfl (map3 (ev_ne (by decide) (ev_ne (by decide) (ev_ne (by decide) (ev_ne (by decide) (ev_ne (by decide) (ev_ne (by decide) (ev_ne (by decide) (ev_ne (by decide) (ev_ne (by decide) (ev_ne (by decide) (ev_eq (by decide)))))))))))) (ev_ne (by decide) (ev_ne (by decide) (ev_ne (by decide) (ev_ne (by decide) (ev_ne (by decide) (ev_eq (by decide))))))) (ev_eq (by decide))) (fun args w => by kernel_rfl) (del_2 (HA.out.below (pw_below_drewN (Below.refl _ _) 1)) y.f0 y.f1 HSZ.out HQ.out HIS.out) ?_
              rintro e u2 ⟨rfl, h⟩
              clear HA HS; have HA := Aside0.mk h; clear h
              refine ⟨_, rfl, by rw [HY.out]; exact HA.out.rowAt (c := c) (ys := ys) (by simp) HI.out, fun HS => ?_⟩
              refine held_pure 12 (some 86) (v := Value.bool false) rfl (by kernel_rfl) (by kernel_rfl) (by kernel_rfl) rfl (fun _ _ _ h => h) (wanted_none rfl) HS (fun w hS => ((ro_unOp rfl (ev_eq (by decide)) (fun w => by go_simp))) w) ?_
              refine held_done (by kernel_rfl) ?_
              have hA := HAA.out
              subst hA
              simp only [Act.put, List.setIfInBounds_toArray, List.set_cons_zero, List.set_cons_succ]
              clear HAA HFr s5 s6 s10
              clear HS
              go_wp2_with fail
              go_roundg (ys.length - 1 - i)
              case measure => have := HD.out; omega
              case rel => exact ⟨i + 1, by go_num, ⟨by have := HD.out; omega⟩, ⟨by rw [HG.out]; exact HA.out⟩⟩
            · obtain rfl : ys.length = i := by have := HD.out; omega
              clear HD hi
              obtain ⟨td, htd⟩ : ∃ td, td = rdel ys tr ys.length := ⟨_, rfl⟩
              have HDS : Aside0 (Same td aw0) := ⟨by rw [htd, ← HYS.out]; exact rdel_none HT.out.2⟩
              have HDM : Aside0 (Sm 200 td) := ⟨by rw [htd]; exact rdel_sm HT.out _⟩
              have h := HA.out
              rw [← htd] at h
              clear HA; have HA := Aside0.mk h; clear h htd
              have HDI : Aside0 (items td [] = []) := ⟨HDS.out.items.trans aw0_items⟩
              have HDC : Aside0 (Tri.cnt td = 0) := ⟨HDS.out.cnt.trans aw0_cnt⟩
              have h1 := inv_lon (x := (b, td)) HA.out (by simp) ⟨#[97, 98, 99]⟩ (by decide)
              dsimp only at h1
              rw [same_lon HDS.out] at h1
              have HLO := Aside0.mk h1
              clear h1
              go_wp2_with fail
              go_at_call 11
              (with_reducible refine HLO.out.mono ?_)
              rintro e' v1 ⟨rfl, h⟩
              clear HA HLO; have HA := Aside0.mk h; clear h
              simp only [lonV, Option.map_none, Option.getD_none, Option.isSome_none]
              go_wp2_with fail
              go_at_call 12
              (with_reducible refine (all_at (x := (q, tc)) HA.out List.mem_cons_self HC.out (by omega) HKS.out).mono ?_)
              rintro e' v2 ⟨g4, c4, rfl, hc4, h⟩
              clear HA; have HA := Aside0.mk h; clear h
              go_wp2_with fail
              go_at_call 15
              (with_reducible refine (inv_same_t HA.out g4 c4 g2 c2 ks (by simp) (by simp) (by omega)).mono ?_)
              rintro e' v3 ⟨rfl, h⟩
              clear HA hc4; have HA := Aside0.mk h.less; clear h
              go_wp2_with fail
              go_at_call 18
              (with_reducible refine (len_at (x := (q, tc)) HA.out (by simp) HKL.out).mono ?_)
              rintro e' v4 ⟨rfl, h⟩
              clear HA; have HA := Aside0.mk h; clear h
              go_wp2_with fail
              go_at_call 18
              (with_reducible refine (len_at (x := (b, td)) HA.out (by simp) HDC.out).mono ?_)
              rintro e' v5 ⟨rfl, h⟩
              clear HA; have HA := Aside0.mk h; clear h
              go_wp2_with fail
              go_at_call 12
              (with_reducible refine (all_at (x := (b, td)) HA.out (by simp) HDM.out (by omega) HDI.out).mono ?_)
              rintro e' v6 ⟨g6, c6, rfl, hc6, h⟩
              clear HA; have HA := Aside0.mk h; clear h
              go_wp2_with fail
              go_ret
              exact ⟨rfl, HA.out.bel⟩
theorem trieApart {H : Type} {enc : TypeId × Value → H} {base fuel fuel2 : Nat} {sp : Nat → Bool} {held : Bool} (a : Option Addr) (N C : Nat) (a2 : Option Addr) (N2 C2 : Nat) (w : World) (d d2 : DataW H × List MemPlace)
    (hN : N ≤ 140737488351232) (hN2 : N2 ≤ 140737488351232) (h : DataW.trod enc Try.prog w base sp held fuel 22 [.slice a N C] = some d) (h2 : DataW.trod enc Try.prog w base sp held fuel2 22 [.slice a2 N2 C2] = some d2) :
    Calls Try.prog 6 #[.slice a N C, .slice a2 N2 C2] w fun e' w' => e' = .returned (.bool true) ∧ Below w.heap.size w w' := by
  obtain ⟨hC, xs, rfl, hA⟩ := acts_of a N C w d h
  obtain ⟨hC2, zs, rfl, hA2⟩ := acts_of a2 N2 C2 w d2 h2
  exact apart_w a a2 C C2 xs zs w ⟨hA⟩ ⟨hA2⟩ hC hC2 hN hN2
end Go.Proofs.Ytpchlnbnpgaocaa.PTrie
