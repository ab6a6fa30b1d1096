/- Tries: grown. -/
import Derived.Test.YtpchlnbnpgaocaaKTrie11
namespace Go.Proofs.Ytpchlnbnpgaocaa.PTrie
open Go.Proofs.Ytpchlnbnpgaocaa.KTree Go.Proofs.Ytpchlnbnpgaocaa.KReg Go.Proofs.Ytpchlnbnpgaocaa.KBits Go.RowKit Go.Proofs.YtpchlnbnpgaocaaW.PrintWords Go.Proofs.YtpchlnbnpgaocaaW.PrintLast Go.Proofs.YtpchlnbnpgaocaaW.PrintMore
set_option linter.unusedVariables false
set_option linter.unusedSimpArgs false
theorem loadS {w : World} {b o : Nat} {x : ByteArray} (hc : w.cell? ⟨b, o, none⟩ = some (.string x)) : (Instr.loadAt 9 (.pointer (some ⟨b, o, none⟩)) : Sem Value).run Try.prog w = .ok (.string x) w := by
  go_simp
theorem ix22 {B O N C i : Nat} (hi : i < N) (w : World) : (Instr.indexAt 22 (.slice (some ⟨B, O, none⟩) N C) (.int .i64 (i : Int)) : Sem Value).run Try.prog w = .ok (.pointer (some ⟨B, O + i * 4, none⟩)) w := by
  have h1 : (i : Int) < (N : Int) := by omega
  go_simp
theorem fa49 {B o j : Nat} (hj : j < 4) (w : World) : (Instr.fieldAt 49 (.pointer (some ⟨B, o, none⟩)) j : Sem Value).run Try.prog w = .ok (.pointer (some ⟨B, o + j, none⟩)) w := by
  have : j = 0 ∨ j = 1 ∨ j = 2 ∨ j = 3 := by omega
  rcases this with rfl | rfl | rfl | rfl <;> go_simp
theorem bcell {w x : World} {a : Addr} {v : Value} (h : Below w.heap.size w x) (c : w.cell? a = some v) : x.cell? a = some v := (World.cell?_of_block (h.block _ (World.block_lt_of_cell? _ _ c))).trans c
set_option maxHeartbeats 8000000 in
set_option maxRecDepth 100000 in
theorem grown_c (a : Option Addr) (C : Nat) (xs : List S49) (w u : World) {L : List (Nat × Tri)} {R : List Rw} (HA : Aside0 (Inv w u L R)) (HX : Aside0 (Acts w a xs)) (hC : xs.length ≤ C) (hx : xs.length ≤ 200) (HL : Aside0 (∀ x, x ∈ xs → x.f1.size ≤ 4000)) :
    Calls Try.prog 10 #[.slice a xs.length C] u fun e u' => ∃ q, e = .returned (.pointer (some ⟨q, 0, none⟩)) ∧ Inv w u' ((q, grow xs) :: L) R := by
  go_enter Try.func10, Try.ntmps10
  go_wp2_with fail
  go_at_call 13
  (with_reducible refine (inv_new HA.out).mono ?_)
  rintro e u1 ⟨b, rfl, h⟩
  clear HA
  have HA := Aside0.mk (show Inv w u1 ((b, grow (xs.take 0)) :: L) R from h)
  clear h
  go_wp2_with fail
  go_loopg [4] xs.length (fun d v4 wr => ∃ (i : Nat), v4 = .int .i64 i ∧ Aside0 (i + d = xs.length) ∧ Aside0 (Inv w wr ((b, grow (xs.take i)) :: L) R))
  case atStart => exact ⟨0, rfl, ⟨by omega⟩, HA⟩
  case round =>
    clear HA
    obtain ⟨i, hv, HD, HA⟩ := hrel
    subst hv
    by_cases hi : i < xs.length
    · obtain ⟨B, O, ha, c0, -⟩ := act_cells HX.out HA.out.bel i hi
      subst ha
      obtain ⟨B2, O2, ha2, -, c1, c2, c3⟩ := act_cells HX.out (Below.refl _ _) i hi
      obtain ⟨rfl, rfl⟩ : B = B2 ∧ O = O2 := by cases ha2; exact ⟨rfl, rfl⟩
      obtain ⟨x, hxe⟩ : ∃ x, x = xs[i] := ⟨_, rfl⟩
      rw [← hxe] at c0 c1 c2 c3
      have HI := Aside0.mk hi
      have HE := Aside0.mk hxe
      have HSZ : Aside0 (x.f1.size ≤ 140737488351232) := ⟨by have := HL.out x (by rw [hxe]; exact List.getElem_mem _); omega⟩
      have HQ : Aside0 (Tri.cnt (grow (xs.take i)) ≤ 1000000) := ⟨by have := (grow_sm (xs.take i)).1; rw [List.length_take] at this; omega⟩
      have HG : Aside0 (grow (xs.take (i + 1)) = gstep (grow (xs.take i)) x) := ⟨by rw [grow_take xs i hi, hxe]⟩
      have hr := HX.out.2 x (by rw [hxe]; exact List.getElem_mem _)
      have HZ := Aside0.mk (And.intro (show w.cell? ⟨B, O + i * 4 + 1, none⟩ = some (.string x.f1) from c1) (And.intro (show w.cell? ⟨B, O + i * 4 + 2, none⟩ = some (.int .i64 x.f2) from c2) (show w.cell? ⟨B, O + i * 4 + 3, none⟩ = some (.int .i64 x.f3) from c3)))
      clear c1 c2 c3 hxe ha2
      by_cases hq : x.f0 % 4 = 1
      · go_wp2_with fail
        refine wp_region_held_drew (S := fun x => Below w.heap.size w x) (by kernel_rfl) (below_step HA.out.bel (pw_below_drewN (Below.refl _ _) 1)) ?_
        intro HS
        refine held_var (fun A hA => ?_)
        have s0 : A.eval (.tmp 0) = Value.slice (some ⟨B, O, none⟩) xs.length C := by rw [hA]; rfl
        have s3 : A.eval (.tmp 3) = Value.pointer (some ⟨b, 0, none⟩) := by rw [hA]; rfl
        have s4 : A.eval (.tmp 4) = Value.int .i64 (i : Int) := by rw [hA]; rfl
        haveI HFr : Fr 49 A := ⟨by rw [hA]; exact Nat.le_refl _⟩
        have HAA := Aside0.mk hA
        clear hA
        refine held_pure 0 (some 19) (v := Value.pointer (some ⟨b, 0, none⟩)) rfl (by kernel_rfl) (by kernel_rfl) (by kernel_rfl) rfl (fun _ _ _ h => h) (wanted_none rfl) HS (fun w hS => (ro_move (.inl rfl) s3) w) ?_
        refine held_pure 1 (some 20) (v := Value.slice (some ⟨B, O, none⟩) xs.length C) rfl (by kernel_rfl) (by kernel_rfl) (by kernel_rfl) rfl (fun _ _ _ h => h) (wanted_none rfl) HS (fun w hS => (ro_move (.inl rfl) (ev_ne (by decide) s0)) w) ?_
        refine held_pure 2 (some 21) (v := Value.int .i64 (i : Int)) rfl (by kernel_rfl) (by kernel_rfl) (by kernel_rfl) rfl (fun _ _ _ h => h) (wanted_none rfl) HS (fun w hS => (ro_move (.inl rfl) (ev_ne (by decide) (ev_ne (by decide) s4))) w) ?_
        refine held_pure 3 (some 22) (v := Value.pointer (some ⟨B, O + i * 4, none⟩)) rfl (by kernel_rfl) (by kernel_rfl) (by kernel_rfl) rfl (fun _ _ _ h => h) (wanted_none rfl) HS (fun w hS => (ro_iaddr rfl (ev_ne (by decide) (ev_eq (by decide))) (ev_eq (by decide)) (fun w => ix22 HI.out w)) w) ?_
        refine held_pure 4 (some 23) (v := Value.pointer (some ⟨B, O + i * 4 + 1, none⟩)) rfl (by kernel_rfl) (by kernel_rfl) (by kernel_rfl) rfl (fun _ _ _ h => h) (wanted_none rfl) HS (fun w hS => (ro_field rfl (ev_eq (by decide)) (fun w => fa49 (by decide) w)) w) ?_
        refine held_pure 5 (some 24) (v := Value.string x.f1) rfl (by kernel_rfl) (by kernel_rfl) (by kernel_rfl) rfl (fun _ _ _ h => h) (wanted_none rfl) HS (fun w hS => (fun w => ro_load rfl (ev_eq (by decide)) (loadS (bcell hS HZ.out.1))) w) ?_
        refine held_pure 6 (some 25) (v := Value.slice (some ⟨B, O, none⟩) xs.length C) rfl (by kernel_rfl) (by kernel_rfl) (by kernel_rfl) rfl (fun _ _ _ h => h) (wanted_none rfl) HS (fun w hS => (ro_move (.inl rfl) (ev_ne (by decide) (ev_ne (by decide) (ev_ne (by decide) (ev_ne (by decide) (ev_ne (by decide) (ev_ne (by decide) s0))))))) w) ?_
        refine held_pure 7 (some 26) (v := Value.int .i64 (i : Int)) rfl (by kernel_rfl) (by kernel_rfl) (by kernel_rfl) rfl (fun _ _ _ h => h) (wanted_none rfl) HS (fun w hS => (ro_move (.inl rfl) (ev_ne (by decide) (ev_ne (by decide) (ev_ne (by decide) (ev_ne (by decide) (ev_ne (by decide) (ev_ne (by decide) (ev_ne (by decide) s4)))))))) w) ?_
        refine held_pure 8 (some 27) (v := Value.pointer (some ⟨B, O + i * 4, none⟩)) rfl (by kernel_rfl) (by kernel_rfl) (by kernel_rfl) rfl (fun _ _ _ h => h) (wanted_none rfl) HS (fun w hS => (ro_iaddr rfl (ev_ne (by decide) (ev_eq (by decide))) (ev_eq (by decide)) (fun w => ix22 HI.out w)) w) ?_
        refine held_pure 9 (some 28) (v := Value.pointer (some ⟨B, O + i * 4 + 2, none⟩)) rfl (by kernel_rfl) (by kernel_rfl) (by kernel_rfl) rfl (fun _ _ _ h => h) (wanted_none rfl) HS (fun w hS => (ro_field rfl (ev_eq (by decide)) (fun w => fa49 (by decide) w)) w) ?_
        refine held_pure 10 (some 29) (v := Value.int .i64 x.f2) rfl (by kernel_rfl) (by kernel_rfl) (by kernel_rfl) rfl (fun _ _ _ h => h) (wanted_none rfl) HS (fun w hS => (fun w => ro_load rfl (ev_eq (by decide)) (loadN (bcell hS HZ.out.2.1))) w) ?_
        refine held_call 11 (some 30) 17 #[Value.pointer (some ⟨b, 0, none⟩), Value.string x.f1, Value.int .i64 x.f2] (by kernel_rfl) rfl rfl (wanted_none rfl) rfl (map3 (ev_ne (by decide) (ev_ne (by decide) (ev_ne (by decide) (ev_ne (by decide) (ev_ne (by decide) (ev_ne (by decide) (ev_ne (by decide) (ev_ne (by decide) (ev_ne (by decide) (ev_ne (by decide) (ev_eq (by decide)))))))))))) (ev_ne (by decide) (ev_ne (by decide) (ev_ne (by decide) (ev_ne (by decide) (ev_ne (by decide) (ev_eq (by decide))))))) (ev_eq (by decide))) (fun args w => by kernel_rfl) (inv_del (HA.out.below (pw_below_drewN (Below.refl _ _) 1)) x.f1 x.f2 HSZ.out HQ.out) ?_
        rintro e u2 ⟨rfl, h⟩
        clear HA HS; have HA := Aside0.mk h; clear h
        refine ⟨_, rfl, HA.out.bel, fun HS => ?_⟩
        refine held_done (by kernel_rfl) ?_
        have hA := HAA.out
        subst hA
        simp only [Act.put, List.setIfInBounds_toArray, List.set_cons_zero, List.set_cons_succ]
        clear HAA HFr s0 s3 s4
        clear HS
        go_wp2_with fail
        go_roundg (xs.length - 1 - i)
        case measure => have := HD.out; omega
        case rel => exact ⟨i + 1, by go_num, ⟨by have := HD.out; omega⟩, ⟨by rw [HG.out, gstep, if_pos hq]; exact HA.out⟩⟩
      · go_wp2_with fail
        refine wp_region_held_drew (S := fun x => Below w.heap.size w x) (by kernel_rfl) (below_step HA.out.bel (pw_below_drewN (Below.refl _ _) 1)) ?_
        intro HS
        refine held_var (fun A hA => ?_)
        have s0 : A.eval (.tmp 0) = Value.slice (some ⟨B, O, none⟩) xs.length C := by rw [hA]; rfl
        have s3 : A.eval (.tmp 3) = Value.pointer (some ⟨b, 0, none⟩) := by rw [hA]; rfl
        have s4 : A.eval (.tmp 4) = Value.int .i64 (i : Int) := by rw [hA]; rfl
        haveI HFr : Fr 49 A := ⟨by rw [hA]; exact Nat.le_refl _⟩
        have HAA := Aside0.mk hA
        clear hA
        refine held_pure 0 (some 31) (v := Value.pointer (some ⟨b, 0, none⟩)) rfl (by kernel_rfl) (by kernel_rfl) (by kernel_rfl) rfl (fun _ _ _ h => h) (wanted_none rfl) HS (fun w hS => (ro_move (.inl rfl) s3) w) ?_
        refine held_pure 1 (some 32) (v := Value.slice (some ⟨B, O, none⟩) xs.length C) rfl (by kernel_rfl) (by kernel_rfl) (by kernel_rfl) rfl (fun _ _ _ h => h) (wanted_none rfl) HS (fun w hS => (ro_move (.inl rfl) (ev_ne (by decide) s0)) w) ?_
        refine held_pure 2 (some 33) (v := Value.int .i64 (i : Int)) rfl (by kernel_rfl) (by kernel_rfl) (by kernel_rfl) rfl (fun _ _ _ h => h) (wanted_none rfl) HS (fun w hS => (ro_move (.inl rfl) (ev_ne (by decide) (ev_ne (by decide) s4))) w) ?_
        refine held_pure 3 (some 34) (v := Value.pointer (some ⟨B, O + i * 4, none⟩)) rfl (by kernel_rfl) (by kernel_rfl) (by kernel_rfl) rfl (fun _ _ _ h => h) (wanted_none rfl) HS (fun w hS => (ro_iaddr rfl (ev_ne (by decide) (ev_eq (by decide))) (ev_eq (by decide)) (fun w => ix22 HI.out w)) w) ?_
        refine held_pure 4 (some 35) (v := Value.pointer (some ⟨B, O + i * 4 + 1, none⟩)) rfl (by kernel_rfl) (by kernel_rfl) (by kernel_rfl) rfl (fun _ _ _ h => h) (wanted_none rfl) HS (fun w hS => (ro_field rfl (ev_eq (by decide)) (fun w => fa49 (by decide) w)) w) ?_
        refine held_pure 5 (some 36) (v := Value.string x.f1) rfl (by kernel_rfl) (by kernel_rfl) (by kernel_rfl) rfl (fun _ _ _ h => h) (wanted_none rfl) HS (fun w hS => (fun w => ro_load rfl (ev_eq (by decide)) (loadS (bcell hS HZ.out.1))) w) ?_
        refine held_pure 6 (some 37) (v := Value.slice (some ⟨B, O, none⟩) xs.length C) rfl (by kernel_rfl) (by kernel_rfl) (by kernel_rfl) rfl (fun _ _ _ h => h) (wanted_none rfl) HS (fun w hS => (ro_move (.inl rfl) (ev_ne (by decide) (ev_ne (by decide) (ev_ne (by decide) (ev_ne (by decide) (ev_ne (by decide) (ev_ne (by decide) s0))))))) w) ?_
        refine held_pure 7 (some 38) (v := Value.int .i64 (i : Int)) rfl (by kernel_rfl) (by kernel_rfl) (by kernel_rfl) rfl (fun _ _ _ h => h) (wanted_none rfl) HS (fun w hS => (ro_move (.inl rfl) (ev_ne (by decide) (ev_ne (by decide) (ev_ne (by decide) (ev_ne (by decide) (ev_ne (by decide) (ev_ne (by decide) (ev_ne (by decide) s4)))))))) w) ?_
        refine held_pure 8 (some 39) (v := Value.pointer (some ⟨B, O + i * 4, none⟩)) rfl (by kernel_rfl) (by kernel_rfl) (by kernel_rfl) rfl (fun _ _ _ h => h) (wanted_none rfl) HS (fun w hS => (ro_iaddr rfl (ev_ne (by decide) (ev_eq (by decide))) (ev_eq (by decide)) (fun w => ix22 HI.out w)) w) ?_
        refine held_pure 9 (some 40) (v := Value.pointer (some ⟨B, O + i * 4 + 2, none⟩)) rfl (by kernel_rfl) (by kernel_rfl) (by kernel_rfl) rfl (fun _ _ _ h => h) (wanted_none rfl) HS (fun w hS => (ro_field rfl (ev_eq (by decide)) (fun w => fa49 (by decide) w)) w) ?_
        refine held_pure 10 (some 41) (v := Value.int .i64 x.f2) rfl (by kernel_rfl) (by kernel_rfl) (by kernel_rfl) rfl (fun _ _ _ h => h) (wanted_none rfl) HS (fun w hS => (fun w => ro_load rfl (ev_eq (by decide)) (loadN (bcell hS HZ.out.2.1))) w) ?_
        refine held_pure 11 (some 42) (v := Value.slice (some ⟨B, O, none⟩) xs.length C) rfl (by kernel_rfl) (by kernel_rfl) (by kernel_rfl) rfl (fun _ _ _ h => h) (wanted_none rfl) HS (fun w hS => (ro_move (.inl rfl) (ev_ne (by decide) (ev_ne (by decide) (ev_ne (by decide) (ev_ne (by decide) (ev_ne (by decide) (ev_ne (by decide) (ev_ne (by decide) (ev_ne (by decide) (ev_ne (by decide) (ev_ne (by decide) (ev_ne (by decide) s0)))))))))))) w) ?_
        refine held_pure 12 (some 43) (v := Value.int .i64 (i : Int)) rfl (by kernel_rfl) (by kernel_rfl) (by kernel_rfl) rfl (fun _ _ _ h => h) (wanted_none rfl) HS (fun w hS => (ro_move (.inl rfl) (ev_ne (by decide) (ev_ne (by decide) (ev_ne (by decide) (ev_ne (by decide) (ev_ne (by decide) (ev_ne (by decide) (ev_ne (by decide) (ev_ne (by decide) (ev_ne (by decide) (ev_ne (by decide) (ev_ne (by decide) (ev_ne (by decide) s4))))))))))))) w) ?_
        refine held_pure 13 (some 44) (v := Value.pointer (some ⟨B, O + i * 4, none⟩)) rfl (by kernel_rfl) (by kernel_rfl) (by kernel_rfl) rfl (fun _ _ _ h => h) (wanted_none rfl) HS (fun w hS => (ro_iaddr rfl (ev_ne (by decide) (ev_eq (by decide))) (ev_eq (by decide)) (fun w => ix22 HI.out w)) w) ?_
        refine held_pure 14 (some 45) (v := Value.pointer (some ⟨B, O + i * 4 + 3, none⟩)) rfl (by kernel_rfl) (by kernel_rfl) (by kernel_rfl) rfl (fun _ _ _ h => h) (wanted_none rfl) HS (fun w hS => (ro_field rfl (ev_eq (by decide)) (fun w => fa49 (by decide) w)) w) ?_
        refine held_pure 15 (some 46) (v := Value.int .i64 x.f3) rfl (by kernel_rfl) (by kernel_rfl) (by kernel_rfl) rfl (fun _ _ _ h => h) (wanted_none rfl) HS (fun w hS => (fun w => ro_load rfl (ev_eq (by decide)) (loadN (bcell hS HZ.out.2.2))) w) ?_
        refine held_call 16 (some 47) 14 #[Value.pointer (some ⟨b, 0, none⟩), Value.string x.f1, Value.int .i64 x.f2, Value.int .i64 x.f3] (by kernel_rfl) rfl rfl (wanted_none rfl) rfl (map4 (ev_ne (by decide) (ev_ne (by decide) (ev_ne (by decide) (ev_ne (by decide) (ev_ne (by decide) (ev_ne (by decide) (ev_ne (by decide) (ev_ne (by decide) (ev_ne (by decide) (ev_ne (by decide) (ev_ne (by decide) (ev_ne (by decide) (ev_ne (by decide) (ev_ne (by decide) (ev_ne (by decide) (ev_eq (by decide))))))))))))))))) (ev_ne (by decide) (ev_ne (by decide) (ev_ne (by decide) (ev_ne (by decide) (ev_ne (by decide) (ev_ne (by decide) (ev_ne (by decide) (ev_ne (by decide) (ev_ne (by decide) (ev_ne (by decide) (ev_eq (by decide)))))))))))) (ev_ne (by decide) (ev_ne (by decide) (ev_ne (by decide) (ev_ne (by decide) (ev_ne (by decide) (ev_eq (by decide))))))) (ev_eq (by decide))) (fun args w => by kernel_rfl) (inv_put (HA.out.below (pw_below_drewN (Below.refl _ _) 1)) x.f1 x.f2 x.f3 HSZ.out HQ.out) ?_
        rintro e u2 ⟨rfl, h⟩
        clear HA HS; have HA := Aside0.mk h; clear h
        refine ⟨_, rfl, HA.out.bel, fun HS => ?_⟩
        refine held_done (by kernel_rfl) ?_
        have hA := HAA.out
        subst hA
        simp only [Act.put, List.setIfInBounds_toArray, List.set_cons_zero, List.set_cons_succ]
        clear HAA HFr s0 s3 s4
        clear HS
        go_wp2_with fail
        go_roundg (xs.length - 1 - i)
        case measure => have := HD.out; omega
        case rel => exact ⟨i + 1, by go_num, ⟨by have := HD.out; omega⟩, ⟨by rw [HG.out, gstep, if_neg hq]; exact HA.out⟩⟩
    · have hin : xs.length = i := by have := HD.out; omega
      have h := HA.out
      rw [← hin, List.take_length] at h
      have HF := Aside0.mk h
      clear h HA
      go_wp2_with fail
      go_ret
      exact ⟨b, rfl, HF.out⟩
end Go.Proofs.Ytpchlnbnpgaocaa.PTrie
