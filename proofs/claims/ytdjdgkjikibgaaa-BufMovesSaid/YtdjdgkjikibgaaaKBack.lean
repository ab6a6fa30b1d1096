/- BufBack by hand. -/
import Derived.Test.YtdjdgkjikibgaaaKVal
import Derived.Test.YtdjdgkjikibgaaaKReg
namespace Go.Proofs.Ytdjdgkjikibgaaa.PBuf
open Go.Proofs.Ytdjdgkjikibgaaa.KReg Go.RowKit Go.Proofs.YtdjdgkjikibgaaaW.PrintWords Go.Proofs.YtdjdgkjikibgaaaW.PrintLast Go.Proofs.YtdjdgkjikibgaaaW.PrintMore
set_option linter.unusedVariables false
set_option linter.unusedSimpArgs false
theorem mid {n : Int} (h0 : 0 ≤ n) (h1 : n ≤ 1000000) : IntKind.i64.wrap n = n := by rw [i64_w]; exact MSum.w64 (by omega) (by omega)
theorem mid' {n : Int} (h0 : 0 ≤ n) (h1 : n ≤ 1000000) : wrap64 n = n := MSum.w64 (by omega) (by omega)
theorem back_f (S k m x : Nat) (hs : S ≤ 4000) (hk : k ≤ S) (hm : m ≤ 300) (hx : x ≤ S - k) : (wrap64 ((S : Int) + (m : Int)) = (S : Int) + (m : Int)) ∧ (IntKind.i64.wrap ((S : Int) + (m : Int)) = (S : Int) + (m : Int)) ∧ (wrap64 ((S : Int) - (k : Int)) = (S : Int) - (k : Int)) ∧ (IntKind.i64.wrap ((S : Int) - (k : Int)) = (S : Int) - (k : Int)) ∧ (wrap64 ((k : Int) + (x : Int)) = (k : Int) + (x : Int)) ∧ (IntKind.i64.wrap ((k : Int) + (x : Int)) = (k : Int) + (x : Int)) := by
  refine ⟨mid' (by omega) (by omega), mid (by omega) (by omega), mid' (by omega) (by omega), mid (by omega) (by omega), mid' (by omega) (by omega), mid (by omega) (by omega)⟩
theorem u64_byte (b : UInt8) : IntKind.u64.wrap (b.toNat : Int) = (b.toNat : Int) := by
  have := b.toNat_lt
  simp [IntKind.wrap, IntKind.signed, IntKind.bits]; omega
theorem back_i (S k x i : Nat) (hs : S ≤ 4000) (hk : k + x ≤ S) (hi : i < x) : wrap64 ((k : Int) + (i : Int)) = (k : Int) + (i : Int) ∧ IntKind.i64.wrap ((k : Int) + (i : Int)) = (k : Int) + (i : Int) ∧ wrap64 (8 * ((k : Int) + (i : Int))) = 8 * ((k : Int) + (i : Int)) ∧
    IntKind.i64.wrap (8 * ((k : Int) + (i : Int))) = 8 * ((k : Int) + (i : Int)) ∧ (0 : Int) ≤ (k : Int) + (i : Int) ∧ (k : Int) + (i : Int) < (S : Int) ∧ ((k : Int) + (i : Int)).toNat = k + i ∧ k + i < S :=
  ⟨mid' (by omega) (by omega), mid (by omega) (by omega), mid' (by omega) (by omega), mid (by omega) (by omega), by omega, by omega, by omega, by omega⟩
section
variable {w u : World} {p : Nat} {D : List UInt8}
theorem at_textv (h : At w u p D) (s : ByteArray) (hs : KBuf.txt D = s) : Calls Try.prog 17 #[.pointer (some ⟨p, 0, none⟩)] u fun e u' => e = .returned (.string s) ∧ At w u' p D := by
  subst hs; exact at_text h
theorem at_lenv (h : At w u p D) (n : Int) (hn : (D.length : Int) = n) : Calls Try.prog 15 #[.pointer (some ⟨p, 0, none⟩)] u fun e u' => e = .returned (.int .i64 n) ∧ At w u' p D := by
  subst hn; exact at_len h
theorem At.drew {w u : World} {p : Nat} {D : List UInt8} (h : At w u p D) : At w u.drew p D := h.below (pw_below_drewN (Below.refl _ _) 1)
theorem at_get0 (h : At w u p D) (i : Nat) {oi : Int} (hoi : oi = ((8 * i : Nat) : Int)) (hi : i < D.length) (hz : D.getD i 0 = 0) :
    Calls Try.prog 18 #[.pointer (some ⟨p, 0, none⟩), .int .i64 oi, .int .i64 8] u fun e u' => e = .returned (.tuple #[.agg #[.int .u64 0, .int .u64 0], .int .i64 0]) ∧ At w u' p D := by
  have hv : MWin.val D (8 * i) 8 = 0 := by
    unfold MWin.val
    rw [MField.num_byte _ _ 8 (Nat.le_refl 8), MWin.bN_list, hz]; rfl
  exact at_get h (8 * i) 8 hoi rfl (by omega) (by omega) (by omega) 0 hv
end
theorem ins_del (L : List UInt8) (k m : Nat) (hk : k ≤ L.length) : (L.take k ++ List.replicate m 0 ++ L.drop k).take k ++ (L.take k ++ List.replicate m 0 ++ L.drop k).drop (k + m) = L := by
  have hl : (L.take k).length = k := by rw [List.length_take]; omega
  have e1 : (L.take k ++ List.replicate m 0 ++ L.drop k).take k = L.take k := by rw [List.append_assoc]; exact List.take_left' hl
  have e2 : (L.take k ++ List.replicate m 0 ++ L.drop k).drop (k + m) = L.drop k := List.drop_left' (by rw [List.length_append, hl, List.length_replicate])
  rw [e1, e2, List.take_append_drop]
theorem del_ins (L : List UInt8) (k x : Nat) (hk : k ≤ L.length) : (L.take k ++ L.drop (k + x)).take k ++ List.replicate x 0 ++ (L.take k ++ L.drop (k + x)).drop k = L.take (k + 0) ++ List.replicate (x - 0) 0 ++ L.drop (k + x) := by
  have hl : (L.take k).length = k := by rw [List.length_take]; omega
  rw [List.take_left' hl, List.drop_left' hl]; rfl
theorem cut_text (s : ByteArray) (k x : Nat) (h : k + x ≤ s.size) : KBuf.txt (s.data.toList.take k ++ s.data.toList.drop (k + x)) = s.extract 0 k ++ s.extract (k + x) s.size := by
  have e : (s.extract 0 k ++ s.extract (k + x) s.size).data.toList = s.data.toList.take k ++ s.data.toList.drop (k + x) := by
    have e1 : (s.extract 0 k).data.toList = s.data.toList.take k := by rw [ByteArray.data_extract, Array.toList_extract, List.extract_eq_take_drop]; simp
    have e2 : (s.extract (k + x) s.size).data.toList = s.data.toList.drop (k + x) := by
      rw [ByteArray.data_extract, Array.toList_extract, List.extract_eq_take_drop, List.take_of_length_le]
      rw [List.length_drop]; show s.data.size - _ ≤ s.data.size - _; omega
    rw [← e1, ← e2]; simp
  rw [← e, KBuf.txt_data]
/-- The text when i bytes are written again. -/
def backD (L : List UInt8) (k x i : Nat) : List UInt8 := L.take (k + i) ++ List.replicate (x - i) 0 ++ L.drop (k + x)
theorem backD_len (L : List UInt8) (k x i : Nat) (h : k + x ≤ L.length) (hi : i ≤ x) : (backD L k x i).length = L.length := by
  unfold backD; rw [List.length_append, List.length_append, List.length_take, List.length_replicate, List.length_drop]; omega
theorem backD_zero (L : List UInt8) (k x i : Nat) (h : k + x ≤ L.length) (hi : i < x) : (backD L k x i).getD (k + i) 0 = 0 := by
  have hl : (L.take (k + i)).length = k + i := by rw [List.length_take]; omega
  unfold backD
  rw [List.getD_eq_getElem?_getD, List.append_assoc, List.getElem?_append_right (by omega), hl, Nat.sub_self, List.getElem?_append_left (by rw [List.length_replicate]; omega), List.getElem?_replicate, if_pos (by omega)]; rfl
theorem backD_next (L : List UInt8) (k x i : Nat) (h : k + x ≤ L.length) (hi : i < x) (b : UInt8) (hb : L[k + i]? = some b) : (backD L k x i).take (k + i) ++ [b] ++ (backD L k x i).drop (k + i + 1) = backD L k x (i + 1) := by
  have hl : (L.take (k + i)).length = k + i := by rw [List.length_take]; omega
  have e1 : (backD L k x i).take (k + i) = L.take (k + i) := by unfold backD; rw [List.append_assoc]; exact List.take_left' hl
  have e2 : (backD L k x i).drop (k + i + 1) = List.replicate (x - (i + 1)) 0 ++ L.drop (k + x) := by
    unfold backD
    rw [show x - i = (x - (i + 1)) + 1 by omega, List.replicate_succ, show L.take (k + i) ++ (0 :: List.replicate (x - (i + 1)) 0) ++ L.drop (k + x) = (L.take (k + i) ++ [0]) ++ (List.replicate (x - (i + 1)) 0 ++ L.drop (k + x)) by simp]
    exact List.drop_left' (by rw [List.length_append, hl]; rfl)
  rw [e1, e2]
  unfold backD
  rw [show k + (i + 1) = k + i + 1 by omega, List.take_add_one, hb]
  simp
theorem backD_end (L : List UInt8) (k x : Nat) (h : k + x ≤ L.length) : backD L k x x = L := by
  unfold backD; rw [Nat.sub_self]; simp
theorem back_put (s : ByteArray) (k x i : Nat) (h : k + x ≤ s.size) (hi : i < x) (g : k + i < s.size) :
    (backD s.data.toList k x i).take (k + i) ++ [UInt8.ofNat (s[k + i]).toNat] ++ (backD s.data.toList k x i).drop (k + i + 1) = backD s.data.toList k x (i + 1) := by
  refine backD_next _ _ _ _ (by rw [data_length]; exact h) hi _ ?_
  rw [UInt8.ofNat_toNat, List.getElem?_eq_getElem (by rw [data_length]; exact g)]; rfl
set_option maxHeartbeats 8000000 in
set_option maxRecDepth 100000 in
theorem back_big (s : ByteArray) (a n : Int) (w : World) (hs : s.size ≤ 140737488351232) (hbig : 4000 < s.size) : Calls Try.prog 3 #[.string s, .int .i64 a, .int .i64 n] w fun e w' => e = .returned (.bool true) ∧ Below w.heap.size w w' := by
  have h1 : decide ((s.size : Int) > 4000) = true := decide_eq_true (by omega)
  go_enter Try.func3, Try.ntmps3
  go_wp2_with fail
  go_at_call 11
  (with_reducible refine (awake_ok _).mono ?_)
  rintro e u ⟨rfl, hb⟩
  have HB := Aside0.mk hb
  clear hb
  go_wp2_with fail
  go_ret
  exact ⟨rfl, HB.out⟩
set_option maxHeartbeats 0 in
set_option maxRecDepth 100000 in
theorem back_ok (s : ByteArray) (a n : Int) (w : World) (hs : s.size ≤ 4000) : Calls Try.prog 3 #[.string s, .int .i64 a, .int .i64 n] w fun e w' => e = .returned (.bool true) ∧ Below w.heap.size w w' := by
  have h1 : decide ((s.size : Int) > 4000) = false := decide_eq_false (by omega)
  obtain ⟨k, hk, hk'⟩ := within_ev a s.size (by omega)
  obtain ⟨m, hm, hm'⟩ := within_ev n 300 (by omega)
  obtain ⟨x, hx, hx'⟩ := within_ev n (s.size - k) (by omega)
  obtain ⟨c1, c2, c3, c4, c5, c6⟩ := back_f s.size k m x hs hk hm hx
  have g1 : (0 : Int) ≤ (k : Int) + (x : Int) := by omega
  have g2 : (k : Int) + (x : Int) ≤ (s.size : Int) := by omega
  have g3 : ((k : Int) + (x : Int)).toNat = k + x := by omega
  have g4 : (k : Int) ≤ (s.size : Int) := by omega
  have g5 : min k s.size + (s.size - (k + x)) ≤ 9223372036854775807 := by omega
  have HK := Aside0.mk hk'
  have HM := Aside0.mk hm'
  have HX := Aside0.mk hx'
  have hL : s.data.toList.length = s.size := data_length s
  have HF := Aside0.mk (And.intro hs (And.intro hk (And.intro hm (And.intro hx hL))))
  clear hk' hm' hx' hk hx hm hL hs
  go_enter Try.func3, Try.ntmps3
  go_wp2_with fail
  go_at_call 11
  (with_reducible refine (awake_ok _).mono ?_)
  rintro e u ⟨rfl, hb⟩
  have HB := Aside0.mk hb
  clear hb
  go_wp2_with fail
  go_at_call 12
  (with_reducible refine (within_c a s.size (by rfl) _ HK.out).mono ?_)
  rintro e u1 ⟨rfl, hb⟩
  have HB' := Aside0.mk (below_step HB.out hb); clear hb HB; have HB := HB'; clear HB'
  go_wp2_with fail
  go_at_call 12
  (with_reducible refine (within_c n 300 (by omega) _ HM.out).mono ?_)
  rintro e u2 ⟨rfl, hb⟩
  have HB' := Aside0.mk (below_step HB.out hb); clear hb HB; have HB := HB'; clear HB'
  go_wp2_with fail
  go_at_call 13
  (with_reducible refine (of_at s w _ HB.out (by have := HF.out; omega)).mono ?_)
  rintro e u3 ⟨p, rfl, h⟩
  have HA := Aside0.mk h
  clear h
  go_wp2_with fail
  go_at_call 14
  (with_reducible refine (at_ins HA.out k m rfl rfl (by have := HF.out; omega) (by have := HF.out; omega) _ rfl).mono ?_)
  clear HA; rintro e u4 ⟨rfl, h⟩; have HA := Aside0.mk h; clear h
  go_wp2_with fail
  go_at_call 15
  (with_reducible refine (at_lenv HA.out ((s.size : Int) + (m : Int)) (by have := HF.out; simp only [List.length_append, List.length_take, List.length_drop, List.length_replicate]; omega)).mono ?_)
  clear HA; rintro e u5 ⟨rfl, h⟩; have HA := Aside0.mk h; clear h
  go_wp2_with fail
  go_at_call 16
  (with_reducible refine (at_del HA.out k m rfl rfl (by have := HF.out; simp only [List.length_append, List.length_take, List.length_drop, List.length_replicate]; omega) _ (ins_del s.data.toList k m (by have := HF.out; omega))).mono ?_)
  clear HA; rintro e u6 ⟨rfl, h⟩; have HA := Aside0.mk h; clear h
  go_wp2_with fail
  go_at_call 17
  (with_reducible refine (at_textv HA.out s (KBuf.txt_data s)).mono ?_)
  clear HA; rintro e u7 ⟨rfl, h⟩; have HA := Aside0.mk h; clear h
  go_wp2_with fail
  go_at_call 12
  (with_reducible refine (within_c n (s.size - k) (by have := HF.out; omega) _ HX.out).mono ?_)
  rintro e u8 ⟨rfl, hb⟩
  have h := HA.out.below hb; clear hb HA; have HA := Aside0.mk h; clear h
  go_wp2_with fail
  have h := HA.out.drew; clear HA; have HA := Aside0.mk h; clear h
  have HE : Aside0 (KBuf.txt (s.data.toList.take k ++ s.data.toList.drop (k + x)) = s.extract 0 k ++ s.extract (k + x) s.size) := ⟨cut_text s k x (by have := HF.out; omega)⟩
  refine wp_region_any (by kernel_rfl) ?_
  change wpAny _ _ _ _ _ _ _ (World.drew _)
  refine any_var (fun A hA => ?_)
  have s0 : A.eval (.tmp 0) = Value.string s := by rw [hA]; rfl
  have s7 : A.eval (.tmp 7) = Value.int .i64 (k : Int) := by rw [hA]; rfl
  have s8 : A.eval (.tmp 8) = Value.int .i64 (x : Int) := by rw [hA]; rfl
  have s9 : A.eval (.tmp 9) = Value.pointer (some ⟨p, 0, none⟩) := by rw [hA]; rfl
  haveI HFr : Fr 140 A := ⟨by rw [hA]; exact Nat.le_refl _⟩
  have HAA := Aside0.mk hA
  clear hA
  refine reg_pure 0 (some 66) (v := Value.pointer (some ⟨p, 0, none⟩)) rfl (by kernel_rfl) (by kernel_rfl) (by kernel_rfl) rfl (fun _ _ _ h => h) (wanted_none rfl) (ro_move (.inl rfl) s9) ?_
  refine reg_pure 1 (some 67) (v := Value.int .i64 (k : Int)) rfl (by kernel_rfl) (by kernel_rfl) (by kernel_rfl) rfl (fun _ _ _ h => h) (wanted_none rfl) (ro_move (.inl rfl) (ev_ne (by decide) s7)) ?_
  refine reg_pure 2 (some 68) (v := Value.int .i64 (x : Int)) rfl (by kernel_rfl) (by kernel_rfl) (by kernel_rfl) rfl (fun _ _ _ h => h) (wanted_none rfl) (ro_move (.inl rfl) (ev_ne (by decide) (ev_ne (by decide) s8))) ?_
  refine reg_call 3 (some 69) 16 #[Value.pointer (some ⟨p, 0, none⟩), Value.int .i64 (k : Int), Value.int .i64 (x : Int)] (by kernel_rfl) rfl rfl (wanted_none rfl) rfl (map3 (ev_ne (by decide) (ev_ne (by decide) (ev_eq (by decide)))) (ev_ne (by decide) (ev_eq (by decide))) (ev_eq (by decide))) (fun args w => by kernel_rfl) (at_del HA.out k x rfl rfl (by have := HF.out; omega) _ rfl) ?_
  rintro e v1 ⟨rfl, h⟩
  clear HA; have HA := Aside0.mk h; clear h
  refine ⟨_, rfl, ?_⟩
  refine reg_pure 4 (some 70) (v := Value.bool false) rfl (by kernel_rfl) (by kernel_rfl) (by kernel_rfl) rfl (fun _ _ _ h => h) (wanted_none rfl) (ro_bin rfl (ev_eq (by decide)) rfl (fun w => by go_simp)) ?_
  refine reg_pure 5 (some 71) (v := Value.bool false) rfl (by kernel_rfl) (by kernel_rfl) (by kernel_rfl) rfl (fun _ _ _ h => h) (wanted_none rfl) (ro_move (.inl rfl) (ev_eq (by decide))) ?_
  refine reg_pure 6 (some 72) (v := Value.pointer (some ⟨p, 0, none⟩)) rfl (by kernel_rfl) (by kernel_rfl) (by kernel_rfl) rfl (fun _ _ _ h => h) (wanted_of rfl rfl rfl (ev_eq (by decide))) (ro_move (.inl rfl) (ev_ne (by decide) (ev_ne (by decide) (ev_ne (by decide) (ev_ne (by decide) (ev_ne (by decide) (ev_ne (by decide) s9))))))) ?_
  refine reg_pure 8 (some 74) (v := Value.string s) rfl (by kernel_rfl) (by kernel_rfl) (by kernel_rfl) rfl (fun _ _ _ h => h) (wanted_of rfl rfl rfl (ev_ne (by decide) (ev_eq (by decide)))) (ro_move (.inl rfl) (ev_ne (by decide) (ev_ne (by decide) (ev_ne (by decide) (ev_ne (by decide) (ev_ne (by decide) (ev_ne (by decide) (ev_ne (by decide) s0)))))))) ?_
  refine reg_pure 9 (some 75) (v := Value.int .i64 (k : Int)) rfl (by kernel_rfl) (by kernel_rfl) (by kernel_rfl) rfl (fun _ _ _ h => h) (wanted_of rfl rfl rfl (ev_ne (by decide) (ev_ne (by decide) (ev_eq (by decide))))) (ro_move (.inl rfl) (ev_ne (by decide) (ev_ne (by decide) (ev_ne (by decide) (ev_ne (by decide) (ev_ne (by decide) (ev_ne (by decide) (ev_ne (by decide) (ev_ne (by decide) s7))))))))) ?_
  refine reg_pure 10 (some 76) (v := Value.string (s.extract 0 k)) rfl (by kernel_rfl) (by kernel_rfl) (by kernel_rfl) rfl (fun _ _ _ h => h) (wanted_of rfl rfl rfl (ev_ne (by decide) (ev_ne (by decide) (ev_ne (by decide) (ev_eq (by decide)))))) (ro_slice rfl (ev_ne (by decide) (ev_eq (by decide))) rfl (congrArg some (ev_eq (by decide))) (fun w => by go_simp)) ?_
  refine reg_pure 11 (some 77) (v := Value.string s) rfl (by kernel_rfl) (by kernel_rfl) (by kernel_rfl) rfl (fun _ _ _ h => h) (wanted_of rfl rfl rfl (ev_ne (by decide) (ev_ne (by decide) (ev_ne (by decide) (ev_ne (by decide) (ev_eq (by decide))))))) (ro_move (.inl rfl) (ev_ne (by decide) (ev_ne (by decide) (ev_ne (by decide) (ev_ne (by decide) (ev_ne (by decide) (ev_ne (by decide) (ev_ne (by decide) (ev_ne (by decide) (ev_ne (by decide) (ev_ne (by decide) s0))))))))))) ?_
  refine reg_pure 12 (some 78) (v := Value.int .i64 (k : Int)) rfl (by kernel_rfl) (by kernel_rfl) (by kernel_rfl) rfl (fun _ _ _ h => h) (wanted_of rfl rfl rfl (ev_ne (by decide) (ev_ne (by decide) (ev_ne (by decide) (ev_ne (by decide) (ev_ne (by decide) (ev_eq (by decide)))))))) (ro_move (.inl rfl) (ev_ne (by decide) (ev_ne (by decide) (ev_ne (by decide) (ev_ne (by decide) (ev_ne (by decide) (ev_ne (by decide) (ev_ne (by decide) (ev_ne (by decide) (ev_ne (by decide) (ev_ne (by decide) (ev_ne (by decide) s7)))))))))))) ?_
  refine reg_pure 13 (some 79) (v := Value.int .i64 (x : Int)) rfl (by kernel_rfl) (by kernel_rfl) (by kernel_rfl) rfl (fun _ _ _ h => h) (wanted_of rfl rfl rfl (ev_ne (by decide) (ev_ne (by decide) (ev_ne (by decide) (ev_ne (by decide) (ev_ne (by decide) (ev_ne (by decide) (ev_eq (by decide))))))))) (ro_move (.inl rfl) (ev_ne (by decide) (ev_ne (by decide) (ev_ne (by decide) (ev_ne (by decide) (ev_ne (by decide) (ev_ne (by decide) (ev_ne (by decide) (ev_ne (by decide) (ev_ne (by decide) (ev_ne (by decide) (ev_ne (by decide) (ev_ne (by decide) s8))))))))))))) ?_
  refine reg_pure 14 (some 80) (v := Value.int .i64 ((k : Int) + (x : Int))) rfl (by kernel_rfl) (by kernel_rfl) (by kernel_rfl) rfl (fun _ _ _ h => h) (wanted_of rfl rfl rfl (ev_ne (by decide) (ev_ne (by decide) (ev_ne (by decide) (ev_ne (by decide) (ev_ne (by decide) (ev_ne (by decide) (ev_ne (by decide) (ev_eq (by decide)))))))))) (ro_bin rfl (ev_ne (by decide) (ev_eq (by decide))) (ev_eq (by decide)) (fun w => by go_simp)) ?_
  refine reg_pure 15 (some 81) (v := Value.string (s.extract (k + x) s.size)) rfl (by kernel_rfl) (by kernel_rfl) (by kernel_rfl) rfl (fun _ _ _ h => h) (wanted_of rfl rfl rfl (ev_ne (by decide) (ev_ne (by decide) (ev_ne (by decide) (ev_ne (by decide) (ev_ne (by decide) (ev_ne (by decide) (ev_ne (by decide) (ev_ne (by decide) (ev_eq (by decide))))))))))) (ro_slice rfl (ev_ne (by decide) (ev_ne (by decide) (ev_ne (by decide) (ev_eq (by decide))))) (congrArg some (ev_eq (by decide))) rfl (fun w => by go_simp)) ?_
  refine reg_pure 16 (some 82) (v := Value.string (s.extract 0 k ++ s.extract (k + x) s.size)) rfl (by kernel_rfl) (by kernel_rfl) (by kernel_rfl) rfl (fun _ _ _ h => h) (wanted_of rfl rfl rfl (ev_ne (by decide) (ev_ne (by decide) (ev_ne (by decide) (ev_ne (by decide) (ev_ne (by decide) (ev_ne (by decide) (ev_ne (by decide) (ev_ne (by decide) (ev_ne (by decide) (ev_eq (by decide)))))))))))) (ro_bin rfl (ev_ne (by decide) (ev_ne (by decide) (ev_ne (by decide) (ev_ne (by decide) (ev_ne (by decide) (ev_eq (by decide))))))) (ev_eq (by decide)) (fun w => by go_simp)) ?_
  refine reg_call 7 (some 73) 17 #[Value.pointer (some ⟨p, 0, none⟩)] (by kernel_rfl) rfl rfl (wanted_of rfl rfl rfl (ev_ne (by decide) (ev_ne (by decide) (ev_ne (by decide) (ev_ne (by decide) (ev_ne (by decide) (ev_ne (by decide) (ev_ne (by decide) (ev_ne (by decide) (ev_ne (by decide) (ev_ne (by decide) (ev_eq (by decide))))))))))))) rfl (map1 (ev_ne (by decide) (ev_ne (by decide) (ev_ne (by decide) (ev_ne (by decide) (ev_ne (by decide) (ev_ne (by decide) (ev_ne (by decide) (ev_ne (by decide) (ev_ne (by decide) (ev_eq (by decide)))))))))))) (fun args w => by kernel_rfl) (at_textv HA.out _ HE.out) ?_
  rintro e v2 ⟨rfl, h⟩
  clear HA; have HA := Aside0.mk h; clear h
  refine ⟨_, rfl, ?_⟩
  refine reg_pure 17 (some 83) (v := Value.bool false) rfl (by kernel_rfl) (by kernel_rfl) (by kernel_rfl) rfl (fun _ _ _ h => h) (wanted_of rfl rfl rfl (ev_ne (by decide) (ev_ne (by decide) (ev_ne (by decide) (ev_ne (by decide) (ev_ne (by decide) (ev_ne (by decide) (ev_ne (by decide) (ev_ne (by decide) (ev_ne (by decide) (ev_ne (by decide) (ev_ne (by decide) (ev_eq (by decide)))))))))))))) (ro_bin rfl (ev_eq (by decide)) (ev_ne (by decide) (ev_eq (by decide))) (fun w => by go_simp)) ?_
  refine reg_pure 18 (some 84) (v := Value.bool false) rfl (by kernel_rfl) (by kernel_rfl) (by kernel_rfl) rfl (fun _ _ _ h => h) (wanted_none rfl) (ro_pickf rfl (ev_ne (by decide) (ev_ne (by decide) (ev_ne (by decide) (ev_ne (by decide) (ev_ne (by decide) (ev_ne (by decide) (ev_ne (by decide) (ev_ne (by decide) (ev_ne (by decide) (ev_ne (by decide) (ev_ne (by decide) (ev_ne (by decide) (ev_eq (by decide)))))))))))))) (ev_eq (by decide))) ?_
  refine reg_pure 19 (some 85) (v := Value.bool false) rfl (by kernel_rfl) (by kernel_rfl) (by kernel_rfl) rfl (fun _ _ _ h => h) (wanted_none rfl) (ro_move (.inl rfl) (ev_eq (by decide))) ?_
  refine reg_pure 20 (some 86) (v := Value.pointer (some ⟨p, 0, none⟩)) rfl (by kernel_rfl) (by kernel_rfl) (by kernel_rfl) rfl (fun _ _ _ h => h) (wanted_of rfl rfl rfl (ev_eq (by decide))) (ro_move (.inl rfl) (ev_ne (by decide) (ev_ne (by decide) (ev_ne (by decide) (ev_ne (by decide) (ev_ne (by decide) (ev_ne (by decide) (ev_ne (by decide) (ev_ne (by decide) (ev_ne (by decide) (ev_ne (by decide) (ev_ne (by decide) (ev_ne (by decide) (ev_ne (by decide) (ev_ne (by decide) (ev_ne (by decide) (ev_ne (by decide) (ev_ne (by decide) (ev_ne (by decide) (ev_ne (by decide) (ev_ne (by decide) s9))))))))))))))))))))) ?_
  refine reg_pure 21 (some 87) (v := Value.int .i64 (k : Int)) rfl (by kernel_rfl) (by kernel_rfl) (by kernel_rfl) rfl (fun _ _ _ h => h) (wanted_of rfl rfl rfl (ev_ne (by decide) (ev_eq (by decide)))) (ro_move (.inl rfl) (ev_ne (by decide) (ev_ne (by decide) (ev_ne (by decide) (ev_ne (by decide) (ev_ne (by decide) (ev_ne (by decide) (ev_ne (by decide) (ev_ne (by decide) (ev_ne (by decide) (ev_ne (by decide) (ev_ne (by decide) (ev_ne (by decide) (ev_ne (by decide) (ev_ne (by decide) (ev_ne (by decide) (ev_ne (by decide) (ev_ne (by decide) (ev_ne (by decide) (ev_ne (by decide) (ev_ne (by decide) (ev_ne (by decide) s7)))))))))))))))))))))) ?_
  refine reg_pure 22 (some 88) (v := Value.int .i64 (x : Int)) rfl (by kernel_rfl) (by kernel_rfl) (by kernel_rfl) rfl (fun _ _ _ h => h) (wanted_of rfl rfl rfl (ev_ne (by decide) (ev_ne (by decide) (ev_eq (by decide))))) (ro_move (.inl rfl) (ev_ne (by decide) (ev_ne (by decide) (ev_ne (by decide) (ev_ne (by decide) (ev_ne (by decide) (ev_ne (by decide) (ev_ne (by decide) (ev_ne (by decide) (ev_ne (by decide) (ev_ne (by decide) (ev_ne (by decide) (ev_ne (by decide) (ev_ne (by decide) (ev_ne (by decide) (ev_ne (by decide) (ev_ne (by decide) (ev_ne (by decide) (ev_ne (by decide) (ev_ne (by decide) (ev_ne (by decide) (ev_ne (by decide) (ev_ne (by decide) s8))))))))))))))))))))))) ?_
  refine reg_call 23 (some 89) 14 #[Value.pointer (some ⟨p, 0, none⟩), Value.int .i64 (k : Int), Value.int .i64 (x : Int)] (by kernel_rfl) rfl rfl (wanted_of rfl rfl rfl (ev_ne (by decide) (ev_ne (by decide) (ev_ne (by decide) (ev_eq (by decide)))))) rfl (map3 (ev_ne (by decide) (ev_ne (by decide) (ev_eq (by decide)))) (ev_ne (by decide) (ev_eq (by decide))) (ev_eq (by decide))) (fun args w => by kernel_rfl) (at_ins HA.out k x rfl rfl (by have := HF.out; simp only [List.length_append, List.length_take, List.length_drop]; omega) (by have := HF.out; simp only [List.length_append, List.length_take, List.length_drop]; omega) (backD s.data.toList k x 0) (del_ins s.data.toList k x (by have := HF.out; omega))) ?_
  rintro e v3 ⟨rfl, h⟩
  clear HA; have HA := Aside0.mk h; clear h
  refine ⟨_, rfl, ?_⟩
  refine reg_pure 24 (some 90) (v := Value.bool false) rfl (by kernel_rfl) (by kernel_rfl) (by kernel_rfl) rfl (fun _ _ _ h => h) (wanted_of rfl rfl rfl (ev_ne (by decide) (ev_ne (by decide) (ev_ne (by decide) (ev_ne (by decide) (ev_eq (by decide))))))) (ro_bin rfl (ev_eq (by decide)) rfl (fun w => by go_simp)) ?_
  refine reg_pure 25 (some 91) (v := Value.bool false) rfl (by kernel_rfl) (by kernel_rfl) (by kernel_rfl) rfl (fun _ _ _ h => h) (wanted_none rfl) (ro_pickf rfl (ev_ne (by decide) (ev_ne (by decide) (ev_ne (by decide) (ev_ne (by decide) (ev_ne (by decide) (ev_eq (by decide))))))) (ev_eq (by decide))) ?_
  refine reg_pure 26 (some 92) (v := Value.bool false) rfl (by kernel_rfl) (by kernel_rfl) (by kernel_rfl) rfl (fun _ _ _ h => h) (wanted_none rfl) (ro_move (.inl rfl) (ev_eq (by decide))) ?_
  refine reg_pure 27 (some 93) (v := Value.pointer (some ⟨p, 0, none⟩)) rfl (by kernel_rfl) (by kernel_rfl) (by kernel_rfl) rfl (fun _ _ _ h => h) (wanted_of rfl rfl rfl (ev_eq (by decide))) (ro_move (.inl rfl) (ev_ne (by decide) (ev_ne (by decide) (ev_ne (by decide) (ev_ne (by decide) (ev_ne (by decide) (ev_ne (by decide) (ev_ne (by decide) (ev_ne (by decide) (ev_ne (by decide) (ev_ne (by decide) (ev_ne (by decide) (ev_ne (by decide) (ev_ne (by decide) (ev_ne (by decide) (ev_ne (by decide) (ev_ne (by decide) (ev_ne (by decide) (ev_ne (by decide) (ev_ne (by decide) (ev_ne (by decide) (ev_ne (by decide) (ev_ne (by decide) (ev_ne (by decide) (ev_ne (by decide) (ev_ne (by decide) (ev_ne (by decide) (ev_ne (by decide) s9)))))))))))))))))))))))))))) ?_
  refine reg_pure 29 (some 95) (v := Value.string s) rfl (by kernel_rfl) (by kernel_rfl) (by kernel_rfl) rfl (fun _ _ _ h => h) (wanted_of rfl rfl rfl (ev_ne (by decide) (ev_eq (by decide)))) (ro_move (.inl rfl) (ev_ne (by decide) (ev_ne (by decide) (ev_ne (by decide) (ev_ne (by decide) (ev_ne (by decide) (ev_ne (by decide) (ev_ne (by decide) (ev_ne (by decide) (ev_ne (by decide) (ev_ne (by decide) (ev_ne (by decide) (ev_ne (by decide) (ev_ne (by decide) (ev_ne (by decide) (ev_ne (by decide) (ev_ne (by decide) (ev_ne (by decide) (ev_ne (by decide) (ev_ne (by decide) (ev_ne (by decide) (ev_ne (by decide) (ev_ne (by decide) (ev_ne (by decide) (ev_ne (by decide) (ev_ne (by decide) (ev_ne (by decide) (ev_ne (by decide) (ev_ne (by decide) s0))))))))))))))))))))))))))))) ?_
  refine reg_pure 30 (some 96) (v := Value.int .i64 (s.size : Int)) rfl (by kernel_rfl) (by kernel_rfl) (by kernel_rfl) rfl (fun _ _ _ h => h) (wanted_of rfl rfl rfl (ev_ne (by decide) (ev_ne (by decide) (ev_eq (by decide))))) (ro_len rfl (ev_eq (by decide)) (fun w => by go_simp)) ?_
  refine reg_call 28 (some 94) 15 #[Value.pointer (some ⟨p, 0, none⟩)] (by kernel_rfl) rfl rfl (wanted_of rfl rfl rfl (ev_ne (by decide) (ev_ne (by decide) (ev_ne (by decide) (ev_eq (by decide)))))) rfl (map1 (ev_ne (by decide) (ev_ne (by decide) (ev_eq (by decide))))) (fun args w => by kernel_rfl) (at_lenv HA.out (s.size : Int) (by have := HF.out; rw [backD_len _ _ _ _ (by omega) (by omega)]; omega)) ?_
  rintro e v4 ⟨rfl, h⟩
  clear HA; have HA := Aside0.mk h; clear h
  refine ⟨_, rfl, ?_⟩
  refine reg_pure 31 (some 97) (v := Value.bool false) rfl (by kernel_rfl) (by kernel_rfl) (by kernel_rfl) rfl (fun _ _ _ h => h) (wanted_of rfl rfl rfl (ev_ne (by decide) (ev_ne (by decide) (ev_ne (by decide) (ev_ne (by decide) (ev_eq (by decide))))))) (ro_bin rfl (ev_eq (by decide)) (ev_ne (by decide) (ev_eq (by decide))) (fun w => by go_simp)) ?_
  refine reg_pure 32 (some 98) (v := Value.bool false) rfl (by kernel_rfl) (by kernel_rfl) (by kernel_rfl) rfl (fun _ _ _ h => h) (wanted_none rfl) (ro_pickf rfl (ev_ne (by decide) (ev_ne (by decide) (ev_ne (by decide) (ev_ne (by decide) (ev_ne (by decide) (ev_eq (by decide))))))) (ev_eq (by decide))) ?_
  refine reg_done (by kernel_rfl) ?_
  have hA := HAA.out
  subst hA
  simp only [Act.put, List.setIfInBounds_toArray, List.set_cons_zero, List.set_cons_succ]
  clear HAA HFr s0 s7 s8 s9
  go_wp2_with fail
  go_loopg [10] x (fun d v10 wr => ∃ i : Nat, v10 = .int .i64 i ∧ Aside0 (i + d = x) ∧ Aside0 (At w wr p (backD s.data.toList k x i)))
  case atStart => exact ⟨0, rfl, ⟨by omega⟩, HA⟩
  case round =>
    clear HA HE c1 c2 c3 c4 c5 c6 g1 g2 g3 g4 g5
    obtain ⟨i, hv, HD, HA⟩ := hrel
    subst hv
    by_cases hi : i < x
    · obtain ⟨c1, c2, c3, c4, g1, g2, g3, g4⟩ := back_i s.size k x i HF.out.1 (by have := HF.out; omega) hi
      have HI := Aside0.mk hi
      have hxb : x ≤ 4000 := by have := HF.out; omega
      go_wp2_with fail
      go_at_call 18
      (with_reducible refine (at_get0 HA.out (k + i) (by push_cast; rfl) (by have := HF.out; have := HI.out; rw [backD_len _ _ _ _ (by omega) (by omega)]; omega) (backD_zero _ _ _ _ (by have := HF.out; omega) HI.out)).mono ?_)
      clear HA; rintro e v5 ⟨rfl, h⟩; have HA := Aside0.mk h; clear h
      go_wp2_with fail
      have h := HA.out.below (below_alloc (Below.refl _ _) (.cells #[.int .u64 0, .int .u64 0] 32)); clear HA; have HA := Aside0.mk h; clear h
      go_at_call 19
      (with_reducible refine (at_put1 HA.out (k + i) (s[k + i]).toNat (by push_cast; rfl) (u64_byte _) (UInt8.toNat_lt _) (by have := HF.out; have := HI.out; rw [backD_len _ _ _ _ (by omega) (by omega)]; omega) _ (back_put s k x i (by have := HF.out; omega) HI.out g4)).mono ?_)
      clear HA; rintro e v6 ⟨rfl, h⟩; have HA := Aside0.mk h; clear h
      go_wp2_with fail
      go_roundg (x - 1 - i)
      case measure => have := HD.out; have := HI.out; omega
      case rel => exact ⟨i + 1, by go_num, ⟨by have := HD.out; have := HI.out; omega⟩, HA⟩
    · obtain rfl : i = x := by have := HD.out; omega
      have h := HA.out
      rw [backD_end _ _ _ (by have := HF.out; omega)] at h
      clear HA; have HA := Aside0.mk h; clear h
      go_wp2_with fail
      go_at_call 17
      (with_reducible refine (at_textv HA.out s (KBuf.txt_data s)).mono ?_)
      clear HA; rintro e v7 ⟨rfl, h⟩; have HA := Aside0.mk h; clear h
      go_wp2_with fail
      go_ret
      exact ⟨rfl, HA.out.bel⟩
theorem bufBack (s : ByteArray) (a n : Int) (w : World) (hs : s.size ≤ 140737488351232) : Calls Try.prog 3 #[.string s, .int .i64 a, .int .i64 n] w fun e w' => e = .returned (.bool true) ∧ Below w.heap.size w w' := by
  by_cases h : s.size ≤ 4000
  · exact back_ok s a n w h
  · exact back_big s a n w hs (by omega)
end Go.Proofs.Ytdjdgkjikibgaaa.PBuf
