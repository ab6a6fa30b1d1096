/- BufNames by hand. -/
import Derived.Test.YtdjdgkjikibgaaaKNames
import Derived.Test.YtdjdgkjikibgaaaKRow
namespace Go.Proofs.Ytdjdgkjikibgaaa.PBuf
open Go.RowKit Go.Proofs.YtdjdgkjikibgaaaW.PrintWords Go.Proofs.YtdjdgkjikibgaaaW.PrintLast Go.Proofs.YtdjdgkjikibgaaaW.PrintMore
set_option linter.unusedVariables false
set_option linter.unusedSimpArgs false
theorem zz_str : strOfNums (List.replicate (Int.toNat 9216) (0 : Int)) = KBuf.txt zz := by
  have e : KBuf.num8 zz = List.replicate (Int.toNat 9216) (0 : Int) := by
    unfold KBuf.num8 zz
    rw [List.map_replicate]; rfl
  rw [← e, KBuf.str_num8]
theorem zz_data : (KBuf.txt zz).data.toList = zz := by simp [KBuf.txt]
section
variable {w u : World} {p : Nat}
theorem nm_ins (h : At w u p zz) : Calls Try.prog 14 #[.pointer (some ⟨p, 0, none⟩), .int .i64 9216, .int .i64 0] u fun e u' => e = .returned (.int .i64 0) ∧ At w u' p zz :=
  at_ins h 9216 0 rfl rfl (by rw [zz_len]; omega) (by rw [zz_len]; omega) zz (by rw [List.replicate_zero, List.append_nil, List.take_append_drop])
theorem nm_del (h : At w u p zz) : Calls Try.prog 16 #[.pointer (some ⟨p, 0, none⟩), .int .i64 9216, .int .i64 0] u fun e u' => e = .returned (.int .i64 0) ∧ At w u' p zz :=
  at_del h 9216 0 rfl rfl (by rw [zz_len]; omega) zz (by rw [Nat.add_zero, List.take_append_drop])
set_option maxRecDepth 100000 in
theorem nm_put (h : At w u p zz) : Calls Try.prog 19 #[.pointer (some ⟨p, 0, none⟩), .int .i64 73727, .int .i64 1, .agg #[.int .u64 0, .int .u64 3]] u fun e u' => e = .returned (.int .i64 0) ∧ At w u' p zo := by
  have hk : field_Put.f 60 (KBuf.txt [0]) 7 1 0 3 = some (⟨#[1]⟩, 0) := by kernel_rfl
  rw [← zz_win] at hk
  have := h.lift (D' := zz.take 9215 ++ [1] ++ zz.drop (9215 + 1)) fun g cap hB => put_d hB 73727 1 60 3 0 ⟨#[1]⟩ (by omega) (by omega) (by rw [zz_len]; omega) rfl ⟨hk⟩
  rw [zz_put] at this
  exact this
theorem nm_get {D : List UInt8} (h : At w u p zo) : Calls Try.prog 18 #[.pointer (some ⟨p, 0, none⟩), .int .i64 73720, .int .i64 8] u fun e u' => e = .returned (.tuple #[.agg #[.int .u64 0, .int .u64 1], .int .i64 0]) ∧ At w u' p zo := by
  have hv : MWin.val zo (8 * 9215) 8 = 1 := by
    unfold MWin.val
    rw [MField.num_byte _ _ 8 (Nat.le_refl 8), MWin.bN_list, zo_last]; rfl
  exact at_get h (8 * 9215) 8 rfl rfl (by omega) (by omega) (by rw [zo_len]; omega) 1 hv
theorem nm_sum {b : Nat} {o : Obj} (h : AtB w u p zo b o) : Calls Try.prog 21 #[.pointer (some ⟨p, 0, none⟩), .int .i64 0, .int .i64 9216] u fun e u' => e = .returned (.tuple #[.int .u16 1, .int .i64 0]) ∧ AtB w u' p zo b o := by
  have hp : part zo 0 9216 = zo := by unfold part; rw [List.drop_zero]; exact List.take_of_length_le (by rw [zo_len]; omega)
  obtain ⟨k, hk⟩ := sum_k (KBuf.txt (part zo 0 9216)) (by rw [KBuf.txt_size, hp, zo_len]; omega)
  have e : sumV (KBuf.txt (part zo 0 9216)).data.toList = 1 := by rw [hp, ← zo_sum]; simp [KBuf.txt]
  rw [e] at hk
  exact h.lift fun g cap hB => sum_d hB 0 9216 k 1 (by rw [zo_len]; omega) ⟨hk⟩
theorem nm_del2 {b : Nat} {o : Obj} (h : AtB w u p zo b o) : Calls Try.prog 16 #[.pointer (some ⟨p, 0, none⟩), .int .i64 1, .int .i64 9214] u fun e u' => e = .returned (.int .i64 0) ∧ AtB w u' p [0, 1] b o := by
  rw [← zo_cut]
  exact h.lift fun g cap hB => del_d hB 1 9214 (by rw [zo_len]; omega)
theorem nm_text {b : Nat} {o : Obj} (h : AtB w u p [0, 1] b o) : Calls Try.prog 17 #[.pointer (some ⟨p, 0, none⟩)] u fun e u' => e = .returned (.string ⟨#[0, 1]⟩) ∧ AtB w u' p [0, 1] b o := h.lift fun g cap hB => text_d hB
theorem nm_getbadB {b : Nat} {o : Obj} (h : AtB w u p zo b o) (a n x : Int) (hb0 : a < 0 ∨ n < 1 ∨ 128 < n ∨ 73728 - n < a) (ho1 : -9223372036854775808 ≤ a) (ho2 : a ≤ 9223372036854775807)
    (hx : (if n < 1 ∨ n > 128 ∨ a < 0 then 1 else if a > 8 * (9216 : Int) - n then 4 else 0) = x) (hne : x ≠ 0) :
    Calls Try.prog 18 #[.pointer (some ⟨p, 0, none⟩), .int .i64 a, .int .i64 n] u fun e u' => e = .returned (.tuple #[.agg #[.int .u64 0, .int .u64 0], .int .i64 x]) ∧ AtB w u' p zo b o :=
  h.lift fun g cap hB => nm_getbad h.at zo_len a n x hb0 ho1 ho2 hx hne g cap hB
end
theorem nm_new {w u : World} (hb : Below w.heap.size w u) : Calls Try.prog 24 #[.string (KBuf.txt zz)] u fun e u' => ∃ p, e = .returned (.tuple #[.pointer (some ⟨p, 0, none⟩), .int .i64 0]) ∧ At w u' p zz :=
  (new_ok (KBuf.txt zz) u (by rw [KBuf.txt_size, zz_len]; omega)).mono fun e u' hd => by
    obtain ⟨p, g, cap, he, hB, hp, hg, hb2⟩ := hd
    rw [zz_data] at hB
    have := hb.size
    exact ⟨p, he, g, cap, hB, by omega, by omega, below_step hb hb2⟩
theorem nm_long (u : World) (s : ByteArray) (hs : s = KBuf.txt zz ++ ⟨#[97]⟩) : Calls Try.prog 24 #[.string s] u fun e u' => e = .returned (.tuple #[.pointer none, .int .i64 5]) ∧ u = u' :=
  new_long s u (by rw [hs, ByteArray.size_append, KBuf.txt_size, zz_len]; decide)
set_option maxHeartbeats 16000000 in
set_option maxRecDepth 100000 in
theorem bufNames (w : World) : Calls Try.prog 8 #[] w fun e w' => e = .returned (.bool true) ∧ Below w.heap.size w w' := by
  go_enter Try.func8, Try.ntmps8
  go_wp2_with fail
  go_at_call 11
  (with_reducible refine (awake_ok _).mono ?_)
  rintro e u ⟨rfl, hb⟩
  have HB := Aside0.mk hb
  clear hb
  go_wp2_with (first | ((with_reducible refine gate_dst (N := 29) rfl ?_); refine Kd.R_make (Kd.int .u8) _ 5 rfl (N := 29) rfl 50 _ _ rfl 9216 rfl rfl Try.underlying50 (.int .u8 0) 1 info5 rfl (by decide) (by omega) 0 (ok := fun _ => True) (okp := fun _ => True) rfl (fun _ hk => hk) trivial (by omega) (by omega) (Below.refl _ _) (Nat.le_refl _) ?_; intro vo uZ hoo hbZ hg_ hnew_; clear hg_ hnew_; obtain ⟨go, co, hvo, hgo, rO, hco⟩ := KRow.Row.of_R hoo (by decide); subst hvo; clear hoo; have hcv := Kd.C_string (P := Try.prog) (dst := 9) (c := co) Try.underlying50 Try.underlying5 Try.underlying9 (rO.C (by rw [List.length_replicate]; decide)); rw [zz_str] at hcv; simp only [List.length_replicate] at hcv ⊢; rw [show Int.toNat 9216 = 9216 from rfl] at hcv; have HB2 := Aside0.mk (below_step HB.out hbZ); clear rO hco hgo hbZ))
  go_at_call 24
  (with_reducible refine (nm_new HB2.out).mono ?_)
  rintro e u3 ⟨p, rfl, h⟩
  have HA := Aside0.mk h
  clear h hcv
  go_wp2_with fail
  go_at_call 24
  (with_reducible refine (nm_long _ _ rfl).mono ?_)
  rintro e u4 ⟨rfl, rfl⟩
  go_wp2_with fail
  go_at_call 14
  (with_reducible refine (nm_inslong HA.out zz_len 0 0 1 rfl (by omega) (by omega) (by omega)).mono ?_)
  clear HA; rintro e u11 ⟨rfl, h⟩; have HA := Aside0.mk h; clear h
  go_wp2_with fail
  go_at_call 14
  (with_reducible refine (nm_insbad HA.out zz_len (9217) (1) (0) 4 (min_zero 1 _ _) (by decide) (by decide)).mono ?_)
  clear HA; rintro e u12 ⟨rfl, h⟩; have HA := Aside0.mk h; clear h
  go_wp2_with fail
  go_at_call 14
  (with_reducible refine (nm_insbad HA.out zz_len (-1) (4611686018427387904) (0) 1 (min_zero 4611686018427387904 _ _) (by decide) (by decide)).mono ?_)
  clear HA; rintro e u13 ⟨rfl, h⟩; have HA := Aside0.mk h; clear h
  go_wp2_with fail
  go_at_call 14
  (with_reducible refine (nm_insbad HA.out zz_len (0) (-1) (-1) 1 (min_neg _ _) (by decide) (by decide)).mono ?_)
  clear HA; rintro e u14 ⟨rfl, h⟩; have HA := Aside0.mk h; clear h
  go_wp2_with fail
  go_at_call 14
  (with_reducible refine (nm_ins HA.out).mono ?_)
  clear HA; rintro e u15 ⟨rfl, h⟩; have HA := Aside0.mk h; clear h
  go_wp2_with fail
  go_at_call 14
  (with_reducible refine (nm_inslong HA.out zz_len 5 5 4611686018427387904 rfl (by omega) (by omega) (by omega)).mono ?_)
  clear HA; rintro e u16 ⟨rfl, h⟩; have HA := Aside0.mk h; clear h
  go_wp2_with fail
  go_at_call 16
  (with_reducible refine (nm_delbad HA.out zz_len (9216) (1) 4 (by decide) (by decide)).mono ?_)
  clear HA; rintro e u17 ⟨rfl, h⟩; have HA := Aside0.mk h; clear h
  go_wp2_with fail
  go_at_call 16
  (with_reducible refine (nm_delbad HA.out zz_len (4611686018427387904) (4611686018427387904) 4 (by decide) (by decide)).mono ?_)
  clear HA; rintro e u18 ⟨rfl, h⟩; have HA := Aside0.mk h; clear h
  go_wp2_with fail
  go_at_call 16
  (with_reducible refine (nm_delbad HA.out zz_len (-1) (0) 1 (by decide) (by decide)).mono ?_)
  clear HA; rintro e u19 ⟨rfl, h⟩; have HA := Aside0.mk h; clear h
  go_wp2_with fail
  go_at_call 16
  (with_reducible refine (nm_delbad HA.out zz_len (5) (-1) 1 (by decide) (by decide)).mono ?_)
  clear HA; rintro e u20 ⟨rfl, h⟩; have HA := Aside0.mk h; clear h
  go_wp2_with fail
  go_at_call 16
  (with_reducible refine (nm_del HA.out).mono ?_)
  clear HA; rintro e u21 ⟨rfl, h⟩; have HA := Aside0.mk h; clear h
  go_wp2_with fail
  go_at_call 19
  (with_reducible refine (nm_put HA.out).mono ?_)
  clear HA; rintro e u22 ⟨rfl, h⟩; have HA := Aside0.mk h; clear h
  go_wp2_with fail
  go_at_call 19
  (with_reducible refine (nm_putbad HA.out zo_len (73728) (1) 0 0 4 (by omega) (by omega) (by omega) (by decide) (by decide)).mono ?_)
  clear HA; rintro e u23 ⟨rfl, h⟩; have HA := Aside0.mk h; clear h
  go_wp2_with fail
  go_at_call 19
  (with_reducible refine (nm_putbad HA.out zo_len (0) (129) 0 0 1 (by omega) (by omega) (by omega) (by decide) (by decide)).mono ?_)
  clear HA; rintro e u24 ⟨rfl, h⟩; have HA := Aside0.mk h; clear h
  go_wp2_with fail
  go_at_call 19
  (with_reducible refine (nm_putbad HA.out zo_len (-1) (1) 0 0 1 (by omega) (by omega) (by omega) (by decide) (by decide)).mono ?_)
  clear HA; rintro e u25 ⟨rfl, h⟩; have HA := Aside0.mk h; clear h
  go_wp2_with fail
  go_at_call 18
  (with_reducible refine (nm_get (D := []) HA.out).mono ?_)
  clear HA; rintro e u26 ⟨rfl, h⟩; have HA := Aside0.mk h; clear h
  go_wp2_with fail
  have h := HA.out.keep (.cells #[.int .u64 0, .int .u64 1] 32); clear HA; have HA := Aside0.mk h; clear h
  go_at_call 18
  (with_reducible refine (nm_getbadB HA.out (73721) (8) 4 (by omega) (by omega) (by omega) (by decide) (by decide)).mono ?_)
  clear HA; rintro e u27 ⟨rfl, h⟩; have HA := Aside0.mk h; clear h
  go_wp2_with fail
  have h := HA.out.below (below_alloc (Below.refl _ _) (.cells #[.int .u64 0, .int .u64 0] 32)); clear HA; have HA := Aside0.mk h; clear h
  go_at_call 18
  (with_reducible refine (nm_getbadB HA.out (0) (0) 1 (by omega) (by omega) (by omega) (by decide) (by decide)).mono ?_)
  clear HA; rintro e u28 ⟨rfl, h⟩; have HA := Aside0.mk h; clear h
  go_wp2_with fail
  have h := HA.out.below (below_alloc (Below.refl _ _) (.cells #[.int .u64 0, .int .u64 0] 32)); clear HA; have HA := Aside0.mk h; clear h
  go_at_call 18
  (with_reducible refine (nm_getbadB HA.out (4611686018427387904) (128) 4 (by omega) (by omega) (by omega) (by decide) (by decide)).mono ?_)
  clear HA; rintro e u29 ⟨rfl, h⟩; have HA := Aside0.mk h; clear h
  go_wp2_with fail
  have h := HA.out.below (below_alloc (Below.refl _ _) (.cells #[.int .u64 0, .int .u64 0] 32)); clear HA; have HA := Aside0.mk h; clear h
  go_at_call 21
  (with_reducible refine (nm_sumbad HA.out zo_len 0 9217 4 (by decide) (by decide)).mono ?_)
  clear HA; rintro e u30 ⟨rfl, h⟩; have HA := Aside0.mk h; clear h
  go_wp2_with fail
  go_at_call 21
  (with_reducible refine (nm_sumbad HA.out zo_len (-1) 0 1 (by decide) (by decide)).mono ?_)
  clear HA; rintro e u31 ⟨rfl, h⟩; have HA := Aside0.mk h; clear h
  go_wp2_with fail
  go_at_call 21
  (with_reducible refine (nm_sum HA.out).mono ?_)
  clear HA; rintro e u32 ⟨rfl, h⟩; have HA := Aside0.mk h; clear h
  have hz0 := (blk_cell HA.out.blk 0).trans rfl; have hz1 := (blk_cell HA.out.blk 1).trans rfl
  go_wp2_with fail
  clear hz0 hz1
  go_at_call 16
  (with_reducible refine (nm_del2 HA.out).mono ?_)
  clear HA; rintro e u33 ⟨rfl, h⟩; have HA := Aside0.mk h; clear h
  go_wp2_with fail
  go_at_call 17
  (with_reducible refine (nm_text HA.out).mono ?_)
  clear HA; rintro e u34 ⟨rfl, h⟩; have HA := Aside0.mk h; clear h
  go_wp2_with fail
  go_at_call 18
  (with_reducible refine (get_nil 0 8 _).mono ?_)
  rintro e u35 ⟨rfl, hb⟩
  have h := HA.out.below hb; clear HA hb; have HA := Aside0.mk h; clear h
  go_wp2_with fail
  have h := HA.out.below (below_alloc (Below.refl _ _) (.cells #[.int .u64 0, .int .u64 0] 32)); clear HA; have HA := Aside0.mk h; clear h
  go_at_call 21
  (with_reducible refine (sum_nil 0 0 _).mono ?_)
  rintro e u36 ⟨rfl, rfl⟩
  have hz0 := (blk_cell HA.out.blk 0).trans rfl; have hz1 := (blk_cell HA.out.blk 1).trans rfl
  go_wp2_with fail
  clear hz0 hz1
  go_at_call 19
  (with_reducible refine (put_nil 0 8 _ _ _).mono ?_)
  rintro e u37 ⟨rfl, hb⟩
  have h := HA.out.below hb; clear HA hb; have HA := Aside0.mk h; clear h
  go_wp2_with fail
  go_at_call 14
  (with_reducible refine (ins_nil 0 1 0 (min_zero 1 _ _) _).mono ?_)
  rintro e u38 ⟨rfl, rfl⟩
  go_wp2_with fail
  go_at_call 16
  (with_reducible refine (del_nil 0 0 _).mono ?_)
  rintro e u39 ⟨rfl, rfl⟩
  go_wp2_with fail
  go_at_call 15
  (with_reducible refine (len_nil _).mono ?_)
  rintro e u40 ⟨rfl, rfl⟩
  go_wp2_with fail
  go_at_call 17
  (with_reducible refine (text_nil _).mono ?_)
  rintro e u41 ⟨rfl, rfl⟩
  go_wp2_with fail
  go_at_call 25
  (with_reducible refine (copy_nil _).mono ?_)
  rintro e u42 ⟨rfl, rfl⟩
  go_wp2_with fail
  go_ret
  exact ⟨rfl, HA.out.at.bel⟩
end Go.Proofs.Ytdjdgkjikibgaaa.PBuf
