/- TrieNames by hand: the walk. -/
import Derived.Test.YtpchlnbnpgaocaaKTrie10
namespace Go.Proofs.Ytpchlnbnpgaocaa.PTrie
open Go.Proofs.Ytpchlnbnpgaocaa.KTree Go.Proofs.Ytpchlnbnpgaocaa.KReg Go.Proofs.Ytpchlnbnpgaocaa.KBits Go.RowKit Go.Proofs.YtpchlnbnpgaocaaW.PrintWords Go.Proofs.YtpchlnbnpgaocaaW.PrintLast Go.Proofs.YtpchlnbnpgaocaaW.PrintMore
set_option linter.unusedVariables false
set_option linter.unusedSimpArgs false
set_option maxHeartbeats 8000000 in
set_option maxRecDepth 100000 in
theorem all_nil (w : World) : Calls Try.prog 12 #[.pointer none] w fun e w' => e = .returned (.slice none 0 0) ∧ Below w.heap.size w w' := by
  go_enter Try.func12, Try.ntmps12
  go_wp2_with fail
  go_ret
  exact ⟨rfl, Below.refl _ _⟩
set_option maxHeartbeats 8000000 in
set_option maxRecDepth 100000 in
theorem len_nil (w : World) : Calls Try.prog 18 #[.pointer none] w fun e w' => e = .returned (.int .i64 0) ∧ Below w.heap.size w w' := by
  go_enter Try.func18, Try.ntmps18
  go_wp2_with fail
  go_ret
  exact ⟨rfl, Below.refl _ _⟩
set_option maxHeartbeats 8000000 in
set_option maxRecDepth 100000 in
theorem copy_nil (w : World) : Calls Try.prog 22 #[.pointer none] w fun e w' => e = .returned (.pointer none) ∧ Below w.heap.size w w' := by
  go_enter Try.func22, Try.ntmps22
  go_wp2_with fail
  go_ret
  exact ⟨rfl, Below.refl _ _⟩
set_option maxHeartbeats 8000000 in
set_option maxRecDepth 100000 in
theorem at_nil (s : ByteArray) (n : Int) (w : World) : Calls Try.prog 27 #[.pointer none, .string s, .int .i64 n] w fun e w' => e = .returned (.pointer none) ∧ Below w.heap.size w w' := by
  go_enter Try.func27, Try.ntmps27
  go_wp2_with fail
  go_ret
  exact ⟨rfl, Below.refl _ _⟩
set_option maxHeartbeats 8000000 in
set_option maxRecDepth 100000 in
theorem put_nil (s : ByteArray) (n v : Int) (w : World) : Calls Try.prog 14 #[.pointer none, .string s, .int .i64 n, .int .i64 v] w fun e w' => e = .returned (.int .i64 2) ∧ Below w.heap.size w w' := by
  go_enter Try.func14, Try.ntmps14
  go_wp2_with fail
  go_ret
  exact ⟨rfl, Below.refl _ _⟩
set_option maxHeartbeats 8000000 in
set_option maxRecDepth 100000 in
theorem lon_nil3 (s : ByteArray) (w : World) : Calls Try.prog 11 #[.pointer none, .string s] w fun e w' => e = .returned (.tuple #[.int .i64 0, .int .i64 0, .bool false]) ∧ Below w.heap.size w w' := by
  go_enter Try.func11, Try.ntmps11
  go_wp2_with fail
  go_ret3
  exact ⟨rfl, Below.refl _ _⟩
set_option maxHeartbeats 8000000 in
set_option maxRecDepth 100000 in
theorem get_nil (s : ByteArray) (n : Int) (w : World) : Calls Try.prog 16 #[.pointer none, .string s, .int .i64 n] w fun e w' => e = .returned (.tuple #[.int .i64 0, .bool false]) ∧ Below w.heap.size w w' := by
  go_enter Try.func16, Try.ntmps16
  go_wp2_with fail
  go_at_call 27
  (with_reducible refine (at_nil s n _).mono ?_)
  rintro e u ⟨rfl, hb⟩
  have HB := Aside0.mk hb
  clear hb
  go_wp2_with fail
  go_ret2
  exact ⟨rfl, HB.out⟩
set_option maxHeartbeats 8000000 in
set_option maxRecDepth 100000 in
theorem del_nil (s : ByteArray) (n : Int) (w : World) : Calls Try.prog 17 #[.pointer none, .string s, .int .i64 n] w fun e w' => e = .returned (.bool false) ∧ Below w.heap.size w w' := by
  go_enter Try.func17, Try.ntmps17
  go_wp2_with fail
  go_at_call 27
  (with_reducible refine (at_nil s n _).mono ?_)
  rintro e u ⟨rfl, hb⟩
  have HB := Aside0.mk hb
  clear hb
  go_wp2_with fail
  go_ret
  exact ⟨rfl, HB.out⟩
def zS : ByteArray := ⟨#[0, 0, 0, 0, 0, 0, 0, 0, 0, 0, 0, 0, 0, 0, 0, 0, 0, 0, 0, 0, 0, 0, 0, 0, 0, 0, 0, 0, 0, 0, 0, 0]⟩
theorem zz_str : strOfNums (List.replicate 32 (0 : Int)) = zS := by kernel_rfl
theorem zS_size : zS.size = 32 := rfl
theorem tr_box (u : World) : Tr (u.alloc (.cells #[.pointer none, .pointer none, .bool false, .int .i64 0, .int .i64 0] 56)) u.heap.size aw0 [u.heap.size] := by
  have hb := blk_new u (.cells #[.pointer none, .pointer none, .bool false, .int .i64 0, .int .i64 0] 56)
  exact ⟨⟨u.heap.size, none, none, [], [], rfl, rfl, Nd.of_blk hb rfl rfl rfl rfl, ⟨rfl, rfl⟩, ⟨rfl, rfl⟩⟩, by simp, (blk_cell hb 4).trans rfl, blk_frozen hb 4⟩
section
variable {w0 u : World} {L : List (Nat × Tri)} {R : List Rw} {b : Nat} {t : Tri}
theorem inv_put_a (h : Inv w0 u ((b, t) :: L) R) (s : ByteArray) (n v : Int) (hs : s.size ≤ 140737488351232) (hc : Tri.cnt t ≤ 1000000) (hn : n < 0 ∨ 256 < n) :
    Calls Try.prog 14 #[.pointer (some ⟨b, 0, none⟩), .string s, .int .i64 n, .int .i64 v] u fun e u' => e = .returned (.int .i64 1) ∧ Inv w0 u' ((b, t) :: L) R := by
  have := inv_put h s n v hs hc
  rw [pcode_arg hn, tput_no (fun e => by have := e.1; have := e.2.1; omega)] at this
  exact this
theorem inv_lon_v (h : Inv w0 u ((b, t) :: L) R) (s : ByteArray) (hs : s.size ≤ 140737488351232) {n v : Int} {is : Bool} (hl : lonV (tlon s t) = .tuple #[.int .i64 n, .int .i64 v, .bool is]) :
    Calls Try.prog 11 #[.pointer (some ⟨b, 0, none⟩), .string s] u fun e u' => e = .returned (.tuple #[.int .i64 n, .int .i64 v, .bool is]) ∧ Inv w0 u' ((b, t) :: L) R := by
  have := inv_lon (x := (b, t)) h List.mem_cons_self s hs
  rw [hl] at this
  exact this
theorem inv_del_n (h : Inv w0 u ((b, t) :: L) R) (s : ByteArray) (n : Int) (hs : s.size ≤ 140737488351232) (hc : Tri.cnt t ≤ 1000000) (hg : tget s n t = none) :
    Calls Try.prog 17 #[.pointer (some ⟨b, 0, none⟩), .string s, .int .i64 n] u fun e u' => e = .returned (.bool false) ∧ Inv w0 u' ((b, t) :: L) R := by
  have := inv_del h s n hs hc
  rw [hg, tdel_none hg] at this
  exact this
theorem inv_del_y (h : Inv w0 u ((b, t) :: L) R) (s : ByteArray) (m : Nat) (hs : s.size ≤ 140737488351232) (hc : Tri.cnt t ≤ 1000000) (ho : okB s m = true) {x : Int} (hg : Tri.get (kb s m) t = some x) {n : Int} (hn : n = m) :
    Calls Try.prog 17 #[.pointer (some ⟨b, 0, none⟩), .string s, .int .i64 n] u fun e u' => e = .returned (.bool true) ∧ Inv w0 u' ((b, Tri.del (kb s n) t) :: L) R := by
  subst hn
  have := inv_del h s m hs hc
  rw [tget_of (ok_of ho), tdel_of (ok_of ho) hg, hg] at this
  exact this
theorem inv_get_v (h : Inv w0 u ((b, t) :: L) R) (s : ByteArray) (m : Nat) (hs : s.size ≤ 140737488351232) (ho : okB s m = true) {x : Option Int} (hg : Tri.get (kb s m) t = x) {n : Int} (hn : n = m) :
    Calls Try.prog 16 #[.pointer (some ⟨b, 0, none⟩), .string s, .int .i64 n] u fun e u' => e = .returned (.tuple #[.int .i64 (x.getD 0), .bool x.isSome]) ∧ Inv w0 u' ((b, t) :: L) R := by
  subst hn
  have := inv_get (x := (b, t)) h List.mem_cons_self s m hs
  rw [tget_of (ok_of ho), hg] at this
  exact this
theorem inv_len_v (h : Inv w0 u ((b, t) :: L) R) {n : Nat} (hn : Tri.cnt t = n) : Calls Try.prog 18 #[.pointer (some ⟨b, 0, none⟩)] u fun e u' => e = .returned (.int .i64 (n : Int)) ∧ Inv w0 u' ((b, t) :: L) R := by
  subst hn; exact inv_len (x := (b, t)) h List.mem_cons_self
theorem tget_nok {s : ByteArray} {m : Nat} (h : okB s m = false) : tget s (m : Int) t = none := tget_no (not_of h)
theorem tget_ok {s : ByteArray} {m : Nat} (h : okB s m = true) (hg : Tri.get (kb s m) t = none) : tget s (m : Int) t = none := by rw [tget_of (ok_of h), hg]
end
def tn1 : Tri := Tri.put (-1) (kb zS 256) aw0
def tn2 : Tri := Tri.put 5 (kb ⟨#[255]⟩ 8) tn1
def tn3 : Tri := Tri.put 0 (kb ⟨#[255, 128]⟩ 9) tn2
def tn4 : Tri := Tri.put 6 (kb ⟨#[255]⟩ 8) tn3
def tn5 : Tri := Tri.del (kb ⟨#[255]⟩ 8) tn4
theorem tn1_c : Tri.cnt tn1 ≤ 1000000 := by decide +kernel
theorem tn2_c : Tri.cnt tn2 ≤ 1000000 := by decide +kernel
theorem tn3_c : Tri.cnt tn3 ≤ 1000000 := by decide +kernel
theorem tn4_c : Tri.cnt tn4 ≤ 1000000 := by decide +kernel
theorem tn5_c : Tri.cnt tn5 ≤ 1000000 := by decide +kernel
section
variable {w0 u : World} {b : Nat}
theorem nm_0 (h : Inv w0 u [(b, aw0)] []) : Calls Try.prog 14 #[.pointer (some ⟨b, 0, none⟩), .string zS, .int .i64 (256), .int .i64 (-1)] u fun e u' => e = .returned (.int .i64 0) ∧ Inv w0 u' [(b, tn1)] [] :=
  inv_put_y h zS 256 (-1) (by decide +kernel) (by decide +kernel) (by decide +kernel) rfl
theorem nm_1 (h : Inv w0 u [(b, tn1)] []) : Calls Try.prog 14 #[.pointer (some ⟨b, 0, none⟩), .string (zS ++ ⟨#[0]⟩), .int .i64 (257), .int .i64 (1)] u fun e u' => e = .returned (.int .i64 1) ∧ Inv w0 u' [(b, tn1)] [] :=
  inv_put_a h _ (257) (1) (by decide +kernel) tn1_c (by omega)
theorem nm_2 (h : Inv w0 u [(b, tn1)] []) : Calls Try.prog 14 #[.pointer (some ⟨b, 0, none⟩), .string ⟨#[]⟩, .int .i64 (-1), .int .i64 (1)] u fun e u' => e = .returned (.int .i64 1) ∧ Inv w0 u' [(b, tn1)] [] :=
  inv_put_a h ⟨#[]⟩ (-1) (1) (by decide +kernel) tn1_c (by omega)
theorem nm_3 (h : Inv w0 u [(b, tn1)] []) : Calls Try.prog 14 #[.pointer (some ⟨b, 0, none⟩), .string ⟨#[0]⟩, .int .i64 (-1), .int .i64 (1)] u fun e u' => e = .returned (.int .i64 1) ∧ Inv w0 u' [(b, tn1)] [] :=
  inv_put_a h ⟨#[0]⟩ (-1) (1) (by decide +kernel) tn1_c (by omega)
theorem nm_4 (h : Inv w0 u [(b, tn1)] []) : Calls Try.prog 14 #[.pointer (some ⟨b, 0, none⟩), .string ⟨#[]⟩, .int .i64 (1), .int .i64 (1)] u fun e u' => e = .returned (.int .i64 3) ∧ Inv w0 u' [(b, tn1)] [] :=
  inv_put_n h ⟨#[]⟩ 1 (1) (by decide +kernel) tn1_c (by decide +kernel) (by decide) rfl
theorem nm_5 (h : Inv w0 u [(b, tn1)] []) : Calls Try.prog 14 #[.pointer (some ⟨b, 0, none⟩), .string ⟨#[0]⟩, .int .i64 (9), .int .i64 (1)] u fun e u' => e = .returned (.int .i64 3) ∧ Inv w0 u' [(b, tn1)] [] :=
  inv_put_n h ⟨#[0]⟩ 9 (1) (by decide +kernel) tn1_c (by decide +kernel) (by decide) rfl
theorem nm_6 (h : Inv w0 u [(b, tn1)] []) : Calls Try.prog 14 #[.pointer (some ⟨b, 0, none⟩), .string ⟨#[1]⟩, .int .i64 (7), .int .i64 (1)] u fun e u' => e = .returned (.int .i64 3) ∧ Inv w0 u' [(b, tn1)] [] :=
  inv_put_n h ⟨#[1]⟩ 7 (1) (by decide +kernel) tn1_c (by decide +kernel) (by decide) rfl
theorem nm_7 (h : Inv w0 u [(b, tn1)] []) : Calls Try.prog 14 #[.pointer (some ⟨b, 0, none⟩), .string ⟨#[0, 0]⟩, .int .i64 (8), .int .i64 (1)] u fun e u' => e = .returned (.int .i64 3) ∧ Inv w0 u' [(b, tn1)] [] :=
  inv_put_n h ⟨#[0, 0]⟩ 8 (1) (by decide +kernel) tn1_c (by decide +kernel) (by decide) rfl
theorem nm_8 (h : Inv w0 u [(b, tn1)] []) : Calls Try.prog 14 #[.pointer (some ⟨b, 0, none⟩), .string ⟨#[255]⟩, .int .i64 (8), .int .i64 (5)] u fun e u' => e = .returned (.int .i64 0) ∧ Inv w0 u' [(b, tn2)] [] :=
  inv_put_y h ⟨#[255]⟩ 8 (5) (by decide +kernel) tn1_c (by decide +kernel) rfl
theorem nm_9 (h : Inv w0 u [(b, tn2)] []) : Calls Try.prog 14 #[.pointer (some ⟨b, 0, none⟩), .string ⟨#[255, 128]⟩, .int .i64 (9), .int .i64 (0)] u fun e u' => e = .returned (.int .i64 0) ∧ Inv w0 u' [(b, tn3)] [] :=
  inv_put_y h ⟨#[255, 128]⟩ 9 (0) (by decide +kernel) tn2_c (by decide +kernel) rfl
theorem nm_10 (h : Inv w0 u [(b, tn3)] []) : Calls Try.prog 14 #[.pointer (some ⟨b, 0, none⟩), .string ⟨#[255]⟩, .int .i64 (8), .int .i64 (6)] u fun e u' => e = .returned (.int .i64 0) ∧ Inv w0 u' [(b, tn4)] [] :=
  inv_put_y h ⟨#[255]⟩ 8 (6) (by decide +kernel) tn3_c (by decide +kernel) rfl
theorem nm_11 (h : Inv w0 u [(b, tn4)] []) : Calls Try.prog 18 #[.pointer (some ⟨b, 0, none⟩)] u fun e u' => e = .returned (.int .i64 3) ∧ Inv w0 u' [(b, tn4)] [] :=
  inv_len_v (n := 3) h (by decide +kernel)
theorem nm_12 (h : Inv w0 u [(b, tn4)] []) : Calls Try.prog 11 #[.pointer (some ⟨b, 0, none⟩), .string (zS ++ ⟨#[97, 98, 99]⟩)] u fun e u' => e = .returned (.tuple #[.int .i64 (256), .int .i64 (-1), .bool true]) ∧ Inv w0 u' [(b, tn4)] [] :=
  inv_lon_v h _ (by decide +kernel) (by kernel_rfl)
theorem nm_13 (h : Inv w0 u [(b, tn4)] []) : Calls Try.prog 11 #[.pointer (some ⟨b, 0, none⟩), .string ⟨#[255, 255]⟩] u fun e u' => e = .returned (.tuple #[.int .i64 (9), .int .i64 (0), .bool true]) ∧ Inv w0 u' [(b, tn4)] [] :=
  inv_lon_v h ⟨#[255, 255]⟩ (by decide +kernel) (by kernel_rfl)
theorem nm_14 (h : Inv w0 u [(b, tn4)] []) : Calls Try.prog 11 #[.pointer (some ⟨b, 0, none⟩), .string (zS.extract 0 31)] u fun e u' => e = .returned (.tuple #[.int .i64 (0), .int .i64 (0), .bool false]) ∧ Inv w0 u' [(b, tn4)] [] :=
  inv_lon_v h _ (by decide +kernel) (by kernel_rfl)
theorem nm_15 (h : Inv w0 u [(b, tn4)] []) : Calls Try.prog 11 #[.pointer (some ⟨b, 0, none⟩), .string ⟨#[255, 0]⟩] u fun e u' => e = .returned (.tuple #[.int .i64 (8), .int .i64 (6), .bool true]) ∧ Inv w0 u' [(b, tn4)] [] :=
  inv_lon_v h ⟨#[255, 0]⟩ (by decide +kernel) (by kernel_rfl)
theorem nm_16 (h : Inv w0 u [(b, tn4)] []) : Calls Try.prog 17 #[.pointer (some ⟨b, 0, none⟩), .string ⟨#[255]⟩, .int .i64 7] u fun e u' => e = .returned (.bool false) ∧ Inv w0 u' [(b, tn4)] [] :=
  inv_del_n h ⟨#[255]⟩ 7 (by decide +kernel) tn4_c (tget_nok (m := 7) (by decide +kernel))
theorem nm_17 (h : Inv w0 u [(b, tn4)] []) : Calls Try.prog 17 #[.pointer (some ⟨b, 0, none⟩), .string ⟨#[254]⟩, .int .i64 7] u fun e u' => e = .returned (.bool false) ∧ Inv w0 u' [(b, tn4)] [] :=
  inv_del_n h ⟨#[254]⟩ 7 (by decide +kernel) tn4_c (tget_ok (m := 7) (by decide +kernel) (by kernel_rfl))
theorem nm_18 (h : Inv w0 u [(b, tn4)] []) : Calls Try.prog 17 #[.pointer (some ⟨b, 0, none⟩), .string ⟨#[255]⟩, .int .i64 9] u fun e u' => e = .returned (.bool false) ∧ Inv w0 u' [(b, tn4)] [] :=
  inv_del_n h ⟨#[255]⟩ 9 (by decide +kernel) tn4_c (tget_nok (m := 9) (by decide +kernel))
theorem nm_19 (h : Inv w0 u [(b, tn4)] []) : Calls Try.prog 17 #[.pointer (some ⟨b, 0, none⟩), .string ⟨#[255]⟩, .int .i64 8] u fun e u' => e = .returned (.bool true) ∧ Inv w0 u' [(b, tn5)] [] :=
  inv_del_y h ⟨#[255]⟩ 8 (by decide +kernel) tn4_c (by decide +kernel) (x := 6) (by kernel_rfl) rfl
theorem nm_20 (h : Inv w0 u [(b, tn5)] []) : Calls Try.prog 17 #[.pointer (some ⟨b, 0, none⟩), .string ⟨#[255]⟩, .int .i64 8] u fun e u' => e = .returned (.bool false) ∧ Inv w0 u' [(b, tn5)] [] :=
  inv_del_n h ⟨#[255]⟩ 8 (by decide +kernel) tn5_c (tget_ok (m := 8) (by decide +kernel) (by kernel_rfl))
theorem nm_21 (h : Inv w0 u [(b, tn5)] []) : Calls Try.prog 18 #[.pointer (some ⟨b, 0, none⟩)] u fun e u' => e = .returned (.int .i64 2) ∧ Inv w0 u' [(b, tn5)] [] :=
  inv_len_v (n := 2) h (by decide +kernel)
theorem nm_22 (h : Inv w0 u [(b, tn5)] []) : Calls Try.prog 16 #[.pointer (some ⟨b, 0, none⟩), .string ⟨#[255]⟩, .int .i64 8] u fun e u' => e = .returned (.tuple #[.int .i64 0, .bool false]) ∧ Inv w0 u' [(b, tn5)] [] :=
  inv_get_v h ⟨#[255]⟩ 8 (by decide +kernel) (by decide +kernel) (x := none) (by kernel_rfl) rfl
theorem nm_23 (h : Inv w0 u [(b, tn5)] []) : Calls Try.prog 16 #[.pointer (some ⟨b, 0, none⟩), .string ⟨#[255, 128]⟩, .int .i64 9] u fun e u' => e = .returned (.tuple #[.int .i64 0, .bool true]) ∧ Inv w0 u' [(b, tn5)] [] :=
  inv_get_v h ⟨#[255, 128]⟩ 9 (by decide +kernel) (by decide +kernel) (x := some 0) (by kernel_rfl) rfl
theorem nm_24 (h : Inv w0 u [(b, tn5)] []) : Calls Try.prog 11 #[.pointer (some ⟨b, 0, none⟩), .string ⟨#[255, 127]⟩] u fun e u' => e = .returned (.tuple #[.int .i64 (0), .int .i64 (0), .bool false]) ∧ Inv w0 u' [(b, tn5)] [] :=
  inv_lon_v h ⟨#[255, 127]⟩ (by decide +kernel) (by kernel_rfl)
end
set_option maxHeartbeats 8000000 in
set_option maxRecDepth 100000 in
theorem trieNames (w : World) : Calls Try.prog 7 #[] w fun e w' => e = .returned (.bool true) ∧ Below w.heap.size w w' := by
  go_enter Try.func7, Try.ntmps7
  go_wp2_with fail
  go_at_call 9
  (with_reducible refine (awake_ok _).mono ?_)
  rintro e u ⟨rfl, hb⟩
  have HB := Aside0.mk hb
  clear hb
  go_wp2_with (first | ((with_reducible refine gate_dst (N := 34) rfl ?_); refine Kd.R_make (Kd.int .u8) _ 5 rfl (N := 34) rfl 57 _ _ rfl 32 rfl rfl Try.underlying57 (.int .u8 0) 1 (by kernel_rfl) rfl (by decide) (by omega) 0 (ok := fun _ => True) (okp := fun _ => True) rfl (fun _ hk => hk) trivial (by omega) (by omega) (Below.refl _ _) (Nat.le_refl _) ?_; intro vo uZ hoo hbZ hg_ hnew_; clear hg_ hnew_; obtain ⟨AO, co, hvo, hlo, hCO⟩ := Kd.R_reads hoo; subst hvo; clear hoo; have hcv := Kd.C_string (P := Try.prog) (dst := 9) (c := co) Try.underlying57 Try.underlying5 Try.underlying9 hCO; simp only [show Int.toNat 32 = 32 from rfl, List.length_replicate] at hcv hlo ⊢; rw [zz_str] at hcv; have HB2 := Aside0.mk hbZ; clear hCO hlo hbZ))
  obtain ⟨b, hbq⟩ : ∃ b, b = u.heap.size := ⟨_, rfl⟩
  have h0 := ((Inv.nil w).below HB.out).add (below_alloc (Below.refl _ _) _) (tr_box u) (fun z hz => by rw [List.mem_singleton] at hz; omega)
  have HA := Aside0.mk (h0.below HB2.out)
  clear h0 hcv HB HB2
  rw [← hbq] at HA ⊢
  clear hbq
  have hzs := zS_size
  (with_reducible refine (nm_0 HA.out).mono ?_)
  clear HA; rintro e u0 ⟨rfl, h⟩; have HA := Aside0.mk h; clear h
  go_wp2_with fail
  go_at_call 14
  (with_reducible refine (nm_1 HA.out).mono ?_)
  clear HA; rintro e u1 ⟨rfl, h⟩; have HA := Aside0.mk h; clear h
  go_wp2_with fail
  go_at_call 14
  (with_reducible refine (nm_2 HA.out).mono ?_)
  clear HA; rintro e u2 ⟨rfl, h⟩; have HA := Aside0.mk h; clear h
  go_wp2_with fail
  go_at_call 14
  (with_reducible refine (nm_3 HA.out).mono ?_)
  clear HA; rintro e u3 ⟨rfl, h⟩; have HA := Aside0.mk h; clear h
  go_wp2_with fail
  go_at_call 14
  (with_reducible refine (nm_4 HA.out).mono ?_)
  clear HA; rintro e u4 ⟨rfl, h⟩; have HA := Aside0.mk h; clear h
  go_wp2_with fail
  go_at_call 14
  (with_reducible refine (nm_5 HA.out).mono ?_)
  clear HA; rintro e u5 ⟨rfl, h⟩; have HA := Aside0.mk h; clear h
  go_wp2_with fail
  go_at_call 14
  (with_reducible refine (nm_6 HA.out).mono ?_)
  clear HA; rintro e u6 ⟨rfl, h⟩; have HA := Aside0.mk h; clear h
  go_wp2_with fail
  go_at_call 14
  (with_reducible refine (nm_7 HA.out).mono ?_)
  clear HA; rintro e u7 ⟨rfl, h⟩; have HA := Aside0.mk h; clear h
  go_wp2_with fail
  go_at_call 14
  (with_reducible refine (nm_8 HA.out).mono ?_)
  clear HA; rintro e u8 ⟨rfl, h⟩; have HA := Aside0.mk h; clear h
  go_wp2_with fail
  go_at_call 14
  (with_reducible refine (nm_9 HA.out).mono ?_)
  clear HA; rintro e u9 ⟨rfl, h⟩; have HA := Aside0.mk h; clear h
  go_wp2_with fail
  go_at_call 14
  (with_reducible refine (nm_10 HA.out).mono ?_)
  clear HA; rintro e u10 ⟨rfl, h⟩; have HA := Aside0.mk h; clear h
  go_wp2_with fail
  go_at_call 18
  (with_reducible refine (nm_11 HA.out).mono ?_)
  clear HA; rintro e u11 ⟨rfl, h⟩; have HA := Aside0.mk h; clear h
  go_wp2_with fail
  go_at_call 11
  (with_reducible refine (nm_12 HA.out).mono ?_)
  clear HA; rintro e u12 ⟨rfl, h⟩; have HA := Aside0.mk h; clear h
  go_wp2_with fail
  go_at_call 11
  (with_reducible refine (nm_13 HA.out).mono ?_)
  clear HA; rintro e u13 ⟨rfl, h⟩; have HA := Aside0.mk h; clear h
  go_wp2_with fail
  go_at_call 11
  (with_reducible refine (nm_14 HA.out).mono ?_)
  clear HA; rintro e u14 ⟨rfl, h⟩; have HA := Aside0.mk h; clear h
  go_wp2_with fail
  go_at_call 11
  (with_reducible refine (nm_15 HA.out).mono ?_)
  clear HA; rintro e u15 ⟨rfl, h⟩; have HA := Aside0.mk h; clear h
  go_wp2_with fail
  go_at_call 17
  (with_reducible refine (nm_16 HA.out).mono ?_)
  clear HA; rintro e u16 ⟨rfl, h⟩; have HA := Aside0.mk h; clear h
  go_wp2_with fail
  go_at_call 17
  (with_reducible refine (nm_17 HA.out).mono ?_)
  clear HA; rintro e u17 ⟨rfl, h⟩; have HA := Aside0.mk h; clear h
  go_wp2_with fail
  go_at_call 17
  (with_reducible refine (nm_18 HA.out).mono ?_)
  clear HA; rintro e u18 ⟨rfl, h⟩; have HA := Aside0.mk h; clear h
  go_wp2_with fail
  go_at_call 17
  (with_reducible refine (nm_19 HA.out).mono ?_)
  clear HA; rintro e u19 ⟨rfl, h⟩; have HA := Aside0.mk h; clear h
  go_wp2_with fail
  go_at_call 17
  (with_reducible refine (nm_20 HA.out).mono ?_)
  clear HA; rintro e u20 ⟨rfl, h⟩; have HA := Aside0.mk h; clear h
  go_wp2_with fail
  go_at_call 18
  (with_reducible refine (nm_21 HA.out).mono ?_)
  clear HA; rintro e u21 ⟨rfl, h⟩; have HA := Aside0.mk h; clear h
  go_wp2_with fail
  go_at_call 16
  (with_reducible refine (nm_22 HA.out).mono ?_)
  clear HA; rintro e u22 ⟨rfl, h⟩; have HA := Aside0.mk h; clear h
  go_wp2_with fail
  go_at_call 16
  (with_reducible refine (nm_23 HA.out).mono ?_)
  clear HA; rintro e u23 ⟨rfl, h⟩; have HA := Aside0.mk h; clear h
  go_wp2_with fail
  go_at_call 11
  (with_reducible refine (nm_24 HA.out).mono ?_)
  clear HA; rintro e u24 ⟨rfl, h⟩; have HA := Aside0.mk h; clear h
  go_wp2_with fail
  go_at_call 16
  (with_reducible refine (get_nil _ _ _).mono ?_)
  rintro e v0 ⟨rfl, hb⟩; have h := HA.out.below hb; clear HA hb; have HA := Aside0.mk h; clear h
  go_wp2_with fail
  go_at_call 11
  (with_reducible refine (lon_nil3 _ _).mono ?_)
  rintro e v1 ⟨rfl, hb⟩; have h := HA.out.below hb; clear HA hb; have HA := Aside0.mk h; clear h
  go_wp2_with fail
  go_at_call 14
  (with_reducible refine (put_nil _ _ _ _).mono ?_)
  rintro e v2 ⟨rfl, hb⟩; have h := HA.out.below hb; clear HA hb; have HA := Aside0.mk h; clear h
  go_wp2_with fail
  go_at_call 17
  (with_reducible refine (del_nil _ _ _).mono ?_)
  rintro e v3 ⟨rfl, hb⟩; have h := HA.out.below hb; clear HA hb; have HA := Aside0.mk h; clear h
  go_wp2_with fail
  go_at_call 18
  (with_reducible refine (len_nil _).mono ?_)
  rintro e v4 ⟨rfl, hb⟩; have h := HA.out.below hb; clear HA hb; have HA := Aside0.mk h; clear h
  go_wp2_with fail
  go_at_call 12
  (with_reducible refine (all_nil _).mono ?_)
  rintro e v5 ⟨rfl, hb⟩; have h := HA.out.below hb; clear HA hb; have HA := Aside0.mk h; clear h
  go_wp2_with fail
  go_at_call 22
  (with_reducible refine (copy_nil _).mono ?_)
  rintro e v6 ⟨rfl, hb⟩; have h := HA.out.below hb; clear HA hb; have HA := Aside0.mk h; clear h
  go_wp2_with fail
  go_ret
  exact ⟨rfl, HA.out.bel⟩
end Go.Proofs.Ytpchlnbnpgaocaa.PTrie
