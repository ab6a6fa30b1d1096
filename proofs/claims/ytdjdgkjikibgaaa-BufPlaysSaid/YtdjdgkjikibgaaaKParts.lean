/- BufParts by hand. -/
import Derived.Test.YtdjdgkjikibgaaaKBuf9
namespace Go.Proofs.Ytdjdgkjikibgaaa.PBuf
open Go.RowKit Go.Proofs.YtdjdgkjikibgaaaW.PrintWords Go.Proofs.YtdjdgkjikibgaaaW.PrintLast Go.Proofs.YtdjdgkjikibgaaaW.PrintMore Go.Proofs.Ytdjdgkjikibgaaa.KBuf
set_option linter.unusedVariables false
set_option linter.unusedSimpArgs false
theorem within_ev (x : Int) (N : Nat) (hN : N ≤ 100000) : ∃ q : Nat, q ≤ N ∧ turnoutlaw05_within.f x N = some (q : Int) := by
  have e1 : IntKind.u64.wrap (wrap64 ((N : Int) + 1)) = ((N + 1 : Nat) : Int) := by
    rw [IntKind.wrap_u64]; unfold wrap64; omega
  have h0 : 0 ≤ IntKind.u64.wrap x ∧ IntKind.u64.wrap x < 18446744073709551616 := by rw [IntKind.wrap_u64]; omega
  obtain ⟨m, hm⟩ := Int.eq_ofNat_of_zero_le h0.1
  refine ⟨m % (N + 1), by have := Nat.mod_lt m (show 0 < N + 1 by omega); omega, ?_⟩
  unfold turnoutlaw05_within.f
  rw [e1, if_neg (by omega), hm]
  have e2 : Int.tmod (m : Int) ((N + 1 : Nat) : Int) = ((m % (N + 1) : Nat) : Int) := by
    rw [Int.tmod_eq_emod_of_nonneg (by omega)]; omega
  rw [e2]
  have := Nat.mod_lt m (show 0 < N + 1 by omega)
  congr 1
  unfold wrap64; omega
section
variable {w u : World} {p q : Nat} {D B : List UInt8}
theorem two_ins (h : Two w u p D q B) (a n : Nat) {ai ni : Int} (hai : ai = a) (hni : ni = n) (ha : a ≤ D.length) (hn : D.length + n ≤ 9216) (D' : List UInt8) (hD : D.take a ++ List.replicate n 0 ++ D.drop a = D') :
    Calls Try.prog 14 #[.pointer (some ⟨p, 0, none⟩), .int .i64 ai, .int .i64 ni] u fun e u' => e = .returned (.int .i64 0) ∧ Two w u' p D' q B := by
  subst hai hni hD; exact h.lift fun g cap hB => ins_d hB a n ha hn
theorem two_del (h : Two w u p D q B) (a n : Nat) {ai ni : Int} (hai : ai = a) (hni : ni = n) (ha : a + n ≤ D.length) (D' : List UInt8) (hD : D.take a ++ D.drop (a + n) = D') :
    Calls Try.prog 16 #[.pointer (some ⟨p, 0, none⟩), .int .i64 ai, .int .i64 ni] u fun e u' => e = .returned (.int .i64 0) ∧ Two w u' p D' q B := by
  subst hai hni hD; exact h.lift fun g cap hB => del_d hB a n ha
theorem Two.below {u' : World} (h : Two w u p D q B) (hb : Below u.heap.size u u') : Two w u' p D q B := by
  obtain ⟨ga, ca, gb, cb, h1, h2, h3, h4, h5, h6, h7, h8, h9, h10, h11⟩ := h
  exact ⟨ga, ca, gb, cb, h1.below hb, h2.below hb, h3, h4, h5, h6, h7, h8, h9, h10, below_step h11 hb⟩
theorem within_c (x : Int) (N : Nat) {ni : Int} (hN : ni = N) (q : Nat) (h : turnoutlaw05_within.f x N = some (q : Int)) :
    Calls Try.prog 12 #[.int .i64 x, .int .i64 ni] u fun e u' => e = .returned (.int .i64 q) ∧ Below u.heap.size u u' := by
  subst hN
  exact (turnoutlaw05_within.calls x N q u h).mono fun e u' hd => by
    obtain ⟨he, m, hm⟩ := hd
    exact ⟨he, by rw [hm]; exact pw_below_drewN (Below.refl _ _) m⟩
theorem two_text (h : Two w u p D q B) : Calls Try.prog 17 #[.pointer (some ⟨p, 0, none⟩)] u fun e u' => e = .returned (.string (KBuf.txt D)) ∧ Two w u' p D q B := h.lift fun g cap hB => text_d hB
end
theorem ins_parts (L : List UInt8) (k x y r : Nat) (hk : k ≤ L.length) (hr : r ≤ x) :
    (L.take k ++ List.replicate x 0 ++ L.drop k).take (k + r) ++ List.replicate y 0 ++ (L.take k ++ List.replicate x 0 ++ L.drop k).drop (k + r) = L.take k ++ List.replicate (x + y) 0 ++ L.drop k := by
  have hl : (L.take k).length = k := by rw [List.length_take]; omega
  have hA : L.take k ++ List.replicate x 0 ++ L.drop k = (L.take k ++ List.replicate r 0) ++ (List.replicate (x - r) 0 ++ L.drop k) := by
    have e : List.replicate x (0 : UInt8) = List.replicate r 0 ++ List.replicate (x - r) 0 := by rw [List.replicate_append_replicate]; congr 1; omega
    rw [e]
    simp only [List.append_assoc]
  have hl2 : (L.take k ++ List.replicate r (0 : UInt8)).length = k + r := by rw [List.length_append, hl, List.length_replicate]
  rw [hA, List.take_left' hl2, List.drop_left' hl2]
  have : List.replicate (x + y) (0 : UInt8) = List.replicate r 0 ++ (List.replicate y 0 ++ List.replicate (x - r) 0) := by
    rw [List.replicate_append_replicate, List.replicate_append_replicate]; congr 1; omega
  rw [this]
  simp only [List.append_assoc]
theorem del_parts (L : List UInt8) (k x y : Nat) (hk : k ≤ L.length) :
    (L.take k ++ L.drop (k + x)).take k ++ (L.take k ++ L.drop (k + x)).drop (k + y) = L.take k ++ L.drop (k + (x + y)) := by
  have hl : (L.take k).length = k := by rw [List.length_take]; omega
  rw [List.take_left' hl]
  congr 1
  rw [List.drop_append, hl, List.drop_of_length_le (by omega), List.nil_append, List.drop_drop]
  congr 1
  omega
set_option maxHeartbeats 8000000 in
set_option maxRecDepth 100000 in
theorem parts_big (s : ByteArray) (a n m : Int) (w : World) (hs : s.size ≤ 140737488351232) (hbig : 4000 < s.size) : Calls Try.prog 5 #[.string s, .int .i64 a, .int .i64 n, .int .i64 m] w fun e w' => e = .returned (.bool true) ∧ Below w.heap.size w w' := by
  have h1 : decide ((s.size : Int) > 4000) = true := decide_eq_true (by omega)
  go_enter Try.func5, Try.ntmps5
  go_wp2_with fail
  go_at_call 11
  (with_reducible refine (awake_ok _).mono ?_)
  rintro e u ⟨rfl, hb⟩
  have HB := Aside0.mk hb
  clear hb
  go_wp2_with fail
  go_ret
  exact ⟨rfl, HB.out⟩
set_option maxHeartbeats 8000000 in
set_option maxRecDepth 100000 in
theorem parts_ok (s : ByteArray) (a n m : Int) (w : World) (hs : s.size ≤ 4000) : Calls Try.prog 5 #[.string s, .int .i64 a, .int .i64 n, .int .i64 m] w fun e w' => e = .returned (.bool true) ∧ Below w.heap.size w w' := by
  have h1 : decide ((s.size : Int) > 4000) = false := decide_eq_false (by omega)
  obtain ⟨k, hk, hk'⟩ := within_ev a s.size (by omega)
  obtain ⟨x, hx, hx'⟩ := within_ev n 200 (by omega)
  obtain ⟨y, hy, hy'⟩ := within_ev m 200 (by omega)
  obtain ⟨r, hr, hr'⟩ := within_ev m x (by omega)
  obtain ⟨x2, hx2, hx2'⟩ := within_ev n (s.size - k) (by omega)
  obtain ⟨y2, hy2, hy2'⟩ := within_ev m (s.size - k - x2) (by omega)
  have f1 : IntKind.i64.wrap ((k : Int) + (r : Int)) = (k : Int) + (r : Int) := by rw [i64_w]; unfold wrap64; omega
  have f2 : IntKind.i64.wrap ((x : Int) + (y : Int)) = (x : Int) + (y : Int) := by rw [i64_w]; unfold wrap64; omega
  have f3 : IntKind.i64.wrap ((x2 : Int) + (y2 : Int)) = (x2 : Int) + (y2 : Int) := by rw [i64_w]; unfold wrap64; omega
  have f4 : IntKind.i64.wrap ((s.size : Int) - (k : Int)) = (s.size : Int) - (k : Int) := by rw [i64_w]; unfold wrap64; omega
  have f5 : IntKind.i64.wrap ((s.size : Int) - (k : Int) - (x2 : Int)) = (s.size : Int) - (k : Int) - (x2 : Int) := by rw [i64_w]; unfold wrap64; omega
  have HK := Aside0.mk hk'
  have HX := Aside0.mk hx'
  have HY := Aside0.mk hy'
  have HR := Aside0.mk hr'
  have HX2 := Aside0.mk hx2'
  have HY2 := Aside0.mk hy2'
  have hL : s.data.toList.length = s.size := data_length s
  have HL := Aside0.mk hL
  have HF := Aside0.mk (And.intro hs (And.intro hk (And.intro hx (And.intro hy (And.intro hr (And.intro hx2 hy2))))))
  clear hk' hx' hy' hr' hx2' hy2' hk hx hy hr hx2 hy2 hL hs
  go_enter Try.func5, Try.ntmps5
  go_wp2_with fail
  go_at_call 11
  (with_reducible refine (awake_ok _).mono ?_)
  rintro e u ⟨rfl, hb⟩
  have HB := Aside0.mk hb
  clear hb
  go_wp2_with fail
  go_at_call 12
  (with_reducible refine (within_c a s.size (by rfl) _ HK.out).mono ?_)
  rintro e u1 ⟨rfl, hb⟩
  have HB' := Aside0.mk (below_step HB.out hb); clear hb HB; have HB := HB'; clear HB'
  go_wp2_with fail
  go_at_call 12
  (with_reducible refine (within_c n 200 (by omega) _ HX.out).mono ?_)
  rintro e u2 ⟨rfl, hb⟩
  have HB' := Aside0.mk (below_step HB.out hb); clear hb HB; have HB := HB'; clear HB'
  go_wp2_with fail
  go_at_call 12
  (with_reducible refine (within_c m 200 (by omega) _ HY.out).mono ?_)
  rintro e u3 ⟨rfl, hb⟩
  have HB' := Aside0.mk (below_step HB.out hb); clear hb HB; have HB := HB'; clear HB'
  go_wp2_with fail
  go_at_call 13
  (with_reducible refine (of_at s w _ HB.out (by have := HF.out; omega)).mono ?_)
  rintro e u4 ⟨p, rfl, h⟩
  have HA := Aside0.mk h
  clear h
  go_wp2_with fail
  go_at_call 13
  (with_reducible refine (of_two s HA.out (by have := HF.out; omega)).mono ?_)
  clear HA; rintro e u5 ⟨q, rfl, h⟩; have HA := Aside0.mk h; clear h
  go_wp2_with fail
  go_at_call 14
  (with_reducible refine (two_ins HA.out k x rfl rfl (by have := HF.out; have := HL.out; omega) (by have := HF.out; have := HL.out; omega) _ rfl).mono ?_)
  clear HA; rintro e u6 ⟨rfl, h⟩; have HA := Aside0.mk h; clear h
  go_wp2_with fail
  go_at_call 12
  (with_reducible refine (within_c m x (by rfl) _ HR.out).mono ?_)
  rintro e u7 ⟨rfl, hb⟩
  have HA' := Aside0.mk (HA.out.below hb); clear hb HA; have HA := HA'; clear HA'
  go_wp2_with fail
  go_at_call 14
  (with_reducible refine (two_ins HA.out (k + r) y (by omega) rfl (by have := HF.out; have := HL.out; simp only [List.length_append, List.length_take, List.length_drop, List.length_replicate]; omega) (by have := HF.out; have := HL.out; simp only [List.length_append, List.length_take, List.length_drop, List.length_replicate]; omega) _ (ins_parts s.data.toList k x y r (by have := HF.out; have := HL.out; omega) (by have := HF.out; omega))).mono ?_)
  clear HA; rintro e u8 ⟨rfl, h⟩; have HA := Aside0.mk h; clear h
  go_wp2_with fail
  go_at_call 14
  (with_reducible refine (two_ins HA.out.symm k (x + y) rfl (by omega) (by have := HF.out; have := HL.out; omega) (by have := HF.out; have := HL.out; omega) _ rfl).mono ?_)
  clear HA; rintro e u9 ⟨rfl, h⟩; have HA := Aside0.mk h.symm; clear h
  go_wp2_with fail
  go_at_call 17
  (with_reducible refine (two_text HA.out).mono ?_)
  clear HA; rintro e u10 ⟨rfl, h⟩; have HA := Aside0.mk h; clear h
  go_wp2_with fail
  go_at_call 17
  (with_reducible refine (two_text HA.out.symm).mono ?_)
  clear HA; rintro e u11 ⟨rfl, h⟩; have HA := Aside0.mk h.symm; clear h
  go_wp2_with fail
  have h := HA.out.bel; clear HA HB; have HB := Aside0.mk h; clear h
  go_at_call 12
  (with_reducible refine (within_c n (s.size - k) (by have := HF.out; omega) _ HX2.out).mono ?_)
  rintro e u12 ⟨rfl, hb⟩
  have HB' := Aside0.mk (below_step HB.out hb); clear hb HB; have HB := HB'; clear HB'
  go_wp2_with fail
  go_at_call 12
  (with_reducible refine (within_c m (s.size - k - x2) (by have := HF.out; omega) _ HY2.out).mono ?_)
  rintro e u13 ⟨rfl, hb⟩
  have HB' := Aside0.mk (below_step HB.out hb); clear hb HB; have HB := HB'; clear HB'
  go_wp2_with fail
  go_at_call 13
  (with_reducible refine (of_at s w _ HB.out (by have := HF.out; omega)).mono ?_)
  rintro e u14 ⟨p2, rfl, h⟩
  have HA := Aside0.mk h
  clear h
  go_wp2_with fail
  go_at_call 13
  (with_reducible refine (of_two s HA.out (by have := HF.out; omega)).mono ?_)
  clear HA; rintro e u15 ⟨q2, rfl, h⟩; have HA := Aside0.mk h; clear h
  go_wp2_with fail
  go_at_call 16
  (with_reducible refine (two_del HA.out k x2 rfl rfl (by have := HF.out; have := HL.out; omega) _ rfl).mono ?_)
  clear HA; rintro e u16 ⟨rfl, h⟩; have HA := Aside0.mk h; clear h
  go_wp2_with fail
  go_at_call 16
  (with_reducible refine (two_del HA.out k y2 rfl rfl (by have := HF.out; have := HL.out; simp only [List.length_append, List.length_take, List.length_drop]; omega) _ (del_parts s.data.toList k x2 y2 (by have := HF.out; have := HL.out; omega))).mono ?_)
  clear HA; rintro e u17 ⟨rfl, h⟩; have HA := Aside0.mk h; clear h
  go_wp2_with fail
  go_at_call 16
  (with_reducible refine (two_del HA.out.symm k (x2 + y2) rfl (by omega) (by have := HF.out; have := HL.out; omega) _ rfl).mono ?_)
  clear HA; rintro e u18 ⟨rfl, h⟩; have HA := Aside0.mk h.symm; clear h
  go_wp2_with fail
  go_at_call 17
  (with_reducible refine (two_text HA.out).mono ?_)
  clear HA; rintro e u19 ⟨rfl, h⟩; have HA := Aside0.mk h; clear h
  go_wp2_with fail
  go_at_call 17
  (with_reducible refine (two_text HA.out.symm).mono ?_)
  clear HA; rintro e u20 ⟨rfl, h⟩; have HA := Aside0.mk h.symm; clear h
  go_wp2_with fail
  go_ret
  exact ⟨rfl, HA.out.bel⟩
theorem bufParts (s : ByteArray) (a n m : Int) (w : World) (hs : s.size ≤ 140737488351232) : Calls Try.prog 5 #[.string s, .int .i64 a, .int .i64 n, .int .i64 m] w fun e w' => e = .returned (.bool true) ∧ Below w.heap.size w w' := by
  by_cases h : s.size ≤ 4000
  · exact parts_ok s a n m w h
  · exact parts_big s a n m w hs (by omega)
end Go.Proofs.Ytdjdgkjikibgaaa.PBuf
