/- BufSums by hand. -/
import Derived.Test.YtdjdgkjikibgaaaKVal
namespace Go.Proofs.Ytdjdgkjikibgaaa.PBuf
open Go.RowKit Go.Proofs.YtdjdgkjikibgaaaW.PrintWords Go.Proofs.YtdjdgkjikibgaaaW.PrintLast Go.Proofs.YtdjdgkjikibgaaaW.PrintMore
set_option linter.unusedVariables false
set_option linter.unusedSimpArgs false
theorem data_cut (s : ByteArray) (a b : Nat) (h : b ≤ s.size) : (s.extract a b).data.toList = part s.data.toList a (b - a) := by
  rw [ByteArray.data_extract, Array.toList_extract, List.extract_eq_take_drop]; rfl
theorem add_c {u : World} {a b : Int} (ha : 0 ≤ a) (ha' : a ≤ 65535) (hb : 0 ≤ b) (hb' : b ≤ 65535) (c : Int) (hc : MSum.rep (a + b) = c) : Calls Try.prog 22 #[.int .u16 a, .int .u16 b] u fun e u' => e = .returned (.int .u16 c) ∧ Below u.heap.size u u' := by
  obtain ⟨k, hk⟩ := add_k ha ha' hb hb'
  subst hc
  exact (sum_Add.calls k a b _ u hk).mono fun e u' hd => by
    obtain ⟨he, m, hm⟩ := hd
    exact ⟨he, by rw [hm]; exact pw_below_drewN (Below.refl _ _) m⟩
theorem one_c {u : World} (s : ByteArray) (hs : s.size ≤ 281474976710656) (c : Int) (hc : sumV s.data.toList = c) {g : Nat} (hg : g = u.heap.size) : Calls Try.prog 23 #[.slice (some ⟨g, 0, none⟩) 1 1] (u.alloc (Obj.cells #[.string s] 9)) fun e u' => e = .returned (.int .u16 c) ∧ Below u.heap.size u u' := by
  obtain ⟨k, hk⟩ := sum_k s hs
  subst hc hg
  exact sum_one_calls k s _ u hk
set_option maxHeartbeats 8000000 in
set_option maxRecDepth 100000 in
theorem sums_big (s : ByteArray) (a n m v : Int) (w : World) (hs : s.size ≤ 140737488351232) (hbig : 4000 < s.size) : Calls Try.prog 7 #[.string s, .int .i64 a, .int .i64 n, .int .i64 m, .int .u16 v] w fun e w' => e = .returned (.bool true) ∧ Below w.heap.size w w' := by
  have h1 : decide ((s.size : Int) > 4000) = true := decide_eq_true (by omega)
  go_enter Try.func7, Try.ntmps7
  go_wp2_with fail
  go_at_call 11
  (with_reducible refine (awake_ok _).mono ?_)
  rintro e u ⟨rfl, hb⟩
  have HB := Aside0.mk hb
  clear hb
  go_wp2_with fail
  go_ret
  exact ⟨rfl, HB.out⟩
theorem cut_mid (L : List UInt8) (i : Nat) (a b c d : UInt8) (hi : i ≤ L.length) : (L.take i ++ List.replicate 2 0 ++ L.drop i).take i ++ [a, b] ++ (L.take i ++ List.replicate 2 0 ++ L.drop i).drop (i + 2) = L.take i ++ [a, b] ++ L.drop i := by
  have hl : (L.take i).length = i := by rw [List.length_take]; omega
  rw [List.append_assoc (L.take i), List.take_left' hl]
  congr 1
  rw [← List.append_assoc]
  exact List.drop_left' (by rw [List.length_append, hl, List.length_replicate])
theorem part_mid (L : List UInt8) (k x y : Nat) (a b : UInt8) (h : k + x + y ≤ L.length) : part (L.take (k + x) ++ [a, b] ++ L.drop (k + x)) k (x + y + 2) = part L k x ++ [a, b] ++ part L (k + x) y := by
  have hl : (L.take (k + x)).length = k + x := by rw [List.length_take]; omega
  have hp := part_len L k x (by omega)
  unfold part at hp ⊢
  have e1 : (L.take (k + x) ++ [a, b] ++ L.drop (k + x)).drop k = (L.drop k).take x ++ [a, b] ++ L.drop (k + x) := by
    rw [List.append_assoc, List.drop_append_of_le_length (by rw [hl]; omega), List.drop_take, show k + x - k = x by omega, List.append_assoc]
  rw [e1]
  have hq : ((L.drop k).take x ++ [a, b]).length = x + 2 := by rw [List.length_append, hp]; rfl
  rw [List.take_append, hq, List.take_of_length_le (by rw [hq]; omega)]
  congr 2
  omega
theorem wid {n : Int} (h0 : 0 ≤ n) (h1 : n ≤ 1000000) : IntKind.i64.wrap n = n := by rw [i64_w]; exact MSum.w64 (by omega) (by omega)
theorem wid' {n : Int} (h0 : 0 ≤ n) (h1 : n ≤ 1000000) : wrap64 n = n := MSum.w64 (by omega) (by omega)
theorem sums_f (S k x0 x y : Nat) (hs : S ≤ 4000) (hk : k ≤ S) (hx : x = x0 / 2 * 2) (hx0 : x0 ≤ S - k) (hy : y ≤ S - k - x) : ((x0 : Int) / 2 * 2 = (x : Int)) ∧ (wrap64 ((x0 : Int) / 2) = (x0 : Int) / 2) ∧ (wrap64 (x : Int) = (x : Int)) ∧ (IntKind.i64.wrap ((x0 : Int) / 2) = (x0 : Int) / 2) ∧ (IntKind.i64.wrap ((x0 : Int) / 2 * 2) = (x : Int)) ∧ (wrap64 (8 * ((k : Int) + (x : Int))) = 8 * ((k : Int) + (x : Int))) ∧ (IntKind.i64.wrap (8 * ((k : Int) + (x : Int))) = 8 * ((k : Int) + (x : Int))) ∧ (wrap64 ((x : Int) + (y : Int) + 2) = (x : Int) + (y : Int) + 2) ∧ (IntKind.i64.wrap ((k : Int) + (x : Int)) = (k : Int) + (x : Int)) ∧ (IntKind.i64.wrap ((x : Int) + (y : Int)) = (x : Int) + (y : Int)) ∧ (IntKind.i64.wrap ((x : Int) + (y : Int) + 2) = (x : Int) + (y : Int) + 2) ∧ (IntKind.i64.wrap ((S : Int) - (k : Int)) = (S : Int) - (k : Int)) ∧ (IntKind.i64.wrap ((S : Int) - (k : Int) - (x : Int)) = (S : Int) - (k : Int) - (x : Int)) ∧ (((k : Int) + (x : Int)).toNat = k + x) ∧ ((k : Int) ≤ (k : Int) + (x : Int)) ∧ ((k : Int) + (x : Int) ≤ (S : Int)) ∧ ((0 : Int) ≤ (k : Int) + (x : Int)) := by
  have b1 : x ≤ x0 := by omega
  have b2 : (k : Int) + x + y ≤ S := by omega
  have b3 : (x0 : Int) / 2 * 2 = (x : Int) := by omega
  have b4 : 0 ≤ (x0 : Int) / 2 ∧ (x0 : Int) / 2 ≤ 4000 := by omega
  clear hx
  refine ⟨by first | exact wid (by omega) (by omega) | exact wid' (by omega) (by omega) | (rw [b3]; exact wid (by omega) (by omega)) | omega, by first | exact wid (by omega) (by omega) | exact wid' (by omega) (by omega) | (rw [b3]; exact wid (by omega) (by omega)) | omega, by first | exact wid (by omega) (by omega) | exact wid' (by omega) (by omega) | (rw [b3]; exact wid (by omega) (by omega)) | omega, by first | exact wid (by omega) (by omega) | exact wid' (by omega) (by omega) | (rw [b3]; exact wid (by omega) (by omega)) | omega, by first | exact wid (by omega) (by omega) | exact wid' (by omega) (by omega) | (rw [b3]; exact wid (by omega) (by omega)) | omega, by first | exact wid (by omega) (by omega) | exact wid' (by omega) (by omega) | (rw [b3]; exact wid (by omega) (by omega)) | omega, by first | exact wid (by omega) (by omega) | exact wid' (by omega) (by omega) | (rw [b3]; exact wid (by omega) (by omega)) | omega, by first | exact wid (by omega) (by omega) | exact wid' (by omega) (by omega) | (rw [b3]; exact wid (by omega) (by omega)) | omega, by first | exact wid (by omega) (by omega) | exact wid' (by omega) (by omega) | (rw [b3]; exact wid (by omega) (by omega)) | omega, by first | exact wid (by omega) (by omega) | exact wid' (by omega) (by omega) | (rw [b3]; exact wid (by omega) (by omega)) | omega, by first | exact wid (by omega) (by omega) | exact wid' (by omega) (by omega) | (rw [b3]; exact wid (by omega) (by omega)) | omega, by first | exact wid (by omega) (by omega) | exact wid' (by omega) (by omega) | (rw [b3]; exact wid (by omega) (by omega)) | omega, by first | exact wid (by omega) (by omega) | exact wid' (by omega) (by omega) | (rw [b3]; exact wid (by omega) (by omega)) | omega, by first | exact wid (by omega) (by omega) | exact wid' (by omega) (by omega) | (rw [b3]; exact wid (by omega) (by omega)) | omega, by first | exact wid (by omega) (by omega) | exact wid' (by omega) (by omega) | (rw [b3]; exact wid (by omega) (by omega)) | omega, by first | exact wid (by omega) (by omega) | exact wid' (by omega) (by omega) | (rw [b3]; exact wid (by omega) (by omega)) | omega, by first | exact wid (by omega) (by omega) | exact wid' (by omega) (by omega) | (rw [b3]; exact wid (by omega) (by omega)) | omega⟩
set_option maxHeartbeats 8000000 in
set_option maxRecDepth 100000 in
theorem sums_ok (s : ByteArray) (a n m : Int) (v : Nat) (w : World) (hs : s.size ≤ 4000) (hv : v < 65536) : Calls Try.prog 7 #[.string s, .int .i64 a, .int .i64 n, .int .i64 m, .int .u16 v] w fun e w' => e = .returned (.bool true) ∧ Below w.heap.size w w' := by
  have h1 : decide ((s.size : Int) > 4000) = false := decide_eq_false (by omega)
  obtain ⟨k, hk, hk'⟩ := within_ev a s.size (by omega)
  obtain ⟨x0, hx0, hx'⟩ := within_ev n (s.size - k) (by omega)
  obtain ⟨x, hx⟩ : ∃ x, x = x0 / 2 * 2 := ⟨_, rfl⟩
  obtain ⟨y, hy, hy'⟩ := within_ev m (s.size - k - x) (by omega)
  obtain ⟨f0, w1, w2, w3, w4, w5, w6, w7, f1, f2, f3, f4, f5, f6, f7, f8, f9⟩ := sums_f s.size k x0 x y hs hk hx hx0 hy
  have g1 : IntKind.u64.wrap (v : Int) = (v : Int) := by rw [IntKind.wrap_u64]; omega
  have HK := Aside0.mk hk'
  have HX := Aside0.mk hx'
  have HY := Aside0.mk hy'
  have hL : s.data.toList.length = s.size := data_length s
  have HL := Aside0.mk hL
  have hev : (part s.data.toList k x).length % 2 = 0 := by rw [part_len _ _ _ (by omega)]; omega
  have q1 := sumV_two (part s.data.toList k x) (part s.data.toList (k + x) y) hev
  have q2 := sumV_mid (part s.data.toList k x) (part s.data.toList (k + x) y) v hv hev
  rw [← part_two] at q1 q2
  have q3 : sumV (s.extract k (k + x)).data.toList = sumV (part s.data.toList k x) := by rw [data_cut _ _ _ (by omega)]; congr 2; omega
  have r1 := sumV_range (part s.data.toList k x)
  have r2 := sumV_range (part s.data.toList (k + x) y)
  have r3 := sumV_range (part s.data.toList k (x + y))
  obtain ⟨P, hP⟩ : ∃ P, P = sumV (part s.data.toList k x) := ⟨_, rfl⟩
  obtain ⟨Q, hQ⟩ : ∃ Q, Q = sumV (part s.data.toList (k + x) y) := ⟨_, rfl⟩
  obtain ⟨R, hR⟩ : ∃ R, R = sumV (part s.data.toList k (x + y)) := ⟨_, rfl⟩
  obtain ⟨T, hT⟩ : ∃ T, T = sumV (part s.data.toList k x ++ [UInt8.ofNat (v / 256), UInt8.ofNat (v % 256)] ++ part s.data.toList (k + x) y) := ⟨_, rfl⟩
  rw [← hP] at q1 q3 r1
  rw [← hQ] at q1 r2
  rw [← hR] at q1 q2 r3
  rw [← hT] at q2
  have hsz : (s.extract k (k + x)).size ≤ 281474976710656 := by rw [ByteArray.size_extract]; omega
  have HF := Aside0.mk (And.intro hs (And.intro hk (And.intro hx (And.intro hy (And.intro hx0 (And.intro hv hL))))))
  have HQ := Aside0.mk (And.intro q1 (And.intro q2 (And.intro q3 (And.intro r1 (And.intro r2 (And.intro r3 hsz))))))
  have HS := Aside0.mk (And.intro hP (And.intro hQ (And.intro hR hT)))
  clear hk' hx' hy' hk hx hy hx0 hL hs q1 q2 q3 r1 r2 r3 hP hQ hR hT hev hsz hv
  go_enter Try.func7, Try.ntmps7
  go_wp2_with fail
  go_at_call 11
  (with_reducible refine (awake_ok _).mono ?_)
  rintro e u ⟨rfl, hb⟩
  have HB := Aside0.mk hb
  clear hb
  go_wp2_with fail
  go_at_call 12
  (with_reducible refine (within_c a s.size (by rfl) _ HK.out).mono ?_)
  rintro e u1 ⟨rfl, hb⟩
  have HB' := Aside0.mk (below_step HB.out hb); clear hb HB; have HB := HB'; clear HB'
  go_wp2_with fail
  go_at_call 12
  (with_reducible refine (within_c n (s.size - k) (by have := HF.out; omega) _ HX.out).mono ?_)
  rintro e u2 ⟨rfl, hb⟩
  have HB' := Aside0.mk (below_step HB.out hb); clear hb HB; have HB := HB'; clear HB'
  go_wp2_with fail
  go_at_call 12
  (with_reducible refine (within_c m (s.size - k - x) (by have := HF.out; omega) _ HY.out).mono ?_)
  rintro e u3 ⟨rfl, hb⟩
  have HB' := Aside0.mk (below_step HB.out hb); clear hb HB; have HB := HB'; clear HB'
  go_wp2_with fail
  go_at_call 13
  (with_reducible refine (of_at s w _ HB.out (by have := HF.out; omega)).mono ?_)
  rintro e u4 ⟨p, rfl, h⟩
  have HA := Aside0.mk h
  clear h
  go_wp2_with fail
  go_at_call 21
  (with_reducible refine (at_sum HA.out k x rfl rfl (by have := HF.out; omega) (part s.data.toList k x) rfl).mono ?_)
  clear HA; rw [← HS.out.1]; rintro e u5 ⟨rfl, h⟩; have HA := Aside0.mk h; clear h
  go_wp2_with fail
  go_at_call 21
  (with_reducible refine (at_sum HA.out (k + x) y (by omega) rfl (by have := HF.out; omega) (part s.data.toList (k + x) y) rfl).mono ?_)
  clear HA; rw [← HS.out.2.1]; rintro e u6 ⟨rfl, h⟩; have HA := Aside0.mk h; clear h
  go_wp2_with fail
  go_at_call 21
  (with_reducible refine (at_sum HA.out k (x + y) rfl (by omega) (by have := HF.out; omega) (part s.data.toList k (x + y)) rfl).mono ?_)
  clear HA; rw [← HS.out.2.2.1]; rintro e u7 ⟨rfl, h⟩; have HA := Aside0.mk h; clear h
  go_wp2_with fail
  go_at_call 22
  (with_reducible refine (add_c HQ.out.2.2.2.1.1 HQ.out.2.2.2.1.2 HQ.out.2.2.2.2.1.1 HQ.out.2.2.2.2.1.2 R HQ.out.1).mono ?_)
  rintro e u8 ⟨rfl, hb⟩
  have h := HA.out.below hb; clear HA hb; have HA := Aside0.mk h; clear h
  go_wp2_with fail
  go_at_call 23
  (with_reducible refine (one_c (s.extract k (k + x)) HQ.out.2.2.2.2.2.2 P HQ.out.2.2.1 rfl).mono ?_)
  rintro e u9 ⟨rfl, hb⟩
  have h := HA.out.below hb; clear HA hb; have HA := Aside0.mk h; clear h
  go_wp2_with fail
  go_at_call 14
  (with_reducible refine (at_ins HA.out (k + x) 2 (by omega) (by omega) (by have := HF.out; omega) (by have := HF.out; omega) _ rfl).mono ?_)
  clear HA; rintro e u10 ⟨rfl, h⟩; have HA := Aside0.mk h; clear h
  go_wp2_with fail
  go_at_call 19
  (with_reducible refine (at_put2 HA.out (k + x) v (by omega) rfl (by have := HF.out; omega) (by have := HF.out; simp only [List.length_append, List.length_take, List.length_drop, List.length_replicate]; omega) _ (cut_mid s.data.toList (k + x) _ _ 0 0 (by have := HF.out; omega))).mono ?_)
  clear HA; rintro e u11 ⟨rfl, h⟩; have HA := Aside0.mk h; clear h
  go_wp2_with fail
  go_at_call 21
  (with_reducible refine (at_sum HA.out k (x + y + 2) rfl (by omega) (by have := HF.out; simp only [List.length_append, List.length_take, List.length_drop, List.length_cons, List.length_nil]; omega) _ (part_mid s.data.toList k x y _ _ (by have := HF.out; omega))).mono ?_)
  clear HA; rw [← HS.out.2.2.2]; rintro e u12 ⟨rfl, h⟩; have HA := Aside0.mk h; clear h
  go_wp2_with fail
  go_at_call 22
  (with_reducible refine (add_c (b := (v : Int)) HQ.out.2.2.2.2.2.1.1 HQ.out.2.2.2.2.2.1.2 (by omega) (by have := HF.out; omega) T HQ.out.2.1).mono ?_)
  rintro e u13 ⟨rfl, hb⟩
  have h := HA.out.below hb; clear HA hb; have HA := Aside0.mk h; clear h
  go_wp2_with fail
  go_ret
  exact ⟨rfl, HA.out.bel⟩
theorem bufSums (s : ByteArray) (a n m v : Int) (w : World) (hs : s.size ≤ 140737488351232) (hv : (Lit.int .u16 v).wf = true) : Calls Try.prog 7 #[.string s, .int .i64 a, .int .i64 n, .int .i64 m, .int .u16 v] w fun e w' => e = .returned (.bool true) ∧ Below w.heap.size w w' := by
  by_cases h : s.size ≤ 4000
  · have hb := MSum.bounds_u16 hv
    obtain ⟨v', rfl⟩ := Int.eq_ofNat_of_zero_le hb.1
    exact sums_ok s a n m v' w h (by omega)
  · exact sums_big s a n m v w hs (by omega)
end Go.Proofs.Ytdjdgkjikibgaaa.PBuf
