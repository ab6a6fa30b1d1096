/- BufMoves by hand: the walk. -/
import Derived.Test.YtdjdgkjikibgaaaKNames
import Derived.Test.YtdjdgkjikibgaaaKBack
namespace Go.Proofs.Ytdjdgkjikibgaaa.PBuf
open Go.Proofs.Ytdjdgkjikibgaaa.KReg Go.RowKit Go.Proofs.YtdjdgkjikibgaaaW.PrintWords Go.Proofs.YtdjdgkjikibgaaaW.PrintLast Go.Proofs.YtdjdgkjikibgaaaW.PrintMore
set_option linter.unusedVariables false
set_option linter.unusedSimpArgs false
section
variable {w u : World} {p b : Nat} {o : Obj} {D : List UInt8}
theorem AtB.drew {w u : World} {p b : Nat} {D : List UInt8} {o : Obj} (h : AtB w u p D b o) : AtB w u.drew p D b o := h.below (pw_below_drewN (Below.refl _ _) 1)
/-- The number of n bits at o, as a word. -/
def isV (D : List UInt8) (o n : Nat) (H L : Int) : Prop := MBits.hi (BitVec.ofNat 128 (MWin.val D o n)) = H ∧ MBits.lo (BitVec.ofNat 128 (MWin.val D o n)) = L
theorem isV_congr {D E : List UInt8} {o q n : Nat} {H L : Int} (h : isV D o n H L) (e : MWin.val D o n = MWin.val E q n) : isV E q n H L := by unfold isV at *; rw [← e]; exact h
theorem m_get (h : At w u p D) (o n : Nat) {oi ni : Int} (hoi : oi = o) (hni : ni = n) (hn : 1 ≤ n) (hn' : n ≤ 128) (ho : o + n ≤ 8 * D.length) (H L : Int) (hv : isV D o n H L) :
    Calls Try.prog 18 #[.pointer (some ⟨p, 0, none⟩), .int .i64 oi, .int .i64 ni] u fun e u' => e = .returned (.tuple #[.agg #[.int .u64 H, .int .u64 L], .int .i64 0]) ∧ At w u' p D := by
  obtain ⟨rfl, rfl⟩ := hv
  exact at_get h o n hoi hni hn hn' ho _ rfl
theorem b_get (h : AtB w u p D b o) (q n : Nat) {oi ni : Int} (hoi : oi = q) (hni : ni = n) (hn : 1 ≤ n) (hn' : n ≤ 128) (ho : q + n ≤ 8 * D.length) (H L : Int) (hv : isV D q n H L) :
    Calls Try.prog 18 #[.pointer (some ⟨p, 0, none⟩), .int .i64 oi, .int .i64 ni] u fun e u' => e = .returned (.tuple #[.agg #[.int .u64 H, .int .u64 L], .int .i64 0]) ∧ AtB w u' p D b o := by
  obtain ⟨rfl, rfl⟩ := hv
  subst hoi hni
  exact h.lift fun g cap hB => MWin.get_v hB q n rfl rfl hn hn' ho
theorem b_ins (h : AtB w u p D b o) (a n : Nat) {ai ni : Int} (hai : ai = a) (hni : ni = n) (ha : a ≤ D.length) (hn : D.length + n ≤ 9216) (D' : List UInt8) (hD : D.take a ++ List.replicate n 0 ++ D.drop a = D') :
    Calls Try.prog 14 #[.pointer (some ⟨p, 0, none⟩), .int .i64 ai, .int .i64 ni] u fun e u' => e = .returned (.int .i64 0) ∧ AtB w u' p D' b o := by
  subst hai hni hD; exact h.lift fun g cap hB => ins_d hB a n ha hn
theorem b_del (h : AtB w u p D b o) (a n : Nat) {ai ni : Int} (hai : ai = a) (hni : ni = n) (ha : a + n ≤ D.length) (D' : List UInt8) (hD : D.take a ++ D.drop (a + n) = D') :
    Calls Try.prog 16 #[.pointer (some ⟨p, 0, none⟩), .int .i64 ai, .int .i64 ni] u fun e u' => e = .returned (.int .i64 0) ∧ AtB w u' p D' b o := by
  subst hai hni hD; exact h.lift fun g cap hB => del_d hB a n ha
end
/-- The text behind the Insert. -/
def insD (L : List UInt8) (k m : Nat) : List UInt8 := L.take k ++ List.replicate m 0 ++ L.drop k
theorem insD_len (L : List UInt8) (k m : Nat) (hk : k ≤ L.length) : (insD L k m).length = L.length + m := by unfold insD; rw [List.length_append, List.length_append, List.length_take, List.length_replicate, List.length_drop]; omega
theorem insD_ahead (L : List UInt8) (k m i : Nat) (hk : k ≤ L.length) (hi : i < k) : (insD L k m).getD i 0 = L.getD i 0 := by
  unfold insD
  rw [List.getD_eq_getElem?_getD, List.getD_eq_getElem?_getD, List.append_assoc, List.getElem?_append_left (by rw [List.length_take]; omega), List.getElem?_take, if_pos hi]
theorem insD_behind (L : List UInt8) (k m i : Nat) (hk : k ≤ L.length) (hi : k ≤ i) : (insD L k m).getD (i + m) 0 = L.getD i 0 := by
  have hl : (L.take k ++ List.replicate m (0 : UInt8)).length = k + m := by rw [List.length_append, List.length_take, List.length_replicate]; omega
  unfold insD
  rw [List.getD_eq_getElem?_getD, List.getD_eq_getElem?_getD, List.getElem?_append_right (by omega), hl, List.getElem?_drop]
  congr 2; omega
theorem val_ahead (L : List UInt8) (k m o n : Nat) (hk : k ≤ L.length) (h : o + n ≤ 8 * k) : MWin.val L o n = MWin.val (insD L k m) o n :=
  MWin.val_congr fun j hj => by rw [insD_ahead L k m _ hk (by omega)]
theorem val_behind (L : List UInt8) (k m o n : Nat) (hk : k ≤ L.length) (h : 8 * k ≤ o) : MWin.val L o n = MWin.val (insD L k m) (o + 8 * m) n :=
  MWin.val_congr fun j hj => by rw [show (o + 8 * m + j) / 8 = (o + j) / 8 + m by omega, insD_behind L k m _ hk (by omega), show (o + 8 * m + j) % 8 = (o + j) % 8 by omega]
theorem val_drop (L : List UInt8) (k o n : Nat) (h : 8 * k ≤ o) : MWin.val L o n = MWin.val (L.drop k) (o - 8 * k) n :=
  MWin.val_congr fun j hj => by
    rw [List.getD_eq_getElem?_getD, List.getD_eq_getElem?_getD, List.getElem?_drop, show k + (o - 8 * k + j) / 8 = (o + j) / 8 by omega, show (o - 8 * k + j) % 8 = (o + j) % 8 by omega]
theorem insD_cut (L : List UInt8) (k m : Nat) (hk : k ≤ L.length) : (insD L k m).take k ++ (insD L k m).drop (k + (m + L.length - k)) = L.take k := by
  have hl : (L.take k).length = k := by rw [List.length_take]; omega
  have e1 : (insD L k m).take k = L.take k := by unfold insD; rw [List.append_assoc]; exact List.take_left' hl
  have e2 : (insD L k m).drop (k + (m + L.length - k)) = [] := List.drop_of_length_le (by rw [insD_len _ _ _ hk]; omega)
  rw [e1, e2, List.append_nil]
theorem insD_rest (L : List UInt8) (k m : Nat) (hk : k ≤ L.length) : (insD L k m).take 0 ++ (insD L k m).drop (0 + (k + m)) = L.drop k := by
  have hl : (L.take k ++ List.replicate m (0 : UInt8)).length = k + m := by rw [List.length_append, List.length_take, List.length_replicate]; omega
  have e2 : (insD L k m).drop (k + m) = L.drop k := by unfold insD; exact List.drop_left' hl
  rw [List.take_zero, Nat.zero_add, e2]; rfl
theorem txt_take (s : ByteArray) (k : Nat) (h : k ≤ s.size) : KBuf.txt (s.data.toList.take k) = s.extract 0 k := by
  have e1 : (s.extract 0 k).data.toList = s.data.toList.take k := by rw [ByteArray.data_extract, Array.toList_extract, List.extract_eq_take_drop]; simp
  rw [← e1, KBuf.txt_data]
theorem txt_drop (s : ByteArray) (k : Nat) (h : k ≤ s.size) : KBuf.txt (s.data.toList.drop k) = s.extract k s.size := by
  have e2 : (s.extract k s.size).data.toList = s.data.toList.drop k := by
    rw [ByteArray.data_extract, Array.toList_extract, List.extract_eq_take_drop, List.take_of_length_le]
    rw [List.length_drop]; show s.data.size - _ ≤ s.data.size - _; omega
  rw [← e2, KBuf.txt_data]
def big (n : Int) : Prop := wrap64 n = n ∧ IntKind.i64.wrap n = n
theorem bigOf {n : Int} (h0 : 0 ≤ n) (h1 : n ≤ 1000000) : big n := ⟨mid' h0 h1, mid h0 h1⟩
theorem moves_f (S k m q f : Nat) (hs : S ≤ 4000) (h0 : 0 < S) (hk : k ≤ S) (hm : m ≤ 300) (hq : 1 + q ≤ 128) (hf : f + (1 + q) ≤ 8 * S) :
    big (8 * (S : Int)) ∧ big (8 * (S : Int) - 1) ∧ big (1 + (q : Int)) ∧ big (8 * (S : Int) - (1 + (q : Int))) ∧ big ((f : Int) + (1 + (q : Int))) ∧ big (8 * (k : Int)) ∧ big ((m : Int) + (S : Int)) ∧ big ((m : Int) + (S : Int) - (k : Int)) ∧ big (8 * (m : Int)) ∧ big ((f : Int) + 8 * (m : Int)) ∧ big ((k : Int) + (m : Int)) :=
  ⟨bigOf (by omega) (by omega), bigOf (by omega) (by omega), bigOf (by omega) (by omega), bigOf (by omega) (by omega), bigOf (by omega) (by omega), bigOf (by omega) (by omega), bigOf (by omega) (by omega), bigOf (by omega) (by omega), bigOf (by omega) (by omega), bigOf (by omega) (by omega), bigOf (by omega) (by omega)⟩
theorem min_127 (S q : Nat) (h0 : 0 < S) (hq : q = min 127 (8 * S - 1)) (ats : Array TypeId) (ty : TypeId) : Builtin.min_ ats ty #[.int .i64 127, .int .i64 (8 * (S : Int) - 1)] = pure (.int .i64 (q : Int)) := by
  have e : (if (8 * (S : Int) - 1) < 127 then (8 * (S : Int) - 1) else 127) = (q : Int) := by split <;> omega
  simp only [min_two, min2_int, gt_iff_lt, pure_bind, bind_pure, e]
set_option maxHeartbeats 8000000 in
set_option maxRecDepth 100000 in
theorem moves_none (s : ByteArray) (a n f0 q0 : Int) (w : World) (hs : s.size ≤ 140737488351232) (hbig : s.size = 0) : Calls Try.prog 4 #[.string s, .int .i64 a, .int .i64 n, .int .i64 f0, .int .i64 q0] w fun e w' => e = .returned (.bool true) ∧ Below w.heap.size w w' := by
  go_enter Try.func4, Try.ntmps4
  go_wp2_with fail
  go_at_call 11
  (with_reducible refine (awake_ok _).mono ?_)
  rintro e u ⟨rfl, hb⟩
  have HB := Aside0.mk hb
  clear hb
  go_wp2_with fail
  go_ret
  exact ⟨rfl, HB.out⟩
set_option maxHeartbeats 8000000 in
set_option maxRecDepth 100000 in
theorem moves_big (s : ByteArray) (a n f0 q0 : Int) (w : World) (hs : s.size ≤ 140737488351232) (hbig : 4000 < s.size) : Calls Try.prog 4 #[.string s, .int .i64 a, .int .i64 n, .int .i64 f0, .int .i64 q0] w fun e w' => e = .returned (.bool true) ∧ Below w.heap.size w w' := by
  have h1 : decide ((s.size : Int) > 4000) = true := decide_eq_true (by omega)
  have h2 : ((s.size : Int) == 0) = false := beq_false_of_ne (by omega)
  go_enter Try.func4, Try.ntmps4
  go_wp2_with fail
  go_at_call 11
  (with_reducible refine (awake_ok _).mono ?_)
  rintro e u ⟨rfl, hb⟩
  have HB := Aside0.mk hb
  clear hb
  go_wp2_with fail
  go_ret
  exact ⟨rfl, HB.out⟩
set_option maxHeartbeats 8000000 in
set_option maxRecDepth 100000 in
theorem moves_a (s : ByteArray) (a n f0 q0 : Int) (w : World) (hs : s.size ≤ 4000) (h0 : 0 < s.size) (k m q f Q : Nat) (hQ : Q = min 127 (8 * s.size - 1)) (hk : k ≤ s.size) (hm : m ≤ 300) (hq : q ≤ Q) (hf : f ≤ 8 * s.size - (1 + q)) (HK : Aside0 (turnoutlaw05_within.f a s.size = some (k : Int))) (HM : Aside0 (turnoutlaw05_within.f n (300 : Nat) = some (m : Int)))
    (HW : Aside0 (turnoutlaw05_within.f q0 Q = some (q : Int))) (HO : Aside0 (turnoutlaw05_within.f f0 ((8 * s.size - (1 + q) : Nat) : Int) = some (f : Int))) (H L : Int) (HV : Aside0 (isV s.data.toList f (1 + q) H L)) (hc : f + (1 + q) ≤ 8 * k) :
    Calls Try.prog 4 #[.string s, .int .i64 a, .int .i64 n, .int .i64 f0, .int .i64 q0] w fun e w' => e = .returned (.bool true) ∧ Below w.heap.size w w' := by
  have g4 : (k : Int) ≤ (s.size : Int) := by omega
  have h1 : decide ((s.size : Int) > 4000) = false := decide_eq_false (by omega)
  have h3 : ((f : Int) + (1 + (q : Int)) ≤ 8 * (k : Int)) := by omega
  have h2 : ((s.size : Int) == 0) = false := beq_false_of_ne (by omega)
  have hmin := min_127 s.size Q h0 hQ
  obtain ⟨⟨c1, d1⟩, ⟨c2, d2⟩, ⟨c3, d3⟩, ⟨c4, d4⟩, ⟨c5, d5⟩, ⟨c6, d6⟩, ⟨c7, d7⟩, ⟨c8, d8⟩, ⟨c9, d9⟩, ⟨c10, d10⟩, ⟨c11, d11⟩⟩ := moves_f s.size k m q f hs h0 hk hm (by omega) (by omega)
  have hL : s.data.toList.length = s.size := data_length s
  have HF := Aside0.mk (And.intro hs (And.intro h0 (And.intro hk (And.intro hm (And.intro hq (And.intro hf (And.intro hQ hL)))))))
  clear hk hm hL hs hq hf hQ
  go_enter Try.func4, Try.ntmps4
  go_wp2_with fail
  go_at_call 11
  (with_reducible refine (awake_ok _).mono ?_)
  rintro e u ⟨rfl, hb⟩
  have HB := Aside0.mk hb
  clear hb
  go_wp2_with fail
  go_at_call 12
  (with_reducible refine (within_c a s.size (by rfl) _ HK.out).mono ?_)
  rintro e u1 ⟨rfl, hb⟩
  have HB' := Aside0.mk (below_step HB.out hb); clear hb HB; have HB := HB'; clear HB'
  go_wp2_with fail
  go_at_call 12
  (with_reducible refine (within_c n 300 (ni := 300) rfl _ HM.out).mono ?_)
  rintro e u2 ⟨rfl, hb⟩
  have HB' := Aside0.mk (below_step HB.out hb); clear hb HB; have HB := HB'; clear HB'
  go_wp2_with fail
  go_at_call 13
  (with_reducible refine (of_at s w _ HB.out (by clear c1 d1 c2 d2 c3 d3 c4 d4 c5 d5 c6 d6 c7 d7 c8 d8 c9 d9 c10 d10 c11 d11; have := HF.out; omega)).mono ?_)
  rintro e u3 ⟨p, rfl, h⟩
  have HA := Aside0.mk h
  clear h
  go_wp2_with fail
  go_at_call 12
  (with_reducible refine (within_c q0 Q (by rfl) _ HW.out).mono ?_)
  rintro e u4 ⟨rfl, hb⟩
  have h := HA.out.below hb; clear hb HA; have HA := Aside0.mk h; clear h
  go_wp2_with fail
  go_at_call 12
  (with_reducible refine (within_c f0 (8 * s.size - (1 + q)) (by clear c1 d1 c2 d2 c3 d3 c4 d4 c5 d5 c6 d6 c7 d7 c8 d8 c9 d9 c10 d10 c11 d11; have := HF.out; omega) _ HO.out).mono ?_)
  rintro e u5 ⟨rfl, hb⟩
  have h := HA.out.below hb; clear hb HA; have HA := Aside0.mk h; clear h
  go_wp2_with fail
  go_at_call 18
  (with_reducible refine (m_get HA.out f (1 + q) rfl (by push_cast; rfl) (by clear c1 d1 c2 d2 c3 d3 c4 d4 c5 d5 c6 d6 c7 d7 c8 d8 c9 d9 c10 d10 c11 d11; omega) (by clear c1 d1 c2 d2 c3 d3 c4 d4 c5 d5 c6 d6 c7 d7 c8 d8 c9 d9 c10 d10 c11 d11; have := HF.out; omega) (by clear c1 d1 c2 d2 c3 d3 c4 d4 c5 d5 c6 d6 c7 d7 c8 d8 c9 d9 c10 d10 c11 d11; have := HF.out; omega) H L HV.out).mono ?_)
  clear HA; rintro e u6 ⟨rfl, h⟩; have HA := Aside0.mk (h.keep (.cells #[.int .u64 H, .int .u64 L] 32)); clear h
  go_wp2_with fail
  go_at_call 14
  (with_reducible refine (b_ins HA.out k m rfl rfl (by clear c1 d1 c2 d2 c3 d3 c4 d4 c5 d5 c6 d6 c7 d7 c8 d8 c9 d9 c10 d10 c11 d11; have := HF.out; omega) (by clear c1 d1 c2 d2 c3 d3 c4 d4 c5 d5 c6 d6 c7 d7 c8 d8 c9 d9 c10 d10 c11 d11; have := HF.out; omega) (insD s.data.toList k m) rfl).mono ?_)
  clear HA; rintro e u7 ⟨rfl, h⟩; have HA := Aside0.mk h; clear h
  go_wp2_with fail
  go_at_call 18
  (with_reducible refine (b_get HA.out f (1 + q) rfl (by push_cast; rfl) (by clear c1 d1 c2 d2 c3 d3 c4 d4 c5 d5 c6 d6 c7 d7 c8 d8 c9 d9 c10 d10 c11 d11; omega) (by clear c1 d1 c2 d2 c3 d3 c4 d4 c5 d5 c6 d6 c7 d7 c8 d8 c9 d9 c10 d10 c11 d11; have := HF.out; omega) (by clear c1 d1 c2 d2 c3 d3 c4 d4 c5 d5 c6 d6 c7 d7 c8 d8 c9 d9 c10 d10 c11 d11; have := HF.out; rw [insD_len _ _ _ (by omega)]; omega) H L (isV_congr HV.out (val_ahead _ k m _ _ (by clear c1 d1 c2 d2 c3 d3 c4 d4 c5 d5 c6 d6 c7 d7 c8 d8 c9 d9 c10 d10 c11 d11; have := HF.out; omega) hc))).mono ?_)
  clear HA; rintro e u8 ⟨rfl, h⟩; have HA := Aside0.mk h; clear h
  go_wp2_with fail
  have b0 := blk_cell (blk_below HA.out.blk (below_alloc (Below.refl u8.heap.size u8) (.cells #[.int .u64 H, .int .u64 L] 32))) 0
  have b1 := blk_cell (blk_below HA.out.blk (below_alloc (Below.refl u8.heap.size u8) (.cells #[.int .u64 H, .int .u64 L] 32))) 1
  have n0 := blk_cell (blk_new u8 (.cells #[.int .u64 H, .int .u64 L] 32)) 0
  have n1 := blk_cell (blk_new u8 (.cells #[.int .u64 H, .int .u64 L] 32)) 1
  have h := ((HA.out.below (below_alloc (Below.refl _ _) (.cells #[.int .u64 H, .int .u64 L] 32))).drew).at; clear HA; have HA := Aside0.mk h; clear h
  have HE : Aside0 (KBuf.txt (s.data.toList.take k) = s.extract 0 k) := ⟨txt_take s k (by clear c1 d1 c2 d2 c3 d3 c4 d4 c5 d5 c6 d6 c7 d7 c8 d8 c9 d9 c10 d10 c11 d11; have := HF.out; omega)⟩
  refine wp_region_any (by kernel_rfl) ?_
  change wpAny _ _ _ _ _ _ _ (World.drew _)
  refine any_var (fun A hA => ?_)
  have s0 : A.eval (.tmp 0) = Value.string s := by rw [hA]; rfl
  have s11 : A.eval (.tmp 11) = Value.int .i64 (k : Int) := by rw [hA]; rfl
  have s12 : A.eval (.tmp 12) = Value.int .i64 (m : Int) := by rw [hA]; rfl
  have s13 : A.eval (.tmp 13) = Value.pointer (some ⟨p, 0, none⟩) := by rw [hA]; rfl
  have s16 : A.eval (.tmp 16) = Value.pointer (some ⟨u6.heap.size, 0, none⟩) := by rw [hA]; rfl
  have s18 : A.eval (.tmp 18) = Value.pointer (some ⟨u8.heap.size, 0, none⟩) := by rw [hA]; rfl
  have s19 : A.eval (.tmp 19) = Value.int .i64 0 := by rw [hA]; rfl
  haveI HFr : Fr 172 A := ⟨by rw [hA]; exact Nat.le_refl _⟩
  have HAA := Aside0.mk hA
  clear hA
  refine reg_pure 0 (some 91) (v := Value.int .i64 0) rfl (by kernel_rfl) (by kernel_rfl) (by kernel_rfl) rfl (fun _ _ _ h => h) (wanted_none rfl) (ro_move (.inl rfl) s19) ?_
  refine reg_pure 1 (some 92) (v := Value.bool true) rfl (by kernel_rfl) (by kernel_rfl) (by kernel_rfl) rfl (fun _ _ _ h => h) (wanted_none rfl) (ro_bin rfl (ev_eq (by decide)) rfl (fun w => by go_simp)) ?_
  refine reg_pure 2 (some 93) (v := Value.bool true) rfl (by kernel_rfl) (by kernel_rfl) (by kernel_rfl) rfl (fun _ _ _ h => h) (wanted_none rfl) (ro_move (.inl rfl) (ev_eq (by decide))) ?_
  refine reg_two 3 4 94 95 (vi := Value.agg #[Value.int .u64 H, Value.int .u64 L]) (vj := Value.agg #[Value.int .u64 H, Value.int .u64 L]) (by decide) (by decide) (by kernel_rfl) (by kernel_rfl) (by kernel_rfl) rfl rfl rfl rfl (wanted_of rfl rfl rfl (ev_eq (by decide))) (wanted_of rfl rfl rfl (ev_eq (by decide))) (wanted_of rfl rfl rfl (ev_ne (by decide) (ev_eq (by decide)))) (wanted_of rfl rfl rfl (ev_ne (by decide) (ev_eq (by decide)))) (ro_load rfl (ev_ne (by decide) (ev_ne (by decide) (ev_ne (by decide) s18))) (by go_simp)) (ro_load rfl (ev_ne (by decide) (ev_ne (by decide) (ev_ne (by decide) s16))) (by go_simp)) (ro_load rfl (ev_ne (by decide) (ev_ne (by decide) (ev_ne (by decide) (ev_ne (by decide) s18)))) (by go_simp)) (ro_load rfl (ev_ne (by decide) (ev_ne (by decide) (ev_ne (by decide) (ev_ne (by decide) s16)))) (by go_simp)) ?_
  refine reg_pure 5 (some 96) (v := Value.bool true) rfl (by kernel_rfl) (by kernel_rfl) (by kernel_rfl) rfl (fun _ _ _ h => h) (wanted_of rfl rfl rfl (ev_ne (by decide) (ev_ne (by decide) (ev_eq (by decide))))) (ro_bin rfl (ev_ne (by decide) (ev_eq (by decide))) (ev_eq (by decide)) (fun w => by go_simp)) ?_
  refine reg_pure 6 (some 97) (v := Value.bool true) rfl (by kernel_rfl) (by kernel_rfl) (by kernel_rfl) rfl (fun _ _ _ h => h) (wanted_none rfl) (ro_pickt rfl (ev_ne (by decide) (ev_ne (by decide) (ev_ne (by decide) (ev_eq (by decide))))) (ev_eq (by decide))) ?_
  refine reg_pure 7 (some 98) (v := Value.bool true) rfl (by kernel_rfl) (by kernel_rfl) (by kernel_rfl) rfl (fun _ _ _ h => h) (wanted_none rfl) (ro_move (.inl rfl) (ev_eq (by decide))) ?_
  refine reg_pure 8 (some 99) (v := Value.pointer (some ⟨p, 0, none⟩)) rfl (by kernel_rfl) (by kernel_rfl) (by kernel_rfl) rfl (fun _ _ _ h => h) (wanted_of rfl rfl rfl (ev_eq (by decide))) (ro_move (.inl rfl) (ev_ne (by decide) (ev_ne (by decide) (ev_ne (by decide) (ev_ne (by decide) (ev_ne (by decide) (ev_ne (by decide) (ev_ne (by decide) (ev_ne (by decide) s13))))))))) ?_
  refine reg_pure 9 (some 100) (v := Value.int .i64 (k : Int)) rfl (by kernel_rfl) (by kernel_rfl) (by kernel_rfl) rfl (fun _ _ _ h => h) (wanted_of rfl rfl rfl (ev_ne (by decide) (ev_eq (by decide)))) (ro_move (.inl rfl) (ev_ne (by decide) (ev_ne (by decide) (ev_ne (by decide) (ev_ne (by decide) (ev_ne (by decide) (ev_ne (by decide) (ev_ne (by decide) (ev_ne (by decide) (ev_ne (by decide) s11)))))))))) ?_
  refine reg_pure 10 (some 101) (v := Value.int .i64 (m : Int)) rfl (by kernel_rfl) (by kernel_rfl) (by kernel_rfl) rfl (fun _ _ _ h => h) (wanted_of rfl rfl rfl (ev_ne (by decide) (ev_ne (by decide) (ev_eq (by decide))))) (ro_move (.inl rfl) (ev_ne (by decide) (ev_ne (by decide) (ev_ne (by decide) (ev_ne (by decide) (ev_ne (by decide) (ev_ne (by decide) (ev_ne (by decide) (ev_ne (by decide) (ev_ne (by decide) (ev_ne (by decide) s12))))))))))) ?_
  refine reg_pure 11 (some 102) (v := Value.string s) rfl (by kernel_rfl) (by kernel_rfl) (by kernel_rfl) rfl (fun _ _ _ h => h) (wanted_of rfl rfl rfl (ev_ne (by decide) (ev_ne (by decide) (ev_ne (by decide) (ev_eq (by decide)))))) (ro_move (.inl rfl) (ev_ne (by decide) (ev_ne (by decide) (ev_ne (by decide) (ev_ne (by decide) (ev_ne (by decide) (ev_ne (by decide) (ev_ne (by decide) (ev_ne (by decide) (ev_ne (by decide) (ev_ne (by decide) (ev_ne (by decide) s0)))))))))))) ?_
  refine reg_pure 12 (some 103) (v := Value.int .i64 (s.size : Int)) rfl (by kernel_rfl) (by kernel_rfl) (by kernel_rfl) rfl (fun _ _ _ h => h) (wanted_of rfl rfl rfl (ev_ne (by decide) (ev_ne (by decide) (ev_ne (by decide) (ev_ne (by decide) (ev_eq (by decide))))))) (ro_len rfl (ev_eq (by decide)) (fun w => by go_simp)) ?_
  refine reg_pure 13 (some 104) (v := Value.int .i64 ((m : Int) + (s.size : Int))) rfl (by kernel_rfl) (by kernel_rfl) (by kernel_rfl) rfl (fun _ _ _ h => h) (wanted_of rfl rfl rfl (ev_ne (by decide) (ev_ne (by decide) (ev_ne (by decide) (ev_ne (by decide) (ev_ne (by decide) (ev_eq (by decide)))))))) (ro_bin rfl (ev_ne (by decide) (ev_ne (by decide) (ev_eq (by decide)))) (ev_eq (by decide)) (fun w => by go_simp)) ?_
  refine reg_pure 14 (some 105) (v := Value.int .i64 (k : Int)) rfl (by kernel_rfl) (by kernel_rfl) (by kernel_rfl) rfl (fun _ _ _ h => h) (wanted_of rfl rfl rfl (ev_ne (by decide) (ev_ne (by decide) (ev_ne (by decide) (ev_ne (by decide) (ev_ne (by decide) (ev_ne (by decide) (ev_eq (by decide))))))))) (ro_move (.inl rfl) (ev_ne (by decide) (ev_ne (by decide) (ev_ne (by decide) (ev_ne (by decide) (ev_ne (by decide) (ev_ne (by decide) (ev_ne (by decide) (ev_ne (by decide) (ev_ne (by decide) (ev_ne (by decide) (ev_ne (by decide) (ev_ne (by decide) (ev_ne (by decide) (ev_ne (by decide) s11))))))))))))))) ?_
  refine reg_pure 15 (some 106) (v := Value.int .i64 ((m : Int) + (s.size : Int) - (k : Int))) rfl (by kernel_rfl) (by kernel_rfl) (by kernel_rfl) rfl (fun _ _ _ h => h) (wanted_of rfl rfl rfl (ev_ne (by decide) (ev_ne (by decide) (ev_ne (by decide) (ev_ne (by decide) (ev_ne (by decide) (ev_ne (by decide) (ev_ne (by decide) (ev_eq (by decide)))))))))) (ro_bin rfl (ev_ne (by decide) (ev_eq (by decide))) (ev_eq (by decide)) (fun w => by go_simp)) ?_
  refine reg_call 16 (some 107) 16 #[Value.pointer (some ⟨p, 0, none⟩), Value.int .i64 (k : Int), Value.int .i64 ((m : Int) + (s.size : Int) - (k : Int))] (by kernel_rfl) rfl rfl (wanted_of rfl rfl rfl (ev_ne (by decide) (ev_ne (by decide) (ev_ne (by decide) (ev_ne (by decide) (ev_ne (by decide) (ev_ne (by decide) (ev_ne (by decide) (ev_ne (by decide) (ev_eq (by decide))))))))))) rfl (map3 (ev_ne (by decide) (ev_ne (by decide) (ev_ne (by decide) (ev_ne (by decide) (ev_ne (by decide) (ev_ne (by decide) (ev_ne (by decide) (ev_eq (by decide))))))))) (ev_ne (by decide) (ev_ne (by decide) (ev_ne (by decide) (ev_ne (by decide) (ev_ne (by decide) (ev_ne (by decide) (ev_eq (by decide)))))))) (ev_eq (by decide))) (fun args w => by kernel_rfl) (at_del HA.out k (m + s.size - k) rfl (by clear c1 d1 c2 d2 c3 d3 c4 d4 c5 d5 c6 d6 c7 d7 c8 d8 c9 d9 c10 d10 c11 d11; have := HF.out; omega) (by clear c1 d1 c2 d2 c3 d3 c4 d4 c5 d5 c6 d6 c7 d7 c8 d8 c9 d9 c10 d10 c11 d11; have := HF.out; rw [insD_len _ _ _ (by omega)]; omega) (s.data.toList.take k) (by clear c1 d1 c2 d2 c3 d3 c4 d4 c5 d5 c6 d6 c7 d7 c8 d8 c9 d9 c10 d10 c11 d11; have := HF.out; have e := insD_cut s.data.toList k m (by omega); rw [data_length] at e; exact e)) ?_
  rintro e v1 ⟨rfl, h⟩
  clear HA; have HA := Aside0.mk h; clear h
  refine ⟨_, rfl, ?_⟩
  refine reg_pure 17 (some 108) (v := Value.bool true) rfl (by kernel_rfl) (by kernel_rfl) (by kernel_rfl) rfl (fun _ _ _ h => h) (wanted_of rfl rfl rfl (ev_ne (by decide) (ev_ne (by decide) (ev_ne (by decide) (ev_ne (by decide) (ev_ne (by decide) (ev_ne (by decide) (ev_ne (by decide) (ev_ne (by decide) (ev_ne (by decide) (ev_eq (by decide)))))))))))) (ro_bin rfl (ev_eq (by decide)) rfl (fun w => by go_simp)) ?_
  refine reg_pure 18 (some 109) (v := Value.bool true) rfl (by kernel_rfl) (by kernel_rfl) (by kernel_rfl) rfl (fun _ _ _ h => h) (wanted_none rfl) (ro_pickt rfl (ev_ne (by decide) (ev_ne (by decide) (ev_ne (by decide) (ev_ne (by decide) (ev_ne (by decide) (ev_ne (by decide) (ev_ne (by decide) (ev_ne (by decide) (ev_ne (by decide) (ev_ne (by decide) (ev_eq (by decide)))))))))))) (ev_eq (by decide))) ?_
  refine reg_pure 19 (some 110) (v := Value.bool true) rfl (by kernel_rfl) (by kernel_rfl) (by kernel_rfl) rfl (fun _ _ _ h => h) (wanted_none rfl) (ro_move (.inl rfl) (ev_eq (by decide))) ?_
  refine reg_pure 20 (some 111) (v := Value.pointer (some ⟨p, 0, none⟩)) rfl (by kernel_rfl) (by kernel_rfl) (by kernel_rfl) rfl (fun _ _ _ h => h) (wanted_of rfl rfl rfl (ev_eq (by decide))) (ro_move (.inl rfl) (ev_ne (by decide) (ev_ne (by decide) (ev_ne (by decide) (ev_ne (by decide) (ev_ne (by decide) (ev_ne (by decide) (ev_ne (by decide) (ev_ne (by decide) (ev_ne (by decide) (ev_ne (by decide) (ev_ne (by decide) (ev_ne (by decide) (ev_ne (by decide) (ev_ne (by decide) (ev_ne (by decide) (ev_ne (by decide) (ev_ne (by decide) (ev_ne (by decide) (ev_ne (by decide) (ev_ne (by decide) s13))))))))))))))))))))) ?_
  refine reg_pure 22 (some 113) (v := Value.string s) rfl (by kernel_rfl) (by kernel_rfl) (by kernel_rfl) rfl (fun _ _ _ h => h) (wanted_of rfl rfl rfl (ev_ne (by decide) (ev_eq (by decide)))) (ro_move (.inl rfl) (ev_ne (by decide) (ev_ne (by decide) (ev_ne (by decide) (ev_ne (by decide) (ev_ne (by decide) (ev_ne (by decide) (ev_ne (by decide) (ev_ne (by decide) (ev_ne (by decide) (ev_ne (by decide) (ev_ne (by decide) (ev_ne (by decide) (ev_ne (by decide) (ev_ne (by decide) (ev_ne (by decide) (ev_ne (by decide) (ev_ne (by decide) (ev_ne (by decide) (ev_ne (by decide) (ev_ne (by decide) (ev_ne (by decide) s0)))))))))))))))))))))) ?_
  refine reg_pure 23 (some 114) (v := Value.int .i64 (k : Int)) rfl (by kernel_rfl) (by kernel_rfl) (by kernel_rfl) rfl (fun _ _ _ h => h) (wanted_of rfl rfl rfl (ev_ne (by decide) (ev_ne (by decide) (ev_eq (by decide))))) (ro_move (.inl rfl) (ev_ne (by decide) (ev_ne (by decide) (ev_ne (by decide) (ev_ne (by decide) (ev_ne (by decide) (ev_ne (by decide) (ev_ne (by decide) (ev_ne (by decide) (ev_ne (by decide) (ev_ne (by decide) (ev_ne (by decide) (ev_ne (by decide) (ev_ne (by decide) (ev_ne (by decide) (ev_ne (by decide) (ev_ne (by decide) (ev_ne (by decide) (ev_ne (by decide) (ev_ne (by decide) (ev_ne (by decide) (ev_ne (by decide) (ev_ne (by decide) s11))))))))))))))))))))))) ?_
  refine reg_pure 24 (some 115) (v := Value.string (s.extract 0 k)) rfl (by kernel_rfl) (by kernel_rfl) (by kernel_rfl) rfl (fun _ _ _ h => h) (wanted_of rfl rfl rfl (ev_ne (by decide) (ev_ne (by decide) (ev_ne (by decide) (ev_eq (by decide)))))) (ro_slice rfl (ev_ne (by decide) (ev_eq (by decide))) rfl (congrArg some (ev_eq (by decide))) (fun w => by go_simp)) ?_
  refine reg_call 21 (some 112) 17 #[Value.pointer (some ⟨p, 0, none⟩)] (by kernel_rfl) rfl rfl (wanted_of rfl rfl rfl (ev_ne (by decide) (ev_ne (by decide) (ev_ne (by decide) (ev_ne (by decide) (ev_eq (by decide))))))) rfl (map1 (ev_ne (by decide) (ev_ne (by decide) (ev_ne (by decide) (ev_eq (by decide)))))) (fun args w => by kernel_rfl) (at_textv HA.out _ HE.out) ?_
  rintro e v2 ⟨rfl, h⟩
  clear HA; have HA := Aside0.mk h; clear h
  refine ⟨_, rfl, ?_⟩
  refine reg_pure 25 (some 116) (v := Value.bool true) rfl (by kernel_rfl) (by kernel_rfl) (by kernel_rfl) rfl (fun _ _ _ h => h) (wanted_of rfl rfl rfl (ev_ne (by decide) (ev_ne (by decide) (ev_ne (by decide) (ev_ne (by decide) (ev_ne (by decide) (ev_eq (by decide)))))))) (ro_bin rfl (ev_eq (by decide)) (ev_ne (by decide) (ev_eq (by decide))) (fun w => by go_simp)) ?_
  refine reg_pure 26 (some 117) (v := Value.bool true) rfl (by kernel_rfl) (by kernel_rfl) (by kernel_rfl) rfl (fun _ _ _ h => h) (wanted_none rfl) (ro_pickt rfl (ev_ne (by decide) (ev_ne (by decide) (ev_ne (by decide) (ev_ne (by decide) (ev_ne (by decide) (ev_ne (by decide) (ev_eq (by decide)))))))) (ev_eq (by decide))) ?_
  refine reg_pure 27 (some 10) (v := Value.bool true) rfl (by kernel_rfl) (by kernel_rfl) (by kernel_rfl) rfl (fun _ _ _ h => h) (wanted_none rfl) (ro_move (.inr rfl) (ev_eq (by decide))) ?_
  refine reg_done (by kernel_rfl) ?_
  have hA := HAA.out
  subst hA
  simp only [Act.put, List.setIfInBounds_toArray, List.set_cons_zero, List.set_cons_succ]
  clear HAA HFr s0 s11 s12 s13 s16 s18 s19
  go_wp2_with fail
  go_ret
  exact ⟨rfl, HA.out.bel⟩
set_option maxHeartbeats 8000000 in
set_option maxRecDepth 100000 in
theorem moves_b (s : ByteArray) (a n f0 q0 : Int) (w : World) (hs : s.size ≤ 4000) (h0 : 0 < s.size) (k m q f Q : Nat) (hQ : Q = min 127 (8 * s.size - 1)) (hk : k ≤ s.size) (hm : m ≤ 300) (hq : q ≤ Q) (hf : f ≤ 8 * s.size - (1 + q)) (HK : Aside0 (turnoutlaw05_within.f a s.size = some (k : Int))) (HM : Aside0 (turnoutlaw05_within.f n (300 : Nat) = some (m : Int)))
    (HW : Aside0 (turnoutlaw05_within.f q0 Q = some (q : Int))) (HO : Aside0 (turnoutlaw05_within.f f0 ((8 * s.size - (1 + q) : Nat) : Int) = some (f : Int))) (H L : Int) (HV : Aside0 (isV s.data.toList f (1 + q) H L)) (hc : 8 * k < f + (1 + q)) (hd : f < 8 * k) :
    Calls Try.prog 4 #[.string s, .int .i64 a, .int .i64 n, .int .i64 f0, .int .i64 q0] w fun e w' => e = .returned (.bool true) ∧ Below w.heap.size w w' := by
  have g4 : (k : Int) ≤ (s.size : Int) := by omega
  have h1 : decide ((s.size : Int) > 4000) = false := decide_eq_false (by omega)
  have h3 : decide ((f : Int) + (1 + (q : Int)) ≤ 8 * (k : Int)) = false := decide_eq_false (by omega)
  have h4 : decide ((f : Int) < 8 * (k : Int)) = true := decide_eq_true (by omega)
  have h2 : ((s.size : Int) == 0) = false := beq_false_of_ne (by omega)
  have hmin := min_127 s.size Q h0 hQ
  obtain ⟨⟨c1, d1⟩, ⟨c2, d2⟩, ⟨c3, d3⟩, ⟨c4, d4⟩, ⟨c5, d5⟩, ⟨c6, d6⟩, ⟨c7, d7⟩, ⟨c8, d8⟩, ⟨c9, d9⟩, ⟨c10, d10⟩, ⟨c11, d11⟩⟩ := moves_f s.size k m q f hs h0 hk hm (by omega) (by omega)
  have hL : s.data.toList.length = s.size := data_length s
  have HF := Aside0.mk (And.intro hs (And.intro h0 (And.intro hk (And.intro hm (And.intro hq (And.intro hf (And.intro hQ hL)))))))
  clear hk hm hL hs hq hf hQ
  go_enter Try.func4, Try.ntmps4
  go_wp2_with fail
  go_at_call 11
  (with_reducible refine (awake_ok _).mono ?_)
  rintro e u ⟨rfl, hb⟩
  have HB := Aside0.mk hb
  clear hb
  go_wp2_with fail
  go_at_call 12
  (with_reducible refine (within_c a s.size (by rfl) _ HK.out).mono ?_)
  rintro e u1 ⟨rfl, hb⟩
  have HB' := Aside0.mk (below_step HB.out hb); clear hb HB; have HB := HB'; clear HB'
  go_wp2_with fail
  go_at_call 12
  (with_reducible refine (within_c n 300 (ni := 300) rfl _ HM.out).mono ?_)
  rintro e u2 ⟨rfl, hb⟩
  have HB' := Aside0.mk (below_step HB.out hb); clear hb HB; have HB := HB'; clear HB'
  go_wp2_with fail
  go_at_call 13
  (with_reducible refine (of_at s w _ HB.out (by clear c1 d1 c2 d2 c3 d3 c4 d4 c5 d5 c6 d6 c7 d7 c8 d8 c9 d9 c10 d10 c11 d11; have := HF.out; omega)).mono ?_)
  rintro e u3 ⟨p, rfl, h⟩
  have HA := Aside0.mk h
  clear h
  go_wp2_with fail
  go_at_call 12
  (with_reducible refine (within_c q0 Q (by rfl) _ HW.out).mono ?_)
  rintro e u4 ⟨rfl, hb⟩
  have h := HA.out.below hb; clear hb HA; have HA := Aside0.mk h; clear h
  go_wp2_with fail
  go_at_call 12
  (with_reducible refine (within_c f0 (8 * s.size - (1 + q)) (by clear c1 d1 c2 d2 c3 d3 c4 d4 c5 d5 c6 d6 c7 d7 c8 d8 c9 d9 c10 d10 c11 d11; have := HF.out; omega) _ HO.out).mono ?_)
  rintro e u5 ⟨rfl, hb⟩
  have h := HA.out.below hb; clear hb HA; have HA := Aside0.mk h; clear h
  go_wp2_with fail
  go_at_call 18
  (with_reducible refine (m_get HA.out f (1 + q) rfl (by push_cast; rfl) (by clear c1 d1 c2 d2 c3 d3 c4 d4 c5 d5 c6 d6 c7 d7 c8 d8 c9 d9 c10 d10 c11 d11; omega) (by clear c1 d1 c2 d2 c3 d3 c4 d4 c5 d5 c6 d6 c7 d7 c8 d8 c9 d9 c10 d10 c11 d11; have := HF.out; omega) (by clear c1 d1 c2 d2 c3 d3 c4 d4 c5 d5 c6 d6 c7 d7 c8 d8 c9 d9 c10 d10 c11 d11; have := HF.out; omega) H L HV.out).mono ?_)
  clear HA; rintro e u6 ⟨rfl, h⟩; have HA := Aside0.mk (h.keep (.cells #[.int .u64 H, .int .u64 L] 32)); clear h
  go_wp2_with fail
  go_at_call 14
  (with_reducible refine (b_ins HA.out k m rfl rfl (by clear c1 d1 c2 d2 c3 d3 c4 d4 c5 d5 c6 d6 c7 d7 c8 d8 c9 d9 c10 d10 c11 d11; have := HF.out; omega) (by clear c1 d1 c2 d2 c3 d3 c4 d4 c5 d5 c6 d6 c7 d7 c8 d8 c9 d9 c10 d10 c11 d11; have := HF.out; omega) (insD s.data.toList k m) rfl).mono ?_)
  clear HA; rintro e u7 ⟨rfl, h⟩; have HA := Aside0.mk h; clear h
  go_wp2_with fail
  go_ret
  exact ⟨rfl, HA.out.at.bel⟩
set_option maxHeartbeats 8000000 in
set_option maxRecDepth 100000 in
theorem moves_c (s : ByteArray) (a n f0 q0 : Int) (w : World) (hs : s.size ≤ 4000) (h0 : 0 < s.size) (k m q f Q : Nat) (hQ : Q = min 127 (8 * s.size - 1)) (hk : k ≤ s.size) (hm : m ≤ 300) (hq : q ≤ Q) (hf : f ≤ 8 * s.size - (1 + q)) (HK : Aside0 (turnoutlaw05_within.f a s.size = some (k : Int))) (HM : Aside0 (turnoutlaw05_within.f n (300 : Nat) = some (m : Int)))
    (HW : Aside0 (turnoutlaw05_within.f q0 Q = some (q : Int))) (HO : Aside0 (turnoutlaw05_within.f f0 ((8 * s.size - (1 + q) : Nat) : Int) = some (f : Int))) (H L : Int) (HV : Aside0 (isV s.data.toList f (1 + q) H L)) (hd : 8 * k ≤ f) :
    Calls Try.prog 4 #[.string s, .int .i64 a, .int .i64 n, .int .i64 f0, .int .i64 q0] w fun e w' => e = .returned (.bool true) ∧ Below w.heap.size w w' := by
  have g4 : (k : Int) ≤ (s.size : Int) := by omega
  have h1 : decide ((s.size : Int) > 4000) = false := decide_eq_false (by omega)
  have h3 : decide ((f : Int) + (1 + (q : Int)) ≤ 8 * (k : Int)) = false := decide_eq_false (by omega)
  have h4 : decide ((f : Int) < 8 * (k : Int)) = false := decide_eq_false (by omega)
  obtain ⟨c12, d12⟩ := bigOf (n := (f : Int) - 8 * (k : Int)) (by omega) (by omega)
  have h2 : ((s.size : Int) == 0) = false := beq_false_of_ne (by omega)
  have hmin := min_127 s.size Q h0 hQ
  obtain ⟨⟨c1, d1⟩, ⟨c2, d2⟩, ⟨c3, d3⟩, ⟨c4, d4⟩, ⟨c5, d5⟩, ⟨c6, d6⟩, ⟨c7, d7⟩, ⟨c8, d8⟩, ⟨c9, d9⟩, ⟨c10, d10⟩, ⟨c11, d11⟩⟩ := moves_f s.size k m q f hs h0 hk hm (by omega) (by omega)
  have hL : s.data.toList.length = s.size := data_length s
  have HF := Aside0.mk (And.intro hs (And.intro h0 (And.intro hk (And.intro hm (And.intro hq (And.intro hf (And.intro hQ hL)))))))
  clear hk hm hL hs hq hf hQ
  go_enter Try.func4, Try.ntmps4
  go_wp2_with fail
  go_at_call 11
  (with_reducible refine (awake_ok _).mono ?_)
  rintro e u ⟨rfl, hb⟩
  have HB := Aside0.mk hb
  clear hb
  go_wp2_with fail
  go_at_call 12
  (with_reducible refine (within_c a s.size (by rfl) _ HK.out).mono ?_)
  rintro e u1 ⟨rfl, hb⟩
  have HB' := Aside0.mk (below_step HB.out hb); clear hb HB; have HB := HB'; clear HB'
  go_wp2_with fail
  go_at_call 12
  (with_reducible refine (within_c n 300 (ni := 300) rfl _ HM.out).mono ?_)
  rintro e u2 ⟨rfl, hb⟩
  have HB' := Aside0.mk (below_step HB.out hb); clear hb HB; have HB := HB'; clear HB'
  go_wp2_with fail
  go_at_call 13
  (with_reducible refine (of_at s w _ HB.out (by clear c12 d12 c1 d1 c2 d2 c3 d3 c4 d4 c5 d5 c6 d6 c7 d7 c8 d8 c9 d9 c10 d10 c11 d11; have := HF.out; omega)).mono ?_)
  rintro e u3 ⟨p, rfl, h⟩
  have HA := Aside0.mk h
  clear h
  go_wp2_with fail
  go_at_call 12
  (with_reducible refine (within_c q0 Q (by rfl) _ HW.out).mono ?_)
  rintro e u4 ⟨rfl, hb⟩
  have h := HA.out.below hb; clear hb HA; have HA := Aside0.mk h; clear h
  go_wp2_with fail
  go_at_call 12
  (with_reducible refine (within_c f0 (8 * s.size - (1 + q)) (by clear c12 d12 c1 d1 c2 d2 c3 d3 c4 d4 c5 d5 c6 d6 c7 d7 c8 d8 c9 d9 c10 d10 c11 d11; have := HF.out; omega) _ HO.out).mono ?_)
  rintro e u5 ⟨rfl, hb⟩
  have h := HA.out.below hb; clear hb HA; have HA := Aside0.mk h; clear h
  go_wp2_with fail
  go_at_call 18
  (with_reducible refine (m_get HA.out f (1 + q) rfl (by push_cast; rfl) (by clear c12 d12 c1 d1 c2 d2 c3 d3 c4 d4 c5 d5 c6 d6 c7 d7 c8 d8 c9 d9 c10 d10 c11 d11; omega) (by clear c12 d12 c1 d1 c2 d2 c3 d3 c4 d4 c5 d5 c6 d6 c7 d7 c8 d8 c9 d9 c10 d10 c11 d11; have := HF.out; omega) (by clear c12 d12 c1 d1 c2 d2 c3 d3 c4 d4 c5 d5 c6 d6 c7 d7 c8 d8 c9 d9 c10 d10 c11 d11; have := HF.out; omega) H L HV.out).mono ?_)
  clear HA; rintro e u6 ⟨rfl, h⟩; have HA := Aside0.mk (h.keep (.cells #[.int .u64 H, .int .u64 L] 32)); clear h
  go_wp2_with fail
  go_at_call 14
  (with_reducible refine (b_ins HA.out k m rfl rfl (by clear c12 d12 c1 d1 c2 d2 c3 d3 c4 d4 c5 d5 c6 d6 c7 d7 c8 d8 c9 d9 c10 d10 c11 d11; have := HF.out; omega) (by clear c12 d12 c1 d1 c2 d2 c3 d3 c4 d4 c5 d5 c6 d6 c7 d7 c8 d8 c9 d9 c10 d10 c11 d11; have := HF.out; omega) (insD s.data.toList k m) rfl).mono ?_)
  clear HA; rintro e u7 ⟨rfl, h⟩; have HA := Aside0.mk h; clear h
  go_wp2_with fail
  go_at_call 18
  (with_reducible refine (b_get HA.out (f + 8 * m) (1 + q) (by push_cast; rfl) (by push_cast; rfl) (by clear c12 d12 c1 d1 c2 d2 c3 d3 c4 d4 c5 d5 c6 d6 c7 d7 c8 d8 c9 d9 c10 d10 c11 d11; omega) (by clear c12 d12 c1 d1 c2 d2 c3 d3 c4 d4 c5 d5 c6 d6 c7 d7 c8 d8 c9 d9 c10 d10 c11 d11; have := HF.out; omega) (by clear c12 d12 c1 d1 c2 d2 c3 d3 c4 d4 c5 d5 c6 d6 c7 d7 c8 d8 c9 d9 c10 d10 c11 d11; have := HF.out; rw [insD_len _ _ _ (by omega)]; omega) H L (isV_congr HV.out (val_behind _ k m _ _ (by clear c12 d12 c1 d1 c2 d2 c3 d3 c4 d4 c5 d5 c6 d6 c7 d7 c8 d8 c9 d9 c10 d10 c11 d11; have := HF.out; omega) hd))).mono ?_)
  clear HA; rintro e u8 ⟨rfl, h⟩; have HA := Aside0.mk h; clear h
  have b0 := blk_cell (blk_below HA.out.blk (below_alloc (Below.refl u8.heap.size u8) (.cells #[.int .u64 H, .int .u64 L] 32))) 0
  have b1 := blk_cell (blk_below HA.out.blk (below_alloc (Below.refl u8.heap.size u8) (.cells #[.int .u64 H, .int .u64 L] 32))) 1
  have n0 := blk_cell (blk_new u8 (.cells #[.int .u64 H, .int .u64 L] 32)) 0
  have n1 := blk_cell (blk_new u8 (.cells #[.int .u64 H, .int .u64 L] 32)) 1
  have h := (HA.out.below (below_alloc (Below.refl _ _) (.cells #[.int .u64 H, .int .u64 L] 32))); clear HA; have HA := Aside0.mk h; clear h
  go_wp2_with fail
  clear b0 b1 n0 n1
  go_at_call 16
  (with_reducible refine (b_del HA.out 0 (k + m) (ai := 0) rfl (by push_cast; rfl) (by clear c12 d12 c1 d1 c2 d2 c3 d3 c4 d4 c5 d5 c6 d6 c7 d7 c8 d8 c9 d9 c10 d10 c11 d11; have := HF.out; rw [insD_len _ _ _ (by omega)]; omega) (s.data.toList.drop k) (insD_rest _ k m (by clear c12 d12 c1 d1 c2 d2 c3 d3 c4 d4 c5 d5 c6 d6 c7 d7 c8 d8 c9 d9 c10 d10 c11 d11; have := HF.out; omega))).mono ?_)
  clear HA; rintro e u9 ⟨rfl, h⟩; have HA := Aside0.mk h; clear h
  go_wp2_with fail
  go_at_call 18
  (with_reducible refine (b_get HA.out (f - 8 * k) (1 + q) (by clear c12 d12 c1 d1 c2 d2 c3 d3 c4 d4 c5 d5 c6 d6 c7 d7 c8 d8 c9 d9 c10 d10 c11 d11; omega) (by push_cast; rfl) (by clear c12 d12 c1 d1 c2 d2 c3 d3 c4 d4 c5 d5 c6 d6 c7 d7 c8 d8 c9 d9 c10 d10 c11 d11; omega) (by clear c12 d12 c1 d1 c2 d2 c3 d3 c4 d4 c5 d5 c6 d6 c7 d7 c8 d8 c9 d9 c10 d10 c11 d11; have := HF.out; omega) (by clear c12 d12 c1 d1 c2 d2 c3 d3 c4 d4 c5 d5 c6 d6 c7 d7 c8 d8 c9 d9 c10 d10 c11 d11; have := HF.out; rw [List.length_drop]; omega) H L (isV_congr HV.out (val_drop _ k _ _ hd))).mono ?_)
  clear HA; rintro e u10 ⟨rfl, h⟩; have HA := Aside0.mk h; clear h
  have b0 := blk_cell (blk_below HA.out.blk (below_alloc (Below.refl u10.heap.size u10) (.cells #[.int .u64 H, .int .u64 L] 32))) 0
  have b1 := blk_cell (blk_below HA.out.blk (below_alloc (Below.refl u10.heap.size u10) (.cells #[.int .u64 H, .int .u64 L] 32))) 1
  have n0 := blk_cell (blk_new u10 (.cells #[.int .u64 H, .int .u64 L] 32)) 0
  have n1 := blk_cell (blk_new u10 (.cells #[.int .u64 H, .int .u64 L] 32)) 1
  have h := (HA.out.below (below_alloc (Below.refl _ _) (.cells #[.int .u64 H, .int .u64 L] 32))); clear HA; have HA := Aside0.mk h; clear h
  go_wp2_with fail
  have h := HA.out.drew.at; clear HA; have HA := Aside0.mk h; clear h
  have HE : Aside0 (KBuf.txt (s.data.toList.drop k) = s.extract k s.size) := ⟨txt_drop s k (by clear c12 d12 c1 d1 c2 d2 c3 d3 c4 d4 c5 d5 c6 d6 c7 d7 c8 d8 c9 d9 c10 d10 c11 d11; have := HF.out; omega)⟩
  refine wp_region_any (by kernel_rfl) ?_
  change wpAny _ _ _ _ _ _ _ (World.drew _)
  refine any_var (fun A hA => ?_)
  have s0 : A.eval (.tmp 0) = Value.string s := by rw [hA]; rfl
  have s11 : A.eval (.tmp 11) = Value.int .i64 (k : Int) := by rw [hA]; rfl
  have s13 : A.eval (.tmp 13) = Value.pointer (some ⟨p, 0, none⟩) := by rw [hA]; rfl
  have s16 : A.eval (.tmp 16) = Value.pointer (some ⟨u6.heap.size, 0, none⟩) := by rw [hA]; rfl
  have s22 : A.eval (.tmp 22) = Value.pointer (some ⟨u10.heap.size, 0, none⟩) := by rw [hA]; rfl
  have s23 : A.eval (.tmp 23) = Value.int .i64 0 := by rw [hA]; rfl
  haveI HFr : Fr 172 A := ⟨by rw [hA]; exact Nat.le_refl _⟩
  have HAA := Aside0.mk hA
  clear hA
  refine reg_pure 0 (some 157) (v := Value.int .i64 0) rfl (by kernel_rfl) (by kernel_rfl) (by kernel_rfl) rfl (fun _ _ _ h => h) (wanted_none rfl) (ro_move (.inl rfl) s23) ?_
  refine reg_pure 1 (some 158) (v := Value.bool true) rfl (by kernel_rfl) (by kernel_rfl) (by kernel_rfl) rfl (fun _ _ _ h => h) (wanted_none rfl) (ro_bin rfl (ev_eq (by decide)) rfl (fun w => by go_simp)) ?_
  refine reg_pure 2 (some 159) (v := Value.bool true) rfl (by kernel_rfl) (by kernel_rfl) (by kernel_rfl) rfl (fun _ _ _ h => h) (wanted_none rfl) (ro_move (.inl rfl) (ev_eq (by decide))) ?_
  refine reg_two 3 4 160 161 (vi := Value.agg #[Value.int .u64 H, Value.int .u64 L]) (vj := Value.agg #[Value.int .u64 H, Value.int .u64 L]) (by decide) (by decide) (by kernel_rfl) (by kernel_rfl) (by kernel_rfl) rfl rfl rfl rfl (wanted_of rfl rfl rfl (ev_eq (by decide))) (wanted_of rfl rfl rfl (ev_eq (by decide))) (wanted_of rfl rfl rfl (ev_ne (by decide) (ev_eq (by decide)))) (wanted_of rfl rfl rfl (ev_ne (by decide) (ev_eq (by decide)))) (ro_load rfl (ev_ne (by decide) (ev_ne (by decide) (ev_ne (by decide) s22))) (by go_simp)) (ro_load rfl (ev_ne (by decide) (ev_ne (by decide) (ev_ne (by decide) s16))) (by go_simp)) (ro_load rfl (ev_ne (by decide) (ev_ne (by decide) (ev_ne (by decide) (ev_ne (by decide) s22)))) (by go_simp)) (ro_load rfl (ev_ne (by decide) (ev_ne (by decide) (ev_ne (by decide) (ev_ne (by decide) s16)))) (by go_simp)) ?_
  refine reg_pure 5 (some 162) (v := Value.bool true) rfl (by kernel_rfl) (by kernel_rfl) (by kernel_rfl) rfl (fun _ _ _ h => h) (wanted_of rfl rfl rfl (ev_ne (by decide) (ev_ne (by decide) (ev_eq (by decide))))) (ro_bin rfl (ev_ne (by decide) (ev_eq (by decide))) (ev_eq (by decide)) (fun w => by go_simp)) ?_
  refine reg_pure 6 (some 163) (v := Value.bool true) rfl (by kernel_rfl) (by kernel_rfl) (by kernel_rfl) rfl (fun _ _ _ h => h) (wanted_none rfl) (ro_pickt rfl (ev_ne (by decide) (ev_ne (by decide) (ev_ne (by decide) (ev_eq (by decide))))) (ev_eq (by decide))) ?_
  refine reg_pure 7 (some 164) (v := Value.bool true) rfl (by kernel_rfl) (by kernel_rfl) (by kernel_rfl) rfl (fun _ _ _ h => h) (wanted_none rfl) (ro_move (.inl rfl) (ev_eq (by decide))) ?_
  refine reg_pure 8 (some 165) (v := Value.pointer (some ⟨p, 0, none⟩)) rfl (by kernel_rfl) (by kernel_rfl) (by kernel_rfl) rfl (fun _ _ _ h => h) (wanted_of rfl rfl rfl (ev_eq (by decide))) (ro_move (.inl rfl) (ev_ne (by decide) (ev_ne (by decide) (ev_ne (by decide) (ev_ne (by decide) (ev_ne (by decide) (ev_ne (by decide) (ev_ne (by decide) (ev_ne (by decide) s13))))))))) ?_
  refine reg_pure 10 (some 167) (v := Value.string s) rfl (by kernel_rfl) (by kernel_rfl) (by kernel_rfl) rfl (fun _ _ _ h => h) (wanted_of rfl rfl rfl (ev_ne (by decide) (ev_eq (by decide)))) (ro_move (.inl rfl) (ev_ne (by decide) (ev_ne (by decide) (ev_ne (by decide) (ev_ne (by decide) (ev_ne (by decide) (ev_ne (by decide) (ev_ne (by decide) (ev_ne (by decide) (ev_ne (by decide) s0)))))))))) ?_
  refine reg_pure 11 (some 168) (v := Value.int .i64 (k : Int)) rfl (by kernel_rfl) (by kernel_rfl) (by kernel_rfl) rfl (fun _ _ _ h => h) (wanted_of rfl rfl rfl (ev_ne (by decide) (ev_ne (by decide) (ev_eq (by decide))))) (ro_move (.inl rfl) (ev_ne (by decide) (ev_ne (by decide) (ev_ne (by decide) (ev_ne (by decide) (ev_ne (by decide) (ev_ne (by decide) (ev_ne (by decide) (ev_ne (by decide) (ev_ne (by decide) (ev_ne (by decide) s11))))))))))) ?_
  refine reg_pure 12 (some 169) (v := Value.string (s.extract k s.size)) rfl (by kernel_rfl) (by kernel_rfl) (by kernel_rfl) rfl (fun _ _ _ h => h) (wanted_of rfl rfl rfl (ev_ne (by decide) (ev_ne (by decide) (ev_ne (by decide) (ev_eq (by decide)))))) (ro_slice rfl (ev_ne (by decide) (ev_eq (by decide))) (congrArg some (ev_eq (by decide))) rfl (fun w => by go_simp)) ?_
  refine reg_call 9 (some 166) 17 #[Value.pointer (some ⟨p, 0, none⟩)] (by kernel_rfl) rfl rfl (wanted_of rfl rfl rfl (ev_ne (by decide) (ev_ne (by decide) (ev_ne (by decide) (ev_ne (by decide) (ev_eq (by decide))))))) rfl (map1 (ev_ne (by decide) (ev_ne (by decide) (ev_ne (by decide) (ev_eq (by decide)))))) (fun args w => by kernel_rfl) (at_textv HA.out _ HE.out) ?_
  rintro e v2 ⟨rfl, h⟩
  clear HA; have HA := Aside0.mk h; clear h
  refine ⟨_, rfl, ?_⟩
  refine reg_pure 13 (some 170) (v := Value.bool true) rfl (by kernel_rfl) (by kernel_rfl) (by kernel_rfl) rfl (fun _ _ _ h => h) (wanted_of rfl rfl rfl (ev_ne (by decide) (ev_ne (by decide) (ev_ne (by decide) (ev_ne (by decide) (ev_ne (by decide) (ev_eq (by decide)))))))) (ro_bin rfl (ev_eq (by decide)) (ev_ne (by decide) (ev_eq (by decide))) (fun w => by go_simp)) ?_
  refine reg_pure 14 (some 171) (v := Value.bool true) rfl (by kernel_rfl) (by kernel_rfl) (by kernel_rfl) rfl (fun _ _ _ h => h) (wanted_none rfl) (ro_pickt rfl (ev_ne (by decide) (ev_ne (by decide) (ev_ne (by decide) (ev_ne (by decide) (ev_ne (by decide) (ev_ne (by decide) (ev_eq (by decide)))))))) (ev_eq (by decide))) ?_
  refine reg_pure 15 (some 10) (v := Value.bool true) rfl (by kernel_rfl) (by kernel_rfl) (by kernel_rfl) rfl (fun _ _ _ h => h) (wanted_none rfl) (ro_move (.inr rfl) (ev_eq (by decide))) ?_
  refine reg_done (by kernel_rfl) ?_
  have hA := HAA.out
  subst hA
  simp only [Act.put, List.setIfInBounds_toArray, List.set_cons_zero, List.set_cons_succ]
  clear HAA HFr s0 s11 s13 s16 s22 s23
  go_wp2_with fail
  go_ret
  exact ⟨rfl, HA.out.bel⟩
theorem bufMoves (s : ByteArray) (a n f0 q0 : Int) (w : World) (hs : s.size ≤ 140737488351232) : Calls Try.prog 4 #[.string s, .int .i64 a, .int .i64 n, .int .i64 f0, .int .i64 q0] w fun e w' => e = .returned (.bool true) ∧ Below w.heap.size w w' := by
  by_cases h0 : s.size = 0
  · exact moves_none s a n f0 q0 w hs h0
  · by_cases h : s.size ≤ 4000
    · obtain ⟨k, hk, hk'⟩ := within_ev a s.size (by omega)
      obtain ⟨m, hm, hm'⟩ := within_ev n 300 (by omega)
      obtain ⟨q, hq, hq'⟩ := within_ev q0 (min 127 (8 * s.size - 1)) (by omega)
      obtain ⟨f, hf, hf'⟩ := within_ev f0 (8 * s.size - (1 + q)) (by omega)
      by_cases c1 : f + (1 + q) ≤ 8 * k
      · exact moves_a s a n f0 q0 w h (by omega) k m q f _ rfl hk hm hq hf ⟨hk'⟩ ⟨hm'⟩ ⟨hq'⟩ ⟨hf'⟩ _ _ ⟨⟨rfl, rfl⟩⟩ c1
      · by_cases c2 : f < 8 * k
        · exact moves_b s a n f0 q0 w h (by omega) k m q f _ rfl hk hm hq hf ⟨hk'⟩ ⟨hm'⟩ ⟨hq'⟩ ⟨hf'⟩ _ _ ⟨⟨rfl, rfl⟩⟩ (by omega) c2
        · exact moves_c s a n f0 q0 w h (by omega) k m q f _ rfl hk hm hq hf ⟨hk'⟩ ⟨hm'⟩ ⟨hq'⟩ ⟨hf'⟩ _ _ ⟨⟨rfl, rfl⟩⟩ (by omega)
    · exact moves_big s a n f0 q0 w hs (by omega)
end Go.Proofs.Ytdjdgkjikibgaaa.PBuf
