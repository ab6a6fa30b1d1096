/- BufPlays by hand: what the document's functions of a buffer do; both buffers under one act; the walk. -/
import Derived.Test.YtdjdgkjikibgaaaKApart
import Derived.Test.YtdjdgkjikibgaaaPBufx5
import Derived.Test.YtdjdgkjikibgaaaKReg
namespace Go.Proofs.Ytdjdgkjikibgaaa.MRef
open Go.Proofs.Ytdjdgkjikibgaaa.PBuf Go.Proofs.Ytdjdgkjikibgaaa.MSum Go.RowKit Go.Proofs.YtdjdgkjikibgaaaW.PrintWords Go.Proofs.YtdjdgkjikibgaaaW.PrintLast Go.Proofs.YtdjdgkjikibgaaaW.PrintMore
theorem ref_add {a b : Int} (ha : 0 ≤ a) (ha' : a ≤ 65535) (hb : 0 ≤ b) (hb' : b ≤ 65535) : turnoutref03_Add.f a b = some (rep (a + b)) := by
  unfold turnoutref03_Add.f
  rw [w64 (n := a) (by omega) (by omega), w64 (n := b) (by omega) (by omega), w64 (n := a + b) (by omega) (by omega)]
  have e : rep (a + b) = if a + b ≥ 65536 then a + b - 65535 else a + b := by unfold rep; split <;> split <;> omega
  rw [e]
  split
  · rw [w64 (n := a + b - 65536) (by omega) (by omega), w64 (by omega) (by omega), u16w (by omega) (by omega)]; congr 1; omega
  · rw [u16w (by omega) (by omega)]
theorem ref_l0 (s : ByteArray) (hs : s.size ≤ 281474976710656) (d : Nat) : ∀ (i : Nat) (n : Int), s.size - i ≤ d → i ≤ s.size + 1 → 0 ≤ n → n ≤ 65535 →
    Ev (fun k => turnoutref03_Sum.l0 k s n (i : Int)) (rep (n + W true (s.data.toList.drop i))) := by
  induction d with
  | zero =>
    intro i n hd h2 h0 hn
    rw [List.drop_of_length_le (by rw [len_data]; omega)]
    simp only [W, Int.add_zero]
    rw [rep_small h0 hn]
    exact Ev.step (f := fun _ => some n) (fun k => by simp only [turnoutref03_Sum.l0]; rw [if_neg (by omega)]) (Ev.now _)
  | succ d ih =>
    intro i n hd h2 h0 hn
    by_cases h : i < s.size
    · have hb : s[i].toNat < 256 := s[i].toNat_lt
      have e1 : wrap64 ((i : Int) + 1) = ((i + 1 : Nat) : Int) := by rw [w64 (by omega) (by omega)]; omega
      have e2 : wrap64 ((i : Int) + 2) = ((i + 2 : Nat) : Int) := by rw [w64 (by omega) (by omega)]; omega
      rw [drop_at s i h]
      by_cases h' : i + 1 < s.size
      · have hb' : s[i+1].toNat < 256 := s[i+1].toNat_lt
        rw [drop_at s (i + 1) h']
        simp only [W, Nat.add_assoc]
        have hw := (W_range (s.data.toList.drop (i + (1 + 1))) true).1
        have hr := rep_range (n := n + (256 * (s[i].toNat : Int) + (s[i+1].toNat : Int))) (by omega)
        have := ih (i + 2) (rep (n + (256 * (s[i].toNat : Int) + (s[i+1].toNat : Int)))) (by omega) (by omega) hr.1 hr.2
        rw [rep_add (by omega) hw] at this
        have e : n + (256 * (s[i].toNat : Int) + ((s[i+1].toNat : Int) + W true (s.data.toList.drop (i + (1 + 1))))) = n + (256 * (s[i].toNat : Int) + (s[i+1].toNat : Int)) + W true (s.data.toList.drop (i + (1 + 1))) := by omega
        rw [e]
        refine Ev.step (fun k => ?_) this
        simp only [turnoutref03_Sum.l0]
        rw [if_pos (by omega), if_pos (by omega), e1, if_pos (by omega), if_pos (by omega), bt_nat s i h, bt_nat s (i + 1) h', u16w (n := (s[i].toNat : Int)) (by omega) (by omega), u16w (n := (s[i].toNat : Int) * 256) (by omega) (by omega), u16w (n := (s[i+1].toNat : Int)) (by omega) (by omega), u16w (by omega) (by omega), ref_add h0 hn (by omega) (by omega), e2]
        simp only [Option.bind_some, Int.mul_comm]
      · rw [List.drop_of_length_le (by rw [len_data]; omega)]
        simp only [W, Int.add_zero]
        have hr := rep_range (n := n + 256 * (s[i].toNat : Int)) (by omega)
        have := ih (i + 2) (rep (n + 256 * (s[i].toNat : Int))) (by omega) (by omega) hr.1 hr.2
        rw [List.drop_of_length_le (by rw [len_data]; omega)] at this
        simp only [W, Int.add_zero] at this
        rw [rep_small hr.1 hr.2] at this
        refine Ev.step (fun k => ?_) this
        simp only [turnoutref03_Sum.l0]
        rw [if_pos (by omega), if_pos (by omega), e1, if_neg (by omega), bt_nat s i h, u16w (n := (s[i].toNat : Int)) (by omega) (by omega), u16w (n := (s[i].toNat : Int) * 256) (by omega) (by omega), ref_add h0 hn (by omega) (by omega), e2]
        simp only [Option.bind_some, Int.mul_comm]
    · rw [List.drop_of_length_le (by rw [len_data]; omega)]
      simp only [W, Int.add_zero]
      rw [rep_small h0 hn]
      exact Ev.step (f := fun _ => some n) (fun k => by simp only [turnoutref03_Sum.l0]; rw [if_neg (by omega)]) (Ev.now _)
theorem ref_sum (s : ByteArray) (hs : s.size ≤ 281474976710656) : Ev (fun k => turnoutref03_Sum.f k s) (rep (W true s.data.toList)) := by
  have := ref_l0 s hs s.size 0 0 (by omega) (by omega) (by omega) (by omega)
  simp only [List.drop_zero, Int.zero_add] at this; exact this
end Go.Proofs.Ytdjdgkjikibgaaa.MRef
namespace Go.Proofs.Ytdjdgkjikibgaaa.PBuf
open Go.Proofs.Ytdjdgkjikibgaaa.KReg Go.RowKit Go.Proofs.YtdjdgkjikibgaaaW.PrintWords Go.Proofs.YtdjdgkjikibgaaaW.PrintLast Go.Proofs.YtdjdgkjikibgaaaW.PrintMore
set_option linter.unusedVariables false
set_option linter.unusedSimpArgs false
/-- A call on the document's buffer: its answer, and its text behind it. -/
def RDoes (w0 u : World) (q : Nat) (s' : ByteArray) (r : Value) (e : Ending) (u' : World) : Prop := e = .returned r ∧ IsS60 w0 u' q s' ∧ KBuf.Mod (fun k => k = q) u u'
theorem mod_of {w0 u u' : World} {q : Nat} (h : Below w0.heap.size w0 u) (h' : Below w0.heap.size w0 u') (hk : KeepBut u u' q none) : KBuf.Mod (fun k => k = q) u u' :=
  ⟨h'.os.trans h.os.symm, h'.tape.trans h.tape.symm, h'.output.trans h.output.symm, hk.1, fun k hlt hn => hk.2 k hlt hn (fun e => by cases e)⟩
section
variable {w0 u : World} {q : Nat} {s : ByteArray}
theorem r_get (hI : IsS60 w0 u q s) (hB : Below w0.heap.size w0 u) (a n : Int) (K : Nat) (H L x : Int) (hk : turnoutref02_Get.f K s a n = some (H, L, x)) :
    Calls Try.prog 34 #[.pointer (some ⟨q, 0, none⟩), .int .i64 a, .int .i64 n] u (RDoes w0 u q s (.tuple #[.agg #[.int .u64 H, .int .u64 L], .int .i64 x])) :=
  (turnoutref05_Buf_Get.calls K q s a n H L x s w0 u hI hB (by unfold turnoutref05_Buf_Get.f; rw [hk]; rfl)).mono fun e u' h => ⟨h.1, h.2.1, mod_of hB h.2.2.1 h.2.2.2⟩
theorem wrong_ev (s : ByteArray) (a n : Int) (hs : s.size ≤ 9216) : Ev (fun k => turnoutref05_Buf_wrong.f k s a n) (offE s.size a n, s) := by
  have hj : ∀ k b, turnoutref05_Buf_wrong.j0 (k + 1) a n b s = if b = true then some (1, s) else if a > (s.size : Int) then some (4, s) else if n > wrap64 ((s.size : Int) - a) then some (4, s) else some (0, s) := fun _ _ => rfl
  refine ⟨1, fun k hk => ?_⟩
  obtain ⟨m, rfl⟩ : ∃ m, k = m + 1 := ⟨k - 1, by omega⟩
  show turnoutref05_Buf_wrong.f (m + 1) s a n = _
  unfold turnoutref05_Buf_wrong.f offE
  by_cases h1 : a < 0
  · rw [if_pos h1, if_pos (.inl h1), hj, if_pos rfl]
  · rw [if_neg h1, hj]
    by_cases h2 : n < 0
    · rw [if_pos (decide_eq_true h2), if_pos (.inr h2)]
    · rw [if_neg (show ¬ (decide (n < 0) = true) from by simpa using h2), if_neg (show ¬ (a < 0 ∨ n < 0) from fun hc => by rcases hc with hc | hc; exact h1 hc; exact h2 hc)]
      by_cases h3 : a > (s.size : Int)
      · rw [if_pos h3, if_pos (.inl h3)]
      · rw [if_neg h3, MSum.w64 (by omega) (by omega)]
        by_cases h4 : n > (s.size : Int) - a
        · rw [if_pos h4, if_pos (.inr h4)]
        · rw [if_neg h4, if_neg (show ¬ (a > (s.size : Int) ∨ n > (s.size : Int) - a) from fun hc => by rcases hc with hc | hc; exact h3 hc; exact h4 hc)]
theorem r_wrong (hI : IsS60 w0 u q s) (hB : Below w0.heap.size w0 u) (a n : Int) (hs : s.size ≤ 9216) (x : Int) (hx : offE s.size a n = x) :
    Calls Try.prog 50 #[.pointer (some ⟨q, 0, none⟩), .int .i64 a, .int .i64 n] u (RDoes w0 u q s (.int .i64 x)) := by
  subst hx
  obtain ⟨K, hK⟩ := wrong_ev s a n hs
  exact (turnoutref05_Buf_wrong.calls K q s a n _ s w0 u hI hB (hK K (Nat.le_refl K))).mono fun e u' h => ⟨h.1, h.2.1, mod_of hB h.2.2.1 h.2.2.2⟩
theorem r_sum_ok (hI : IsS60 w0 u q s) (hB : Below w0.heap.size w0 u) (hs : s.size ≤ 9216) (a n : Nat) (h : a + n ≤ s.size) :
    Calls Try.prog 38 #[.pointer (some ⟨q, 0, none⟩), .int .i64 a, .int .i64 n] u (RDoes w0 u q s (.tuple #[.int .u16 (sumV (s.extract a (a + n)).data.toList), .int .i64 0])) := by
  have hx : offE s.size a n = 0 := by unfold offE; rw [if_neg (by omega), if_neg (by omega)]
  have h1 := wrong_ev s a n hs
  rw [hx] at h1
  have hsz : (s.extract a (a + n)).size ≤ s.size := by rw [ByteArray.size_extract]; omega
  have h2 : Ev (fun k => turnoutref05_Buf_Sum.f k s a n) (sumV (s.extract a (a + n)).data.toList, 0, s) := by
    unfold turnoutref05_Buf_Sum.f
    refine Ev.bind h1 ?_
    have hw : wrap64 ((a : Int) + (n : Int)) = (a : Int) + (n : Int) := MSum.w64 (by omega) (by omega)
    have e : ((a : Int) + (n : Int)).toNat = a + n := by omega
    have e2 : (a : Int).toNat = a := rfl
    simp only [hw, e, e2]
    refine MBits.Ev.ip ?_ (MBits.Ev.ip ?_ (MBits.Ev.ip ?_ (MBits.Ev.ip ?_ (Ev.bind (MRef.ref_sum _ (show (s.extract a (a + n)).size ≤ 281474976710656 by omega)) (Ev.now _)))))
    · trivial
    · omega
    · omega
    · omega
  obtain ⟨K, hK⟩ := h2
  exact (turnoutref05_Buf_Sum.calls K q s a n _ _ s w0 u hI hB (hK K (Nat.le_refl K))).mono fun e u' h => ⟨h.1, h.2.1, mod_of hB h.2.2.1 h.2.2.2⟩
theorem r_sum_bad (hI : IsS60 w0 u q s) (hB : Below w0.heap.size w0 u) (hs : s.size ≤ 9216) (a n : Int) (x : Int) (hx : offE s.size a n = x) (hne : x ≠ 0) :
    Calls Try.prog 38 #[.pointer (some ⟨q, 0, none⟩), .int .i64 a, .int .i64 n] u (RDoes w0 u q s (.tuple #[.int .u16 0, .int .i64 x])) := by
  have h1 := wrong_ev s a n hs
  rw [hx] at h1
  have h2 : Ev (fun k => turnoutref05_Buf_Sum.f k s a n) (0, x, s) := by
    unfold turnoutref05_Buf_Sum.f
    refine Ev.bind h1 ?_
    exact MBits.Ev.in hne (Ev.now _)
  obtain ⟨K, hK⟩ := h2
  exact (turnoutref05_Buf_Sum.calls K q s a n _ _ s w0 u hI hB (hK K (Nat.le_refl K))).mono fun e u' h => ⟨h.1, h.2.1, mod_of hB h.2.2.1 h.2.2.2⟩
set_option maxHeartbeats 4000000 in
set_option maxRecDepth 100000 in
theorem r_del_bad (hI : IsS60 w0 u q s) (hB : Below w0.heap.size w0 u) (hs : s.size ≤ 9216) (a n : Int) (x : Int) (hx : offE s.size a n = x) (hne : x ≠ 0) :
    Calls Try.prog 37 #[.pointer (some ⟨q, 0, none⟩), .int .i64 a, .int .i64 n] u (RDoes w0 u q s (.int .i64 x)) := by
  have HI := Aside0.mk hI
  have HB := Aside0.mk hB
  have hb : (x == 0) = false := beq_false_of_ne hne
  clear hI hB
  go_enter Try.func37, Try.ntmps37
  go_wp2_with fail
  go_at_call 50
  (with_reducible refine (r_wrong HI.out HB.out a n hs x hx).mono ?_)
  rintro e u1 hd
  obtain rfl := hd.1
  have HD := Aside0.mk hd
  clear hd
  go_wp2_with fail
  go_ret
  exact ⟨rfl, HD.out.2⟩
end
theorem load60 {w : World} {b : Nat} {s : ByteArray} (hb : w.heap[b]? = some (.cells #[.string s] 60 (0, 0))) : (Instr.loadAt 9 (.pointer (some ⟨b, 0, none⟩)) : Sem Value).run Try.prog w = .ok (.string s) w := by
  have c0 := (blk_cell hb 0).trans (show _ = some (Value.string s) from rfl)
  go_simp
theorem store60 {w : World} {b : Nat} {s t : ByteArray} (hb : w.heap[b]? = some (.cells #[.string s] 60 (0, 0))) : (Instr.storeAt 9 (.pointer (some ⟨b, 0, none⟩)) (.string t) : Sem Unit).run Try.prog w = .ok () (w.setCell ⟨b, 0, none⟩ (.string t)) := by
  have c0 := (blk_cell hb 0).trans (show _ = some (Value.string s) from rfl)
  have f0 := blk_frozen hb 0
  go_simp
theorem IsS60.bel2 {w0 u v : World} {q : Nat} {s : ByteArray} (h : IsS60 w0 u q s) (hb : Below u.heap.size u v) : IsS60 w0 v q s := ⟨blk_below h.1 hb, h.2⟩
theorem IsS60.set_ {w0 u : World} {q : Nat} {s t : ByteArray} (h : IsS60 w0 u q s) : IsS60 w0 (u.setCell ⟨q, 0, none⟩ (.string t)) q t := ⟨blk_put h.1 0 _ rfl, h.2⟩
theorem mod_drew {u v : World} {q : Nat} (h : KBuf.Mod (fun k => k = q) u v) : KBuf.Mod (fun k => k = q) u v.drew := h.trans (KBuf.Mod.of_below (pw_below_drewN (Below.refl _ _) 1))
theorem mod_below {u v : World} {q : Nat} (hb : Below u.heap.size u v) : KBuf.Mod (fun k => k = q) u v := KBuf.Mod.of_below hb
section
variable {w0 u : World} {q : Nat} {s : ByteArray}
set_option maxHeartbeats 4000000 in
set_option maxRecDepth 100000 in
theorem r_del_ok (hI : IsS60 w0 u q s) (hB : Below w0.heap.size w0 u) (hs : s.size ≤ 9216) (a n : Nat) (h : a + n ≤ s.size) :
    Calls Try.prog 37 #[.pointer (some ⟨q, 0, none⟩), .int .i64 a, .int .i64 n] u (RDoes w0 u q (s.extract 0 a ++ s.extract (a + n) s.size) (.int .i64 0)) := by
  have hx : offE s.size a n = 0 := by unfold offE; rw [if_neg (by omega), if_neg (by omega)]
  have g1 : (a : Int) ≤ (s.size : Int) := by omega
  have g2 : (0 : Int) ≤ (a : Int) + (n : Int) := by omega
  have g3 : (a : Int) + (n : Int) ≤ (s.size : Int) := by omega
  have g4 : ((a : Int) + (n : Int)).toNat = a + n := by omega
  have g5 : min a s.size + (s.size - (a + n)) ≤ 9223372036854775807 := by omega
  have c1 : wrap64 ((a : Int) + (n : Int)) = (a : Int) + (n : Int) := MSum.w64 (by omega) (by omega)
  have c2 : IntKind.i64.wrap ((a : Int) + (n : Int)) = (a : Int) + (n : Int) := by rw [i64_w]; exact c1
  have HI := Aside0.mk hI
  have HB := Aside0.mk hB
  clear hI hB
  go_enter Try.func37, Try.ntmps37
  go_wp2_with fail
  go_at_call 50
  (with_reducible refine (r_wrong HI.out HB.out a n hs 0 hx).mono ?_)
  rintro e u1 hd
  obtain rfl := hd.1
  have HI2 := Aside0.mk hd.2.1; clear HI; have HI := HI2; clear HI2
  have HN := Aside0.mk (And.intro hd.2.1 hd.2.2)
  clear hd
  go_wp2_with fail
  have HI2 := Aside0.mk HI.out.drew; clear HI; have HI := HI2; clear HI2
  have HN2 := Aside0.mk (And.intro HI.out (mod_drew HN.out.2)); clear HN; have HN := HN2; clear HN2
  refine wp_region_any (by kernel_rfl) ?_
  change wpAny _ _ _ _ _ _ _ (World.drew _)
  refine any_var (fun A hA => ?_)
  have s0 : A.eval (.tmp 0) = Value.pointer (some ⟨q, 0, none⟩) := by rw [hA]; rfl
  have s1 : A.eval (.tmp 1) = Value.int .i64 (a : Int) := by rw [hA]; rfl
  have s2 : A.eval (.tmp 2) = Value.int .i64 (n : Int) := by rw [hA]; rfl
  have s7 : A.eval (.tmp 7) = Value.int .i64 0 := by rw [hA]; rfl
  haveI HFr : Fr 33 A := ⟨by rw [hA]; exact Nat.le_refl _⟩
  have HAA := Aside0.mk hA
  clear hA
  refine reg_pure 0 (some 14) (v := Value.pointer (some ⟨q, 0, none⟩)) rfl (by kernel_rfl) (by kernel_rfl) (by kernel_rfl) rfl (fun _ _ _ h => h) (wanted_none rfl) (ro_move (.inl rfl) s0) ?_
  refine reg_pure 1 (some 15) (v := Value.pointer (some ⟨q, 0, none⟩)) rfl (by kernel_rfl) (by kernel_rfl) (by kernel_rfl) rfl (fun _ _ _ h => h) (wanted_none rfl) (ro_move (.inl rfl) (ev_ne (by decide) s0)) ?_
  refine reg_pure 2 (some 16) (v := Value.pointer (some ⟨q, 0, none⟩)) rfl (by kernel_rfl) (by kernel_rfl) (by kernel_rfl) rfl (fun _ _ _ h => h) (wanted_none rfl) (ro_nil rfl (ev_eq (by decide))) ?_
  refine reg_pure 3 (some 17) (v := Value.pointer (some ⟨q, 0, none⟩)) rfl (by kernel_rfl) (by kernel_rfl) (by kernel_rfl) rfl (fun _ _ _ h => h) (wanted_none rfl) (ro_field rfl (ev_eq (by decide)) (fun w => by go_simp)) ?_
  refine reg_pure 5 (some 19) (v := Value.int .i64 (a : Int)) rfl (by kernel_rfl) (by kernel_rfl) (by kernel_rfl) rfl (fun _ _ _ h => h) (wanted_none rfl) (ro_move (.inl rfl) (ev_ne (by decide) (ev_ne (by decide) (ev_ne (by decide) (ev_ne (by decide) s1))))) ?_
  refine reg_pure 7 (some 21) (v := Value.pointer (some ⟨q, 0, none⟩)) rfl (by kernel_rfl) (by kernel_rfl) (by kernel_rfl) rfl (fun _ _ _ h => h) (wanted_none rfl) (ro_move (.inl rfl) (ev_ne (by decide) (ev_ne (by decide) (ev_ne (by decide) (ev_ne (by decide) (ev_ne (by decide) s0)))))) ?_
  refine reg_pure 8 (some 22) (v := Value.pointer (some ⟨q, 0, none⟩)) rfl (by kernel_rfl) (by kernel_rfl) (by kernel_rfl) rfl (fun _ _ _ h => h) (wanted_none rfl) (ro_nil rfl (ev_eq (by decide))) ?_
  refine reg_pure 9 (some 23) (v := Value.pointer (some ⟨q, 0, none⟩)) rfl (by kernel_rfl) (by kernel_rfl) (by kernel_rfl) rfl (fun _ _ _ h => h) (wanted_none rfl) (ro_field rfl (ev_eq (by decide)) (fun w => by go_simp)) ?_
  refine reg_pure 11 (some 25) (v := Value.int .i64 (a : Int)) rfl (by kernel_rfl) (by kernel_rfl) (by kernel_rfl) rfl (fun _ _ _ h => h) (wanted_none rfl) (ro_move (.inl rfl) (ev_ne (by decide) (ev_ne (by decide) (ev_ne (by decide) (ev_ne (by decide) (ev_ne (by decide) (ev_ne (by decide) (ev_ne (by decide) (ev_ne (by decide) s1))))))))) ?_
  refine reg_pure 12 (some 26) (v := Value.int .i64 (n : Int)) rfl (by kernel_rfl) (by kernel_rfl) (by kernel_rfl) rfl (fun _ _ _ h => h) (wanted_none rfl) (ro_move (.inl rfl) (ev_ne (by decide) (ev_ne (by decide) (ev_ne (by decide) (ev_ne (by decide) (ev_ne (by decide) (ev_ne (by decide) (ev_ne (by decide) (ev_ne (by decide) (ev_ne (by decide) s2)))))))))) ?_
  refine reg_pure 13 (some 27) (v := Value.int .i64 ((a : Int) + (n : Int))) rfl (by kernel_rfl) (by kernel_rfl) (by kernel_rfl) rfl (fun _ _ _ h => h) (wanted_none rfl) (ro_bin rfl (ev_ne (by decide) (ev_eq (by decide))) (ev_eq (by decide)) (fun w => by go_simp)) ?_
  refine wpAny_ready (rs := [4, 10]) (by kernel_rfl) (by simp) ?_
  refine br_load 4 (some 18) (v := Value.string s) rfl rfl (wanted_none rfl) (ro_load rfl (ev_ne (by decide) (ev_ne (by decide) (ev_ne (by decide) (ev_ne (by decide) (ev_ne (by decide) (ev_ne (by decide) (ev_ne (by decide) (ev_eq (by decide))))))))) (load60 HI.out.1)) ?_ ?_
  · skip
    refine reg_pure 6 (some 20) (v := Value.string (s.extract 0 a)) rfl (by kernel_rfl) (by kernel_rfl) (by kernel_rfl) rfl (fun _ _ _ h => h) (wanted_none rfl) (ro_slice rfl (ev_eq (by decide)) rfl (congrArg some (ev_ne (by decide) (ev_ne (by decide) (ev_ne (by decide) (ev_ne (by decide) (ev_ne (by decide) (ev_ne (by decide) (ev_ne (by decide) (ev_eq (by decide)))))))))) (fun w => by go_simp)) ?_
    refine wpAny_ready (rs := [10]) (by kernel_rfl) (by simp) ?_
    refine br_load 10 (some 24) (v := Value.string s) rfl rfl (wanted_none rfl) (ro_load rfl (ev_ne (by decide) (ev_ne (by decide) (ev_ne (by decide) (ev_ne (by decide) (ev_ne (by decide) (ev_eq (by decide))))))) (load60 HI.out.1)) ?_ ?_
    · skip
      refine reg_pure 14 (some 28) (v := Value.string (s.extract (a + n) s.size)) rfl (by kernel_rfl) (by kernel_rfl) (by kernel_rfl) rfl (fun _ _ _ h => h) (wanted_none rfl) (ro_slice rfl (ev_eq (by decide)) (congrArg some (ev_ne (by decide) (ev_ne (by decide) (ev_ne (by decide) (ev_eq (by decide)))))) rfl (fun w => by go_simp)) ?_
      refine reg_pure 15 (some 29) (v := Value.string (s.extract 0 a ++ s.extract (a + n) s.size)) rfl (by kernel_rfl) (by kernel_rfl) (by kernel_rfl) rfl (fun _ _ _ h => h) (wanted_none rfl) (ro_bin rfl (ev_ne (by decide) (ev_ne (by decide) (ev_eq (by decide)))) (ev_eq (by decide)) (fun w => by go_simp)) ?_
      refine reg_pure 16 (some 30) (v := Value.pointer (some ⟨q, 0, none⟩)) rfl (by kernel_rfl) (by kernel_rfl) (by kernel_rfl) rfl (fun _ _ _ h => h) (wanted_none rfl) (ro_nil rfl (ev_ne (by decide) (ev_ne (by decide) (ev_ne (by decide) (ev_ne (by decide) (ev_ne (by decide) (ev_ne (by decide) (ev_ne (by decide) (ev_ne (by decide) (ev_ne (by decide) (ev_ne (by decide) (ev_ne (by decide) (ev_ne (by decide) (ev_ne (by decide) (ev_ne (by decide) (ev_ne (by decide) (ev_eq (by decide)))))))))))))))))) ?_
      refine reg_pure 17 (some 31) (v := Value.pointer (some ⟨q, 0, none⟩)) rfl (by kernel_rfl) (by kernel_rfl) (by kernel_rfl) rfl (fun _ _ _ h => h) (wanted_none rfl) (ro_field rfl (ev_eq (by decide)) (fun w => by go_simp)) ?_
      refine wpAny_ready (rs := [18]) (by kernel_rfl) (by simp) ?_
      refine br_store 18 rfl rfl (wanted_none rfl) rfl (ev_eq (by decide)) (ev_ne (by decide) (ev_ne (by decide) (ev_eq (by decide)))) (store60 HI.out.1) ?_ ?_
      · skip
        have HN2 := Aside0.mk (And.intro (HI.out.set_ (t := s.extract 0 a ++ s.extract (a + n) s.size)) (HN.out.2.trans (KBuf.Mod.setCell _ q 0 (.string (s.extract 0 a ++ s.extract (a + n) s.size)) rfl))); clear HI HN; have HN := HN2; clear HN2
        refine reg_done (by kernel_rfl) ?_
        have hA := HAA.out
        subst hA
        simp only [Act.put, List.setIfInBounds_toArray, List.set_cons_zero, List.set_cons_succ]
        clear HAA HFr s0 s1 s2 s7
        go_wp2_with fail
        go_ret
        exact ⟨rfl, HN.out⟩
      exact AllReady.nil
    exact AllReady.nil
  refine br_load 10 (some 24) (v := Value.string s) rfl rfl (wanted_none rfl) (ro_load rfl (ev_ne (by decide) (ev_ne (by decide) (ev_ne (by decide) (ev_eq (by decide))))) (load60 HI.out.1)) ?_ ?_
  · skip
    refine reg_pure 14 (some 28) (v := Value.string (s.extract (a + n) s.size)) rfl (by kernel_rfl) (by kernel_rfl) (by kernel_rfl) rfl (fun _ _ _ h => h) (wanted_none rfl) (ro_slice rfl (ev_eq (by decide)) (congrArg some (ev_ne (by decide) (ev_eq (by decide)))) rfl (fun w => by go_simp)) ?_
    refine wpAny_ready (rs := [4]) (by kernel_rfl) (by simp) ?_
    refine br_load 4 (some 18) (v := Value.string s) rfl rfl (wanted_none rfl) (ro_load rfl (ev_ne (by decide) (ev_ne (by decide) (ev_ne (by decide) (ev_ne (by decide) (ev_ne (by decide) (ev_ne (by decide) (ev_ne (by decide) (ev_ne (by decide) (ev_ne (by decide) (ev_eq (by decide))))))))))) (load60 HI.out.1)) ?_ ?_
    · skip
      refine reg_pure 6 (some 20) (v := Value.string (s.extract 0 a)) rfl (by kernel_rfl) (by kernel_rfl) (by kernel_rfl) rfl (fun _ _ _ h => h) (wanted_none rfl) (ro_slice rfl (ev_eq (by decide)) rfl (congrArg some (ev_ne (by decide) (ev_ne (by decide) (ev_ne (by decide) (ev_ne (by decide) (ev_ne (by decide) (ev_ne (by decide) (ev_ne (by decide) (ev_ne (by decide) (ev_ne (by decide) (ev_eq (by decide)))))))))))) (fun w => by go_simp)) ?_
      refine reg_pure 15 (some 29) (v := Value.string (s.extract 0 a ++ s.extract (a + n) s.size)) rfl (by kernel_rfl) (by kernel_rfl) (by kernel_rfl) rfl (fun _ _ _ h => h) (wanted_none rfl) (ro_bin rfl (ev_eq (by decide)) (ev_ne (by decide) (ev_ne (by decide) (ev_eq (by decide)))) (fun w => by go_simp)) ?_
      refine reg_pure 16 (some 30) (v := Value.pointer (some ⟨q, 0, none⟩)) rfl (by kernel_rfl) (by kernel_rfl) (by kernel_rfl) rfl (fun _ _ _ h => h) (wanted_none rfl) (ro_nil rfl (ev_ne (by decide) (ev_ne (by decide) (ev_ne (by decide) (ev_ne (by decide) (ev_ne (by decide) (ev_ne (by decide) (ev_ne (by decide) (ev_ne (by decide) (ev_ne (by decide) (ev_ne (by decide) (ev_ne (by decide) (ev_ne (by decide) (ev_ne (by decide) (ev_ne (by decide) (ev_ne (by decide) (ev_eq (by decide)))))))))))))))))) ?_
      refine reg_pure 17 (some 31) (v := Value.pointer (some ⟨q, 0, none⟩)) rfl (by kernel_rfl) (by kernel_rfl) (by kernel_rfl) rfl (fun _ _ _ h => h) (wanted_none rfl) (ro_field rfl (ev_eq (by decide)) (fun w => by go_simp)) ?_
      refine wpAny_ready (rs := [18]) (by kernel_rfl) (by simp) ?_
      refine br_store 18 rfl rfl (wanted_none rfl) rfl (ev_eq (by decide)) (ev_ne (by decide) (ev_ne (by decide) (ev_eq (by decide)))) (store60 HI.out.1) ?_ ?_
      · skip
        have HN2 := Aside0.mk (And.intro (HI.out.set_ (t := s.extract 0 a ++ s.extract (a + n) s.size)) (HN.out.2.trans (KBuf.Mod.setCell _ q 0 (.string (s.extract 0 a ++ s.extract (a + n) s.size)) rfl))); clear HI HN; have HN := HN2; clear HN2
        refine reg_done (by kernel_rfl) ?_
        have hA := HAA.out
        subst hA
        simp only [Act.put, List.setIfInBounds_toArray, List.set_cons_zero, List.set_cons_succ]
        clear HAA HFr s0 s1 s2 s7
        go_wp2_with fail
        go_ret
        exact ⟨rfl, HN.out⟩
      exact AllReady.nil
    exact AllReady.nil
  exact AllReady.nil
set_option maxHeartbeats 4000000 in
set_option maxRecDepth 100000 in
theorem r_ins_a (hI : IsS60 w0 u q s) (hB : Below w0.heap.size w0 u) (hs : s.size ≤ 9216) (a n : Int) (ha : a < 0) :
    Calls Try.prog 36 #[.pointer (some ⟨q, 0, none⟩), .int .i64 a, .int .i64 n] u (RDoes w0 u q s (.int .i64 1)) := by
  have h1 : decide (a < 0) = true := decide_eq_true (by omega)
  have c0 := (blk_cell hI.1 0).trans (show _ = some (Value.string s) from rfl)
  have HN := Aside0.mk (And.intro hI (KBuf.Mod.refl (fun k => k = q) u))
  clear hI hB
  go_enter Try.func36, Try.ntmps36
  go_wp2_with fail
  go_ret
  exact ⟨rfl, HN.out⟩
set_option maxHeartbeats 4000000 in
set_option maxRecDepth 100000 in
theorem r_ins_n (hI : IsS60 w0 u q s) (hB : Below w0.heap.size w0 u) (hs : s.size ≤ 9216) (a n : Int) (ha : 0 ≤ a) (hn : n < 0) :
    Calls Try.prog 36 #[.pointer (some ⟨q, 0, none⟩), .int .i64 a, .int .i64 n] u (RDoes w0 u q s (.int .i64 1)) := by
  have h1 : decide (a < 0) = false := decide_eq_false (by omega)
  have h2 : decide (n < 0) = true := decide_eq_true (by omega)
  have c0 := (blk_cell hI.1 0).trans (show _ = some (Value.string s) from rfl)
  have HN := Aside0.mk (And.intro hI (KBuf.Mod.refl (fun k => k = q) u))
  clear hI hB
  go_enter Try.func36, Try.ntmps36
  go_wp2_with fail
  go_ret
  exact ⟨rfl, HN.out⟩
set_option maxHeartbeats 4000000 in
set_option maxRecDepth 100000 in
theorem r_ins_s (hI : IsS60 w0 u q s) (hB : Below w0.heap.size w0 u) (hs : s.size ≤ 9216) (a n : Int) (ha : 0 ≤ a) (hn : 0 ≤ n) (hc : (s.size : Int) < a) :
    Calls Try.prog 36 #[.pointer (some ⟨q, 0, none⟩), .int .i64 a, .int .i64 n] u (RDoes w0 u q s (.int .i64 4)) := by
  have h1 : decide (a < 0) = false := decide_eq_false (by omega)
  have h2 : decide (n < 0) = false := decide_eq_false (by omega)
  have h3 : decide (a > (s.size : Int)) = true := decide_eq_true (by omega)
  have c0 := (blk_cell hI.1 0).trans (show _ = some (Value.string s) from rfl)
  have HN := Aside0.mk (And.intro hI (KBuf.Mod.refl (fun k => k = q) u))
  clear hI hB
  go_enter Try.func36, Try.ntmps36
  go_wp2_with fail
  go_ret
  exact ⟨rfl, HN.out⟩
set_option maxHeartbeats 4000000 in
set_option maxRecDepth 100000 in
theorem r_ins_l (hI : IsS60 w0 u q s) (hB : Below w0.heap.size w0 u) (hs : s.size ≤ 9216) (a n : Int) (ha : 0 ≤ a) (hn : 0 ≤ n) (hc : a ≤ (s.size : Int)) (hd : 9216 - (s.size : Int) < n) :
    Calls Try.prog 36 #[.pointer (some ⟨q, 0, none⟩), .int .i64 a, .int .i64 n] u (RDoes w0 u q s (.int .i64 5)) := by
  have h1 : decide (a < 0) = false := decide_eq_false (by omega)
  have h2 : decide (n < 0) = false := decide_eq_false (by omega)
  have h3 : decide (a > (s.size : Int)) = false := decide_eq_false (by omega)
  have h4 : decide (n > 9216 - (s.size : Int)) = true := decide_eq_true (by omega)
  have c0 := (blk_cell hI.1 0).trans (show _ = some (Value.string s) from rfl)
  have HN := Aside0.mk (And.intro hI (KBuf.Mod.refl (fun k => k = q) u))
  clear hI hB
  go_enter Try.func36, Try.ntmps36
  go_wp2_with fail
  go_ret
  exact ⟨rfl, HN.out⟩
set_option maxHeartbeats 4000000 in
set_option maxRecDepth 100000 in
theorem r_ins_ok (hI : IsS60 w0 u q s) (hB : Below w0.heap.size w0 u) (hs : s.size ≤ 9216) (a n : Nat) (ha : a ≤ s.size) (hn : s.size + n ≤ 9216) (zs : ByteArray) (hz : zs.size ≤ 9216) (HZ : Aside0 (turnoutref05_zeros.f n = some zs)) :
    Calls Try.prog 36 #[.pointer (some ⟨q, 0, none⟩), .int .i64 a, .int .i64 n] u (RDoes w0 u q (s.extract 0 a ++ zs ++ s.extract a s.size) (.int .i64 0)) := by
  have h1 : decide ((a : Int) < 0) = false := decide_eq_false (by omega)
  have h2 : decide ((n : Int) < 0) = false := decide_eq_false (by omega)
  have h3 : decide ((a : Int) > (s.size : Int)) = false := decide_eq_false (by omega)
  have h4 : decide ((n : Int) > 9216 - (s.size : Int)) = false := decide_eq_false (by omega)
  have g1 : (a : Int) ≤ (s.size : Int) := by omega
  have g5 : a + zs.size ≤ 9223372036854775807 := by omega
  have g6 : a + zs.size + (s.size - a) ≤ 9223372036854775807 := by omega
  have c0 := (blk_cell hI.1 0).trans (show _ = some (Value.string s) from rfl)
  have HI := Aside0.mk hI.drew
  have HN := Aside0.mk (And.intro hI.drew (mod_drew (KBuf.Mod.refl (fun k => k = q) u)))
  clear hI hB
  go_enter Try.func36, Try.ntmps36
  go_wp2_with fail
  refine wp_region_any (by kernel_rfl) ?_
  change wpAny _ _ _ _ _ _ _ (World.drew _)
  refine any_var (fun A hA => ?_)
  have s0 : A.eval (.tmp 0) = Value.pointer (some ⟨q, 0, none⟩) := by rw [hA]; rfl
  have s1 : A.eval (.tmp 1) = Value.int .i64 (a : Int) := by rw [hA]; rfl
  have s2 : A.eval (.tmp 2) = Value.int .i64 (n : Int) := by rw [hA]; rfl
  haveI HFr : Fr 47 A := ⟨by rw [hA]; exact Nat.le_refl _⟩
  have HAA := Aside0.mk hA
  clear hA
  refine reg_pure 0 (some 28) (v := Value.pointer (some ⟨q, 0, none⟩)) rfl (by kernel_rfl) (by kernel_rfl) (by kernel_rfl) rfl (fun _ _ _ h => h) (wanted_none rfl) (ro_move (.inl rfl) s0) ?_
  refine reg_pure 1 (some 29) (v := Value.pointer (some ⟨q, 0, none⟩)) rfl (by kernel_rfl) (by kernel_rfl) (by kernel_rfl) rfl (fun _ _ _ h => h) (wanted_none rfl) (ro_move (.inl rfl) (ev_ne (by decide) s0)) ?_
  refine reg_pure 2 (some 30) (v := Value.pointer (some ⟨q, 0, none⟩)) rfl (by kernel_rfl) (by kernel_rfl) (by kernel_rfl) rfl (fun _ _ _ h => h) (wanted_none rfl) (ro_nil rfl (ev_eq (by decide))) ?_
  refine reg_pure 3 (some 31) (v := Value.pointer (some ⟨q, 0, none⟩)) rfl (by kernel_rfl) (by kernel_rfl) (by kernel_rfl) rfl (fun _ _ _ h => h) (wanted_none rfl) (ro_field rfl (ev_eq (by decide)) (fun w => by go_simp)) ?_
  refine reg_pure 5 (some 33) (v := Value.int .i64 (a : Int)) rfl (by kernel_rfl) (by kernel_rfl) (by kernel_rfl) rfl (fun _ _ _ h => h) (wanted_none rfl) (ro_move (.inl rfl) (ev_ne (by decide) (ev_ne (by decide) (ev_ne (by decide) (ev_ne (by decide) s1))))) ?_
  refine reg_pure 7 (some 35) (v := Value.int .i64 (n : Int)) rfl (by kernel_rfl) (by kernel_rfl) (by kernel_rfl) rfl (fun _ _ _ h => h) (wanted_none rfl) (ro_move (.inl rfl) (ev_ne (by decide) (ev_ne (by decide) (ev_ne (by decide) (ev_ne (by decide) (ev_ne (by decide) s2)))))) ?_
  refine reg_pure 10 (some 38) (v := Value.pointer (some ⟨q, 0, none⟩)) rfl (by kernel_rfl) (by kernel_rfl) (by kernel_rfl) rfl (fun _ _ _ h => h) (wanted_none rfl) (ro_move (.inl rfl) (ev_ne (by decide) (ev_ne (by decide) (ev_ne (by decide) (ev_ne (by decide) (ev_ne (by decide) (ev_ne (by decide) s0))))))) ?_
  refine reg_pure 11 (some 39) (v := Value.pointer (some ⟨q, 0, none⟩)) rfl (by kernel_rfl) (by kernel_rfl) (by kernel_rfl) rfl (fun _ _ _ h => h) (wanted_none rfl) (ro_nil rfl (ev_eq (by decide))) ?_
  refine reg_pure 12 (some 40) (v := Value.pointer (some ⟨q, 0, none⟩)) rfl (by kernel_rfl) (by kernel_rfl) (by kernel_rfl) rfl (fun _ _ _ h => h) (wanted_none rfl) (ro_field rfl (ev_eq (by decide)) (fun w => by go_simp)) ?_
  refine reg_pure 14 (some 42) (v := Value.int .i64 (a : Int)) rfl (by kernel_rfl) (by kernel_rfl) (by kernel_rfl) rfl (fun _ _ _ h => h) (wanted_none rfl) (ro_move (.inl rfl) (ev_ne (by decide) (ev_ne (by decide) (ev_ne (by decide) (ev_ne (by decide) (ev_ne (by decide) (ev_ne (by decide) (ev_ne (by decide) (ev_ne (by decide) (ev_ne (by decide) s1)))))))))) ?_
  refine wpAny_ready (rs := [4, 8, 13]) (by kernel_rfl) (by simp) ?_
  refine br_load 4 (some 32) (v := Value.string s) rfl rfl (wanted_none rfl) (ro_load rfl (ev_ne (by decide) (ev_ne (by decide) (ev_ne (by decide) (ev_ne (by decide) (ev_ne (by decide) (ev_ne (by decide) (ev_eq (by decide)))))))) (load60 HI.out.1)) ?_ ?_
  · skip
    refine reg_pure 6 (some 34) (v := Value.string (s.extract 0 a)) rfl (by kernel_rfl) (by kernel_rfl) (by kernel_rfl) rfl (fun _ _ _ h => h) (wanted_none rfl) (ro_slice rfl (ev_eq (by decide)) rfl (congrArg some (ev_ne (by decide) (ev_ne (by decide) (ev_ne (by decide) (ev_ne (by decide) (ev_ne (by decide) (ev_ne (by decide) (ev_eq (by decide))))))))) (fun w => by go_simp)) ?_
    refine wpAny_ready (rs := [8, 13]) (by kernel_rfl) (by simp) ?_
    refine br_call 8 (some 36) 49 #[Value.int .i64 (n : Int)] rfl rfl (wanted_none rfl) rfl (map1 (ev_ne (by decide) (ev_ne (by decide) (ev_ne (by decide) (ev_ne (by decide) (ev_ne (by decide) (ev_ne (by decide) (ev_eq (by decide))))))))) (fun args w => by kernel_rfl) (turnoutref05_zeros.calls n zs _ HZ.out) ?_ ?_
    · rintro e v1 ⟨rfl, hb⟩
      have HI2 := Aside0.mk (HI.out.below hb); clear HI; have HI := HI2; clear HI2
      have HN2 := Aside0.mk (And.intro HI.out (HN.out.2.trans (mod_below hb))); clear HN hb; have HN := HN2; clear HN2
      refine ⟨_, rfl, ?_⟩
      refine reg_pure 9 (some 37) (v := Value.string (s.extract 0 a ++ zs)) rfl (by kernel_rfl) (by kernel_rfl) (by kernel_rfl) rfl (fun _ _ _ h => h) (wanted_none rfl) (ro_bin rfl (ev_ne (by decide) (ev_eq (by decide))) (ev_eq (by decide)) (fun w => by go_simp)) ?_
      refine wpAny_ready (rs := [13]) (by kernel_rfl) (by simp) ?_
      refine br_load 13 (some 41) (v := Value.string s) rfl rfl (wanted_none rfl) (ro_load rfl (ev_ne (by decide) (ev_ne (by decide) (ev_ne (by decide) (ev_ne (by decide) (ev_ne (by decide) (ev_eq (by decide))))))) (load60 HI.out.1)) ?_ ?_
      · skip
        refine reg_pure 15 (some 43) (v := Value.string (s.extract a s.size)) rfl (by kernel_rfl) (by kernel_rfl) (by kernel_rfl) rfl (fun _ _ _ h => h) (wanted_none rfl) (ro_slice rfl (ev_eq (by decide)) (congrArg some (ev_ne (by decide) (ev_ne (by decide) (ev_ne (by decide) (ev_ne (by decide) (ev_ne (by decide) (ev_eq (by decide)))))))) rfl (fun w => by go_simp)) ?_
        refine reg_pure 16 (some 44) (v := Value.string (s.extract 0 a ++ zs ++ s.extract a s.size)) rfl (by kernel_rfl) (by kernel_rfl) (by kernel_rfl) rfl (fun _ _ _ h => h) (wanted_none rfl) (ro_bin rfl (ev_ne (by decide) (ev_ne (by decide) (ev_eq (by decide)))) (ev_eq (by decide)) (fun w => by go_simp)) ?_
        refine reg_pure 17 (some 45) (v := Value.pointer (some ⟨q, 0, none⟩)) rfl (by kernel_rfl) (by kernel_rfl) (by kernel_rfl) rfl (fun _ _ _ h => h) (wanted_none rfl) (ro_nil rfl (ev_ne (by decide) (ev_ne (by decide) (ev_ne (by decide) (ev_ne (by decide) (ev_ne (by decide) (ev_ne (by decide) (ev_ne (by decide) (ev_ne (by decide) (ev_ne (by decide) (ev_ne (by decide) (ev_ne (by decide) (ev_ne (by decide) (ev_ne (by decide) (ev_ne (by decide) (ev_ne (by decide) (ev_ne (by decide) (ev_eq (by decide))))))))))))))))))) ?_
        refine reg_pure 18 (some 46) (v := Value.pointer (some ⟨q, 0, none⟩)) rfl (by kernel_rfl) (by kernel_rfl) (by kernel_rfl) rfl (fun _ _ _ h => h) (wanted_none rfl) (ro_field rfl (ev_eq (by decide)) (fun w => by go_simp)) ?_
        refine wpAny_ready (rs := [19]) (by kernel_rfl) (by simp) ?_
        refine br_store 19 rfl rfl (wanted_none rfl) rfl (ev_eq (by decide)) (ev_ne (by decide) (ev_ne (by decide) (ev_eq (by decide)))) (store60 HI.out.1) ?_ ?_
        · skip
          have HN2 := Aside0.mk (And.intro (HI.out.set_ (t := s.extract 0 a ++ zs ++ s.extract a s.size)) (HN.out.2.trans (KBuf.Mod.setCell _ q 0 (.string (s.extract 0 a ++ zs ++ s.extract a s.size)) rfl))); clear HI HN; have HN := HN2; clear HN2
          refine reg_done (by kernel_rfl) ?_
          have hA := HAA.out
          subst hA
          simp only [Act.put, List.setIfInBounds_toArray, List.set_cons_zero, List.set_cons_succ]
          clear HAA HFr s0 s1 s2
          go_wp2_with fail
          go_ret
          exact ⟨rfl, HN.out⟩
        exact AllReady.nil
      exact AllReady.nil
    refine br_load 13 (some 41) (v := Value.string s) rfl rfl (wanted_none rfl) (ro_load rfl (ev_ne (by decide) (ev_ne (by decide) (ev_ne (by decide) (ev_eq (by decide))))) (load60 HI.out.1)) ?_ ?_
    · skip
      refine reg_pure 15 (some 43) (v := Value.string (s.extract a s.size)) rfl (by kernel_rfl) (by kernel_rfl) (by kernel_rfl) rfl (fun _ _ _ h => h) (wanted_none rfl) (ro_slice rfl (ev_eq (by decide)) (congrArg some (ev_ne (by decide) (ev_ne (by decide) (ev_ne (by decide) (ev_eq (by decide)))))) rfl (fun w => by go_simp)) ?_
      refine wpAny_ready (rs := [8]) (by kernel_rfl) (by simp) ?_
      refine br_call 8 (some 36) 49 #[Value.int .i64 (n : Int)] rfl rfl (wanted_none rfl) rfl (map1 (ev_ne (by decide) (ev_ne (by decide) (ev_ne (by decide) (ev_ne (by decide) (ev_ne (by decide) (ev_ne (by decide) (ev_ne (by decide) (ev_ne (by decide) (ev_eq (by decide))))))))))) (fun args w => by kernel_rfl) (turnoutref05_zeros.calls n zs _ HZ.out) ?_ ?_
      · rintro e v1 ⟨rfl, hb⟩
        have HI2 := Aside0.mk (HI.out.below hb); clear HI; have HI := HI2; clear HI2
        have HN2 := Aside0.mk (And.intro HI.out (HN.out.2.trans (mod_below hb))); clear HN hb; have HN := HN2; clear HN2
        refine ⟨_, rfl, ?_⟩
        refine reg_pure 9 (some 37) (v := Value.string (s.extract 0 a ++ zs)) rfl (by kernel_rfl) (by kernel_rfl) (by kernel_rfl) rfl (fun _ _ _ h => h) (wanted_none rfl) (ro_bin rfl (ev_ne (by decide) (ev_ne (by decide) (ev_ne (by decide) (ev_eq (by decide))))) (ev_eq (by decide)) (fun w => by go_simp)) ?_
        refine reg_pure 16 (some 44) (v := Value.string (s.extract 0 a ++ zs ++ s.extract a s.size)) rfl (by kernel_rfl) (by kernel_rfl) (by kernel_rfl) rfl (fun _ _ _ h => h) (wanted_none rfl) (ro_bin rfl (ev_eq (by decide)) (ev_ne (by decide) (ev_ne (by decide) (ev_eq (by decide)))) (fun w => by go_simp)) ?_
        refine reg_pure 17 (some 45) (v := Value.pointer (some ⟨q, 0, none⟩)) rfl (by kernel_rfl) (by kernel_rfl) (by kernel_rfl) rfl (fun _ _ _ h => h) (wanted_none rfl) (ro_nil rfl (ev_ne (by decide) (ev_ne (by decide) (ev_ne (by decide) (ev_ne (by decide) (ev_ne (by decide) (ev_ne (by decide) (ev_ne (by decide) (ev_ne (by decide) (ev_ne (by decide) (ev_ne (by decide) (ev_ne (by decide) (ev_ne (by decide) (ev_ne (by decide) (ev_ne (by decide) (ev_ne (by decide) (ev_ne (by decide) (ev_eq (by decide))))))))))))))))))) ?_
        refine reg_pure 18 (some 46) (v := Value.pointer (some ⟨q, 0, none⟩)) rfl (by kernel_rfl) (by kernel_rfl) (by kernel_rfl) rfl (fun _ _ _ h => h) (wanted_none rfl) (ro_field rfl (ev_eq (by decide)) (fun w => by go_simp)) ?_
        refine wpAny_ready (rs := [19]) (by kernel_rfl) (by simp) ?_
        refine br_store 19 rfl rfl (wanted_none rfl) rfl (ev_eq (by decide)) (ev_ne (by decide) (ev_ne (by decide) (ev_eq (by decide)))) (store60 HI.out.1) ?_ ?_
        · skip
          have HN2 := Aside0.mk (And.intro (HI.out.set_ (t := s.extract 0 a ++ zs ++ s.extract a s.size)) (HN.out.2.trans (KBuf.Mod.setCell _ q 0 (.string (s.extract 0 a ++ zs ++ s.extract a s.size)) rfl))); clear HI HN; have HN := HN2; clear HN2
          refine reg_done (by kernel_rfl) ?_
          have hA := HAA.out
          subst hA
          simp only [Act.put, List.setIfInBounds_toArray, List.set_cons_zero, List.set_cons_succ]
          clear HAA HFr s0 s1 s2
          go_wp2_with fail
          go_ret
          exact ⟨rfl, HN.out⟩
        exact AllReady.nil
      exact AllReady.nil
    exact AllReady.nil
  refine br_call 8 (some 36) 49 #[Value.int .i64 (n : Int)] rfl rfl (wanted_none rfl) rfl (map1 (ev_ne (by decide) (ev_ne (by decide) (ev_ne (by decide) (ev_ne (by decide) (ev_eq (by decide))))))) (fun args w => by kernel_rfl) (turnoutref05_zeros.calls n zs _ HZ.out) ?_ ?_
  · rintro e v1 ⟨rfl, hb⟩
    have HI2 := Aside0.mk (HI.out.below hb); clear HI; have HI := HI2; clear HI2
    have HN2 := Aside0.mk (And.intro HI.out (HN.out.2.trans (mod_below hb))); clear HN hb; have HN := HN2; clear HN2
    refine ⟨_, rfl, ?_⟩
    refine wpAny_ready (rs := [4, 13]) (by kernel_rfl) (by simp) ?_
    refine br_load 4 (some 32) (v := Value.string s) rfl rfl (wanted_none rfl) (ro_load rfl (ev_ne (by decide) (ev_ne (by decide) (ev_ne (by decide) (ev_ne (by decide) (ev_ne (by decide) (ev_ne (by decide) (ev_ne (by decide) (ev_eq (by decide))))))))) (load60 HI.out.1)) ?_ ?_
    · skip
      refine reg_pure 6 (some 34) (v := Value.string (s.extract 0 a)) rfl (by kernel_rfl) (by kernel_rfl) (by kernel_rfl) rfl (fun _ _ _ h => h) (wanted_none rfl) (ro_slice rfl (ev_eq (by decide)) rfl (congrArg some (ev_ne (by decide) (ev_ne (by decide) (ev_ne (by decide) (ev_ne (by decide) (ev_ne (by decide) (ev_ne (by decide) (ev_ne (by decide) (ev_eq (by decide)))))))))) (fun w => by go_simp)) ?_
      refine reg_pure 9 (some 37) (v := Value.string (s.extract 0 a ++ zs)) rfl (by kernel_rfl) (by kernel_rfl) (by kernel_rfl) rfl (fun _ _ _ h => h) (wanted_none rfl) (ro_bin rfl (ev_eq (by decide)) (ev_ne (by decide) (ev_ne (by decide) (ev_eq (by decide)))) (fun w => by go_simp)) ?_
      refine wpAny_ready (rs := [13]) (by kernel_rfl) (by simp) ?_
      refine br_load 13 (some 41) (v := Value.string s) rfl rfl (wanted_none rfl) (ro_load rfl (ev_ne (by decide) (ev_ne (by decide) (ev_ne (by decide) (ev_ne (by decide) (ev_ne (by decide) (ev_eq (by decide))))))) (load60 HI.out.1)) ?_ ?_
      · skip
        refine reg_pure 15 (some 43) (v := Value.string (s.extract a s.size)) rfl (by kernel_rfl) (by kernel_rfl) (by kernel_rfl) rfl (fun _ _ _ h => h) (wanted_none rfl) (ro_slice rfl (ev_eq (by decide)) (congrArg some (ev_ne (by decide) (ev_ne (by decide) (ev_ne (by decide) (ev_ne (by decide) (ev_ne (by decide) (ev_eq (by decide)))))))) rfl (fun w => by go_simp)) ?_
        refine reg_pure 16 (some 44) (v := Value.string (s.extract 0 a ++ zs ++ s.extract a s.size)) rfl (by kernel_rfl) (by kernel_rfl) (by kernel_rfl) rfl (fun _ _ _ h => h) (wanted_none rfl) (ro_bin rfl (ev_ne (by decide) (ev_ne (by decide) (ev_eq (by decide)))) (ev_eq (by decide)) (fun w => by go_simp)) ?_
        refine reg_pure 17 (some 45) (v := Value.pointer (some ⟨q, 0, none⟩)) rfl (by kernel_rfl) (by kernel_rfl) (by kernel_rfl) rfl (fun _ _ _ h => h) (wanted_none rfl) (ro_nil rfl (ev_ne (by decide) (ev_ne (by decide) (ev_ne (by decide) (ev_ne (by decide) (ev_ne (by decide) (ev_ne (by decide) (ev_ne (by decide) (ev_ne (by decide) (ev_ne (by decide) (ev_ne (by decide) (ev_ne (by decide) (ev_ne (by decide) (ev_ne (by decide) (ev_ne (by decide) (ev_ne (by decide) (ev_ne (by decide) (ev_eq (by decide))))))))))))))))))) ?_
        refine reg_pure 18 (some 46) (v := Value.pointer (some ⟨q, 0, none⟩)) rfl (by kernel_rfl) (by kernel_rfl) (by kernel_rfl) rfl (fun _ _ _ h => h) (wanted_none rfl) (ro_field rfl (ev_eq (by decide)) (fun w => by go_simp)) ?_
        refine wpAny_ready (rs := [19]) (by kernel_rfl) (by simp) ?_
        refine br_store 19 rfl rfl (wanted_none rfl) rfl (ev_eq (by decide)) (ev_ne (by decide) (ev_ne (by decide) (ev_eq (by decide)))) (store60 HI.out.1) ?_ ?_
        · skip
          have HN2 := Aside0.mk (And.intro (HI.out.set_ (t := s.extract 0 a ++ zs ++ s.extract a s.size)) (HN.out.2.trans (KBuf.Mod.setCell _ q 0 (.string (s.extract 0 a ++ zs ++ s.extract a s.size)) rfl))); clear HI HN; have HN := HN2; clear HN2
          refine reg_done (by kernel_rfl) ?_
          have hA := HAA.out
          subst hA
          simp only [Act.put, List.setIfInBounds_toArray, List.set_cons_zero, List.set_cons_succ]
          clear HAA HFr s0 s1 s2
          go_wp2_with fail
          go_ret
          exact ⟨rfl, HN.out⟩
        exact AllReady.nil
      exact AllReady.nil
    refine br_load 13 (some 41) (v := Value.string s) rfl rfl (wanted_none rfl) (ro_load rfl (ev_ne (by decide) (ev_ne (by decide) (ev_eq (by decide)))) (load60 HI.out.1)) ?_ ?_
    · skip
      refine reg_pure 15 (some 43) (v := Value.string (s.extract a s.size)) rfl (by kernel_rfl) (by kernel_rfl) (by kernel_rfl) rfl (fun _ _ _ h => h) (wanted_none rfl) (ro_slice rfl (ev_eq (by decide)) (congrArg some (ev_ne (by decide) (ev_ne (by decide) (ev_eq (by decide))))) rfl (fun w => by go_simp)) ?_
      refine wpAny_ready (rs := [4]) (by kernel_rfl) (by simp) ?_
      refine br_load 4 (some 32) (v := Value.string s) rfl rfl (wanted_none rfl) (ro_load rfl (ev_ne (by decide) (ev_ne (by decide) (ev_ne (by decide) (ev_ne (by decide) (ev_ne (by decide) (ev_ne (by decide) (ev_ne (by decide) (ev_ne (by decide) (ev_ne (by decide) (ev_eq (by decide))))))))))) (load60 HI.out.1)) ?_ ?_
      · skip
        refine reg_pure 6 (some 34) (v := Value.string (s.extract 0 a)) rfl (by kernel_rfl) (by kernel_rfl) (by kernel_rfl) rfl (fun _ _ _ h => h) (wanted_none rfl) (ro_slice rfl (ev_eq (by decide)) rfl (congrArg some (ev_ne (by decide) (ev_ne (by decide) (ev_ne (by decide) (ev_ne (by decide) (ev_ne (by decide) (ev_ne (by decide) (ev_ne (by decide) (ev_ne (by decide) (ev_ne (by decide) (ev_eq (by decide)))))))))))) (fun w => by go_simp)) ?_
        refine reg_pure 9 (some 37) (v := Value.string (s.extract 0 a ++ zs)) rfl (by kernel_rfl) (by kernel_rfl) (by kernel_rfl) rfl (fun _ _ _ h => h) (wanted_none rfl) (ro_bin rfl (ev_eq (by decide)) (ev_ne (by decide) (ev_ne (by decide) (ev_ne (by decide) (ev_ne (by decide) (ev_eq (by decide)))))) (fun w => by go_simp)) ?_
        refine reg_pure 16 (some 44) (v := Value.string (s.extract 0 a ++ zs ++ s.extract a s.size)) rfl (by kernel_rfl) (by kernel_rfl) (by kernel_rfl) rfl (fun _ _ _ h => h) (wanted_none rfl) (ro_bin rfl (ev_eq (by decide)) (ev_ne (by decide) (ev_ne (by decide) (ev_ne (by decide) (ev_eq (by decide))))) (fun w => by go_simp)) ?_
        refine reg_pure 17 (some 45) (v := Value.pointer (some ⟨q, 0, none⟩)) rfl (by kernel_rfl) (by kernel_rfl) (by kernel_rfl) rfl (fun _ _ _ h => h) (wanted_none rfl) (ro_nil rfl (ev_ne (by decide) (ev_ne (by decide) (ev_ne (by decide) (ev_ne (by decide) (ev_ne (by decide) (ev_ne (by decide) (ev_ne (by decide) (ev_ne (by decide) (ev_ne (by decide) (ev_ne (by decide) (ev_ne (by decide) (ev_ne (by decide) (ev_ne (by decide) (ev_ne (by decide) (ev_ne (by decide) (ev_ne (by decide) (ev_eq (by decide))))))))))))))))))) ?_
        refine reg_pure 18 (some 46) (v := Value.pointer (some ⟨q, 0, none⟩)) rfl (by kernel_rfl) (by kernel_rfl) (by kernel_rfl) rfl (fun _ _ _ h => h) (wanted_none rfl) (ro_field rfl (ev_eq (by decide)) (fun w => by go_simp)) ?_
        refine wpAny_ready (rs := [19]) (by kernel_rfl) (by simp) ?_
        refine br_store 19 rfl rfl (wanted_none rfl) rfl (ev_eq (by decide)) (ev_ne (by decide) (ev_ne (by decide) (ev_eq (by decide)))) (store60 HI.out.1) ?_ ?_
        · skip
          have HN2 := Aside0.mk (And.intro (HI.out.set_ (t := s.extract 0 a ++ zs ++ s.extract a s.size)) (HN.out.2.trans (KBuf.Mod.setCell _ q 0 (.string (s.extract 0 a ++ zs ++ s.extract a s.size)) rfl))); clear HI HN; have HN := HN2; clear HN2
          refine reg_done (by kernel_rfl) ?_
          have hA := HAA.out
          subst hA
          simp only [Act.put, List.setIfInBounds_toArray, List.set_cons_zero, List.set_cons_succ]
          clear HAA HFr s0 s1 s2
          go_wp2_with fail
          go_ret
          exact ⟨rfl, HN.out⟩
        exact AllReady.nil
      exact AllReady.nil
    exact AllReady.nil
  refine br_load 13 (some 41) (v := Value.string s) rfl rfl (wanted_none rfl) (ro_load rfl (ev_ne (by decide) (ev_eq (by decide))) (load60 HI.out.1)) ?_ ?_
  · skip
    refine reg_pure 15 (some 43) (v := Value.string (s.extract a s.size)) rfl (by kernel_rfl) (by kernel_rfl) (by kernel_rfl) rfl (fun _ _ _ h => h) (wanted_none rfl) (ro_slice rfl (ev_eq (by decide)) (congrArg some (ev_ne (by decide) (ev_eq (by decide)))) rfl (fun w => by go_simp)) ?_
    refine wpAny_ready (rs := [4, 8]) (by kernel_rfl) (by simp) ?_
    refine br_load 4 (some 32) (v := Value.string s) rfl rfl (wanted_none rfl) (ro_load rfl (ev_ne (by decide) (ev_ne (by decide) (ev_ne (by decide) (ev_ne (by decide) (ev_ne (by decide) (ev_ne (by decide) (ev_ne (by decide) (ev_ne (by decide) (ev_eq (by decide)))))))))) (load60 HI.out.1)) ?_ ?_
    · skip
      refine reg_pure 6 (some 34) (v := Value.string (s.extract 0 a)) rfl (by kernel_rfl) (by kernel_rfl) (by kernel_rfl) rfl (fun _ _ _ h => h) (wanted_none rfl) (ro_slice rfl (ev_eq (by decide)) rfl (congrArg some (ev_ne (by decide) (ev_ne (by decide) (ev_ne (by decide) (ev_ne (by decide) (ev_ne (by decide) (ev_ne (by decide) (ev_ne (by decide) (ev_ne (by decide) (ev_eq (by decide))))))))))) (fun w => by go_simp)) ?_
      refine wpAny_ready (rs := [8]) (by kernel_rfl) (by simp) ?_
      refine br_call 8 (some 36) 49 #[Value.int .i64 (n : Int)] rfl rfl (wanted_none rfl) rfl (map1 (ev_ne (by decide) (ev_ne (by decide) (ev_ne (by decide) (ev_ne (by decide) (ev_ne (by decide) (ev_ne (by decide) (ev_ne (by decide) (ev_ne (by decide) (ev_eq (by decide))))))))))) (fun args w => by kernel_rfl) (turnoutref05_zeros.calls n zs _ HZ.out) ?_ ?_
      · rintro e v1 ⟨rfl, hb⟩
        have HI2 := Aside0.mk (HI.out.below hb); clear HI; have HI := HI2; clear HI2
        have HN2 := Aside0.mk (And.intro HI.out (HN.out.2.trans (mod_below hb))); clear HN hb; have HN := HN2; clear HN2
        refine ⟨_, rfl, ?_⟩
        refine reg_pure 9 (some 37) (v := Value.string (s.extract 0 a ++ zs)) rfl (by kernel_rfl) (by kernel_rfl) (by kernel_rfl) rfl (fun _ _ _ h => h) (wanted_none rfl) (ro_bin rfl (ev_ne (by decide) (ev_eq (by decide))) (ev_eq (by decide)) (fun w => by go_simp)) ?_
        refine reg_pure 16 (some 44) (v := Value.string (s.extract 0 a ++ zs ++ s.extract a s.size)) rfl (by kernel_rfl) (by kernel_rfl) (by kernel_rfl) rfl (fun _ _ _ h => h) (wanted_none rfl) (ro_bin rfl (ev_eq (by decide)) (ev_ne (by decide) (ev_ne (by decide) (ev_ne (by decide) (ev_ne (by decide) (ev_eq (by decide)))))) (fun w => by go_simp)) ?_
        refine reg_pure 17 (some 45) (v := Value.pointer (some ⟨q, 0, none⟩)) rfl (by kernel_rfl) (by kernel_rfl) (by kernel_rfl) rfl (fun _ _ _ h => h) (wanted_none rfl) (ro_nil rfl (ev_ne (by decide) (ev_ne (by decide) (ev_ne (by decide) (ev_ne (by decide) (ev_ne (by decide) (ev_ne (by decide) (ev_ne (by decide) (ev_ne (by decide) (ev_ne (by decide) (ev_ne (by decide) (ev_ne (by decide) (ev_ne (by decide) (ev_ne (by decide) (ev_ne (by decide) (ev_ne (by decide) (ev_ne (by decide) (ev_eq (by decide))))))))))))))))))) ?_
        refine reg_pure 18 (some 46) (v := Value.pointer (some ⟨q, 0, none⟩)) rfl (by kernel_rfl) (by kernel_rfl) (by kernel_rfl) rfl (fun _ _ _ h => h) (wanted_none rfl) (ro_field rfl (ev_eq (by decide)) (fun w => by go_simp)) ?_
        refine wpAny_ready (rs := [19]) (by kernel_rfl) (by simp) ?_
        refine br_store 19 rfl rfl (wanted_none rfl) rfl (ev_eq (by decide)) (ev_ne (by decide) (ev_ne (by decide) (ev_eq (by decide)))) (store60 HI.out.1) ?_ ?_
        · skip
          have HN2 := Aside0.mk (And.intro (HI.out.set_ (t := s.extract 0 a ++ zs ++ s.extract a s.size)) (HN.out.2.trans (KBuf.Mod.setCell _ q 0 (.string (s.extract 0 a ++ zs ++ s.extract a s.size)) rfl))); clear HI HN; have HN := HN2; clear HN2
          refine reg_done (by kernel_rfl) ?_
          have hA := HAA.out
          subst hA
          simp only [Act.put, List.setIfInBounds_toArray, List.set_cons_zero, List.set_cons_succ]
          clear HAA HFr s0 s1 s2
          go_wp2_with fail
          go_ret
          exact ⟨rfl, HN.out⟩
        exact AllReady.nil
      exact AllReady.nil
    refine br_call 8 (some 36) 49 #[Value.int .i64 (n : Int)] rfl rfl (wanted_none rfl) rfl (map1 (ev_ne (by decide) (ev_ne (by decide) (ev_ne (by decide) (ev_ne (by decide) (ev_ne (by decide) (ev_ne (by decide) (ev_eq (by decide))))))))) (fun args w => by kernel_rfl) (turnoutref05_zeros.calls n zs _ HZ.out) ?_ ?_
    · rintro e v1 ⟨rfl, hb⟩
      have HI2 := Aside0.mk (HI.out.below hb); clear HI; have HI := HI2; clear HI2
      have HN2 := Aside0.mk (And.intro HI.out (HN.out.2.trans (mod_below hb))); clear HN hb; have HN := HN2; clear HN2
      refine ⟨_, rfl, ?_⟩
      refine wpAny_ready (rs := [4]) (by kernel_rfl) (by simp) ?_
      refine br_load 4 (some 32) (v := Value.string s) rfl rfl (wanted_none rfl) (ro_load rfl (ev_ne (by decide) (ev_ne (by decide) (ev_ne (by decide) (ev_ne (by decide) (ev_ne (by decide) (ev_ne (by decide) (ev_ne (by decide) (ev_ne (by decide) (ev_ne (by decide) (ev_eq (by decide))))))))))) (load60 HI.out.1)) ?_ ?_
      · skip
        refine reg_pure 6 (some 34) (v := Value.string (s.extract 0 a)) rfl (by kernel_rfl) (by kernel_rfl) (by kernel_rfl) rfl (fun _ _ _ h => h) (wanted_none rfl) (ro_slice rfl (ev_eq (by decide)) rfl (congrArg some (ev_ne (by decide) (ev_ne (by decide) (ev_ne (by decide) (ev_ne (by decide) (ev_ne (by decide) (ev_ne (by decide) (ev_ne (by decide) (ev_ne (by decide) (ev_ne (by decide) (ev_eq (by decide)))))))))))) (fun w => by go_simp)) ?_
        refine reg_pure 9 (some 37) (v := Value.string (s.extract 0 a ++ zs)) rfl (by kernel_rfl) (by kernel_rfl) (by kernel_rfl) rfl (fun _ _ _ h => h) (wanted_none rfl) (ro_bin rfl (ev_eq (by decide)) (ev_ne (by decide) (ev_ne (by decide) (ev_eq (by decide)))) (fun w => by go_simp)) ?_
        refine reg_pure 16 (some 44) (v := Value.string (s.extract 0 a ++ zs ++ s.extract a s.size)) rfl (by kernel_rfl) (by kernel_rfl) (by kernel_rfl) rfl (fun _ _ _ h => h) (wanted_none rfl) (ro_bin rfl (ev_eq (by decide)) (ev_ne (by decide) (ev_ne (by decide) (ev_ne (by decide) (ev_ne (by decide) (ev_eq (by decide)))))) (fun w => by go_simp)) ?_
        refine reg_pure 17 (some 45) (v := Value.pointer (some ⟨q, 0, none⟩)) rfl (by kernel_rfl) (by kernel_rfl) (by kernel_rfl) rfl (fun _ _ _ h => h) (wanted_none rfl) (ro_nil rfl (ev_ne (by decide) (ev_ne (by decide) (ev_ne (by decide) (ev_ne (by decide) (ev_ne (by decide) (ev_ne (by decide) (ev_ne (by decide) (ev_ne (by decide) (ev_ne (by decide) (ev_ne (by decide) (ev_ne (by decide) (ev_ne (by decide) (ev_ne (by decide) (ev_ne (by decide) (ev_ne (by decide) (ev_ne (by decide) (ev_eq (by decide))))))))))))))))))) ?_
        refine reg_pure 18 (some 46) (v := Value.pointer (some ⟨q, 0, none⟩)) rfl (by kernel_rfl) (by kernel_rfl) (by kernel_rfl) rfl (fun _ _ _ h => h) (wanted_none rfl) (ro_field rfl (ev_eq (by decide)) (fun w => by go_simp)) ?_
        refine wpAny_ready (rs := [19]) (by kernel_rfl) (by simp) ?_
        refine br_store 19 rfl rfl (wanted_none rfl) rfl (ev_eq (by decide)) (ev_ne (by decide) (ev_ne (by decide) (ev_eq (by decide)))) (store60 HI.out.1) ?_ ?_
        · skip
          have HN2 := Aside0.mk (And.intro (HI.out.set_ (t := s.extract 0 a ++ zs ++ s.extract a s.size)) (HN.out.2.trans (KBuf.Mod.setCell _ q 0 (.string (s.extract 0 a ++ zs ++ s.extract a s.size)) rfl))); clear HI HN; have HN := HN2; clear HN2
          refine reg_done (by kernel_rfl) ?_
          have hA := HAA.out
          subst hA
          simp only [Act.put, List.setIfInBounds_toArray, List.set_cons_zero, List.set_cons_succ]
          clear HAA HFr s0 s1 s2
          go_wp2_with fail
          go_ret
          exact ⟨rfl, HN.out⟩
        exact AllReady.nil
      exact AllReady.nil
    exact AllReady.nil
  exact AllReady.nil
theorem drawn_below {u v : World} (h : Drawn0 u v) : Below u.heap.size u v := by
  obtain ⟨m, hm⟩ := h; rw [hm]; exact pw_below_drewN (Below.refl _ _) m
set_option maxHeartbeats 4000000 in
set_option maxRecDepth 100000 in
theorem r_put_bad (hI : IsS60 w0 u q s) (hB : Below w0.heap.size w0 u) (hs : s.size ≤ 9216) (a n hi lo : Int) (x : Int) (hx : MField.may s a n = x) (hne : x ≠ 0) :
    Calls Try.prog 35 #[.pointer (some ⟨q, 0, none⟩), .int .i64 a, .int .i64 n, .agg #[.int .u64 hi, .int .u64 lo]] u (RDoes w0 u q s (.int .i64 x)) := by
  have HI := Aside0.mk (hI.alloc (.cells #[.int .u64 hi, .int .u64 lo] 32))
  have HN := Aside0.mk (And.intro (hI.alloc (.cells #[.int .u64 hi, .int .u64 lo] 32)) (mod_below (q := q) (below_alloc (Below.refl u.heap.size u) (.cells #[.int .u64 hi, .int .u64 lo] 32))))
  have c0 := (blk_cell HI.out.1 0).trans (show _ = some (Value.string s) from rfl)
  obtain ⟨K, hK⟩ := MField.rmay_ev s a n (by omega)
  have hk := hK K (Nat.le_refl K)
  rw [hx] at hk
  have HK := Aside0.mk hk
  have hb : (x == 0) = false := beq_false_of_ne hne
  clear hI hB hK hk hne
  go_enter Try.func35, Try.ntmps35
  go_wp2_with fail
  go_at_call 47
  (with_reducible refine (turnoutref02_May.calls K s a n x _ HK.out).mono ?_)
  rintro e u1 ⟨rfl, hd⟩
  have HN2 := Aside0.mk (And.intro (HI.out.below (drawn_below hd)) (HN.out.2.trans (mod_below (drawn_below hd)))); clear HN hd c0; have HN := HN2; clear HN2
  go_wp2_with fail
  go_ret
  exact ⟨rfl, HN.out⟩
theorem load32 {w : World} {b : Nat} {h l : Int} (hb : w.heap[b]? = some (.cells #[.int .u64 h, .int .u64 l] 32 (0, 0))) : (Instr.loadAt 32 (.pointer (some ⟨b, 0, none⟩)) : Sem Value).run Try.prog w = .ok (.agg #[.int .u64 h, .int .u64 l]) w := by
  have c0 := (blk_cell hb 0).trans (show _ = some (Value.int .u64 h) from rfl)
  have c1 := (blk_cell hb 1).trans (show _ = some (Value.int .u64 l) from rfl)
  have hu := Try.underlying32
  go_simp
set_option maxHeartbeats 4000000 in
set_option maxRecDepth 100000 in
theorem r_put_ok (hI : IsS60 w0 u q s) (hB : Below w0.heap.size w0 u) (hs : s.size ≤ 9216) (o n F T : Nat) (hi lo : Int) (hn : 1 ≤ n) (hn' : n ≤ 128) (ho : o + n ≤ 8 * s.size) (hF : F = o / 8) (hT : T = (o + n + 7) / 8) (P : ByteArray) (hp : P.size = T - F) (K : Nat) (HP : Aside0 (turnoutref02_Put.f K (s.extract F T) ((o : Int) - 8 * (F : Int)) n hi lo = some (P, 0))) :
    Calls Try.prog 35 #[.pointer (some ⟨q, 0, none⟩), .int .i64 o, .int .i64 n, .agg #[.int .u64 hi, .int .u64 lo]] u (RDoes w0 u q (s.extract 0 F ++ P ++ s.extract T s.size) (.int .i64 0)) := by
  have hm : MField.may s o n = 0 := by unfold MField.may; rw [if_neg (by omega), if_neg (by omega)]
  have HI := Aside0.mk (hI.alloc (.cells #[.int .u64 hi, .int .u64 lo] 32))
  have HN := Aside0.mk (And.intro (hI.alloc (.cells #[.int .u64 hi, .int .u64 lo] 32)) (mod_below (q := q) (below_alloc (Below.refl u.heap.size u) (.cells #[.int .u64 hi, .int .u64 lo] 32))))
  have HW := Aside0.mk (blk_new u (.cells #[.int .u64 hi, .int .u64 lo] 32))
  have c0 := (blk_cell HI.out.1 0).trans (show _ = some (Value.string s) from rfl)
  obtain ⟨K2, hK⟩ := MField.rmay_ev s o n (by omega)
  have hk := hK K2 (Nat.le_refl K2)
  rw [hm] at hk
  have HK := Aside0.mk hk
  have p0 : (o : Int) / 8 = (F : Int) := by omega
  have p1 : ((o : Int) + (n : Int) + 7) / 8 = (T : Int) := by omega
  have g1 : (F : Int) ≤ (T : Int) := by omega
  have g2 : (T : Int) ≤ (s.size : Int) := by omega
  have g3 : F ≤ s.size := by omega
  have g4 : T ≤ s.size := by omega
  have g5 : F + P.size ≤ 9223372036854775807 := by omega
  have g6 : F + P.size + (s.size - T) ≤ 9223372036854775807 := by omega
  have g7 : F ≤ T := by omega
  have o1 : (o : Int) ≤ 80000 := by omega
  have o2 : (n : Int) ≤ 128 := by omega
  have o3 : (F : Int) ≤ 80000 := by omega
  have c1 : wrap64 (8 * (F : Int)) = 8 * (F : Int) := MSum.w64 (by omega) (by omega)
  have c2 : IntKind.i64.wrap (8 * (F : Int)) = 8 * (F : Int) := by rw [i64_w]; exact c1
  have c3 : wrap64 ((o : Int) - 8 * (F : Int)) = (o : Int) - 8 * (F : Int) := MSum.w64 (by omega) (by omega)
  have c4 : IntKind.i64.wrap ((o : Int) - 8 * (F : Int)) = (o : Int) - 8 * (F : Int) := by rw [i64_w]; exact c3
  have HF := Aside0.mk (And.intro hF hT)
  clear hI hB hK hk hm hF hT hn hn' ho hs hp
  go_enter Try.func35, Try.ntmps35
  go_wp2_with fail
  go_at_call 47
  (with_reducible refine (turnoutref02_May.calls K2 s o n 0 _ HK.out).mono ?_)
  rintro e u1 ⟨rfl, hd⟩
  have HI2 := Aside0.mk (HI.out.below (drawn_below hd)).drew; clear HI; have HI := HI2; clear HI2
  have HW2 := Aside0.mk (blk_drew (blk_below HW.out (drawn_below hd))); clear HW; have HW := HW2; clear HW2
  have HN2 := Aside0.mk (And.intro HI.out (mod_drew (HN.out.2.trans (mod_below (drawn_below hd))))); clear HN hd c0; have HN := HN2; clear HN2
  go_wp2_with fail
  refine wp_region_any (by kernel_rfl) ?_
  change wpAny _ _ _ _ _ _ _ (World.drew _)
  refine any_var (fun A hA => ?_)
  have s0 : A.eval (.tmp 0) = Value.pointer (some ⟨q, 0, none⟩) := by rw [hA]; rfl
  have s1 : A.eval (.tmp 1) = Value.int .i64 (o : Int) := by rw [hA]; rfl
  have s2 : A.eval (.tmp 2) = Value.int .i64 (n : Int) := by rw [hA]; rfl
  have s7 : A.eval (.tmp 7) = Value.pointer (some ⟨u.heap.size, 0, none⟩) := by rw [hA]; rfl
  have s10 : A.eval (.tmp 10) = Value.int .i64 (F : Int) := by rw [hA]; rfl
  have s11 : A.eval (.tmp 11) = Value.int .i64 (T : Int) := by rw [hA]; first | rfl | exact congrArg (Value.int .i64) p1
  haveI HFr : Fr 66 A := ⟨by rw [hA]; exact Nat.le_refl _⟩
  have HAA := Aside0.mk hA
  clear hA
  refine reg_pure 0 (some 32) (v := Value.pointer (some ⟨q, 0, none⟩)) rfl (by kernel_rfl) (by kernel_rfl) (by kernel_rfl) rfl (fun _ _ _ h => h) (wanted_none rfl) (ro_move (.inl rfl) s0) ?_
  refine reg_pure 1 (some 33) (v := Value.pointer (some ⟨q, 0, none⟩)) rfl (by kernel_rfl) (by kernel_rfl) (by kernel_rfl) rfl (fun _ _ _ h => h) (wanted_none rfl) (ro_nil rfl (ev_eq (by decide))) ?_
  refine reg_pure 2 (some 34) (v := Value.pointer (some ⟨q, 0, none⟩)) rfl (by kernel_rfl) (by kernel_rfl) (by kernel_rfl) rfl (fun _ _ _ h => h) (wanted_none rfl) (ro_field rfl (ev_eq (by decide)) (fun w => by go_simp)) ?_
  refine reg_pure 4 (some 36) (v := Value.int .i64 (F : Int)) rfl (by kernel_rfl) (by kernel_rfl) (by kernel_rfl) rfl (fun _ _ _ h => h) (wanted_none rfl) (ro_move (.inl rfl) (ev_ne (by decide) (ev_ne (by decide) (ev_ne (by decide) s10)))) ?_
  refine reg_pure 5 (some 37) (v := Value.int .i64 (T : Int)) rfl (by kernel_rfl) (by kernel_rfl) (by kernel_rfl) rfl (fun _ _ _ h => h) (wanted_none rfl) (ro_move (.inl rfl) (ev_ne (by decide) (ev_ne (by decide) (ev_ne (by decide) (ev_ne (by decide) s11))))) ?_
  refine reg_pure 7 (some 39) (v := Value.int .i64 (o : Int)) rfl (by kernel_rfl) (by kernel_rfl) (by kernel_rfl) rfl (fun _ _ _ h => h) (wanted_none rfl) (ro_move (.inl rfl) (ev_ne (by decide) (ev_ne (by decide) (ev_ne (by decide) (ev_ne (by decide) (ev_ne (by decide) s1)))))) ?_
  refine reg_pure 8 (some 40) (v := Value.int .i64 (F : Int)) rfl (by kernel_rfl) (by kernel_rfl) (by kernel_rfl) rfl (fun _ _ _ h => h) (wanted_none rfl) (ro_move (.inl rfl) (ev_ne (by decide) (ev_ne (by decide) (ev_ne (by decide) (ev_ne (by decide) (ev_ne (by decide) (ev_ne (by decide) s10))))))) ?_
  refine reg_pure 9 (some 41) (v := Value.int .i64 (8 * (F : Int))) rfl (by kernel_rfl) (by kernel_rfl) (by kernel_rfl) rfl (fun _ _ _ h => h) (wanted_none rfl) (ro_bin rfl rfl (ev_eq (by decide)) (fun w => by go_simp)) ?_
  refine reg_pure 10 (some 42) (v := Value.int .i64 ((o : Int) - 8 * (F : Int))) rfl (by kernel_rfl) (by kernel_rfl) (by kernel_rfl) rfl (fun _ _ _ h => h) (wanted_none rfl) (ro_bin rfl (ev_ne (by decide) (ev_ne (by decide) (ev_eq (by decide)))) (ev_eq (by decide)) (fun w => by go_simp)) ?_
  refine reg_pure 11 (some 43) (v := Value.int .i64 (n : Int)) rfl (by kernel_rfl) (by kernel_rfl) (by kernel_rfl) rfl (fun _ _ _ h => h) (wanted_none rfl) (ro_move (.inl rfl) (ev_ne (by decide) (ev_ne (by decide) (ev_ne (by decide) (ev_ne (by decide) (ev_ne (by decide) (ev_ne (by decide) (ev_ne (by decide) (ev_ne (by decide) (ev_ne (by decide) s2)))))))))) ?_
  refine wpAny_ready (rs := [3, 12]) (by kernel_rfl) (by simp) ?_
  refine br_load 3 (some 35) (v := Value.string s) rfl rfl (wanted_none rfl) (ro_load rfl (ev_ne (by decide) (ev_ne (by decide) (ev_ne (by decide) (ev_ne (by decide) (ev_ne (by decide) (ev_ne (by decide) (ev_ne (by decide) (ev_eq (by decide))))))))) (load60 HI.out.1)) ?_ ?_
  · skip
    refine reg_pure 6 (some 38) (v := Value.string (s.extract F T)) rfl (by kernel_rfl) (by kernel_rfl) (by kernel_rfl) rfl (fun _ _ _ h => h) (wanted_none rfl) (ro_slice rfl (ev_eq (by decide)) (congrArg some (ev_ne (by decide) (ev_ne (by decide) (ev_ne (by decide) (ev_ne (by decide) (ev_ne (by decide) (ev_ne (by decide) (ev_ne (by decide) (ev_eq (by decide)))))))))) (congrArg some (ev_ne (by decide) (ev_ne (by decide) (ev_ne (by decide) (ev_ne (by decide) (ev_ne (by decide) (ev_ne (by decide) (ev_eq (by decide))))))))) (fun w => by go_simp)) ?_
    refine wpAny_ready (rs := [12]) (by kernel_rfl) (by simp) ?_
    refine br_load 12 (some 44) (v := Value.agg #[Value.int .u64 hi, Value.int .u64 lo]) rfl rfl (wanted_none rfl) (ro_load rfl (ev_ne (by decide) (ev_ne (by decide) (ev_ne (by decide) (ev_ne (by decide) (ev_ne (by decide) (ev_ne (by decide) (ev_ne (by decide) (ev_ne (by decide) (ev_ne (by decide) (ev_ne (by decide) (ev_ne (by decide) (ev_ne (by decide) s7)))))))))))) (load32 HW.out)) ?_ ?_
    · skip
      refine wpAny_ready (rs := [13]) (by kernel_rfl) (by simp) ?_
      refine br_call 13 (some 45) 48 #[Value.string (s.extract F T), Value.int .i64 ((o : Int) - 8 * (F : Int)), Value.int .i64 (n : Int), Value.agg #[Value.int .u64 hi, Value.int .u64 lo]] rfl rfl (wanted_none rfl) rfl (map4 (ev_ne (by decide) (ev_eq (by decide))) (ev_ne (by decide) (ev_ne (by decide) (ev_ne (by decide) (ev_ne (by decide) (ev_eq (by decide)))))) (ev_ne (by decide) (ev_ne (by decide) (ev_ne (by decide) (ev_eq (by decide))))) (ev_eq (by decide))) (fun args w => by kernel_rfl) (turnoutref02_Put.calls K _ _ _ hi lo P 0 _ HP.out) ?_ ?_
      · rintro e v1 ⟨rfl, hb⟩
        have HI2 := Aside0.mk (HI.out.below hb); clear HI; have HI := HI2; clear HI2
        have HN2 := Aside0.mk (And.intro HI.out (HN.out.2.trans (mod_below hb))); clear HN hb; have HN := HN2; clear HN2
        refine ⟨_, rfl, ?_⟩
        refine reg_pure 14 (some 31) (v := Value.tuple #[Value.string P, Value.int .i64 0]) rfl (by kernel_rfl) (by kernel_rfl) (by kernel_rfl) rfl (fun _ _ _ h => h) (wanted_none rfl) (ro_move (.inl rfl) (ev_eq (by decide))) ?_
        refine reg_pure 15 (some 46) (v := Value.string P) rfl (by kernel_rfl) (by kernel_rfl) (by kernel_rfl) rfl (fun _ _ _ h => h) (wanted_none rfl) ((ro_extract rfl (ev_eq (by decide)) (fun w => by go_simp))) ?_
        refine reg_pure 16 (some 47) (v := Value.int .i64 0) rfl (by kernel_rfl) (by kernel_rfl) (by kernel_rfl) rfl (fun _ _ _ h => h) (wanted_none rfl) ((ro_extract rfl (ev_ne (by decide) (ev_eq (by decide))) (fun w => by go_simp))) ?_
        refine reg_pure 17 (some 12) (v := Value.string P) rfl (by kernel_rfl) (by kernel_rfl) (by kernel_rfl) rfl (fun _ _ _ h => h) (wanted_none rfl) (ro_move (.inr rfl) (ev_ne (by decide) (ev_eq (by decide)))) ?_
        refine reg_pure 18 (some 13) (v := Value.int .i64 0) rfl (by kernel_rfl) (by kernel_rfl) (by kernel_rfl) rfl (fun _ _ _ h => h) (wanted_none rfl) (ro_move (.inr rfl) (ev_ne (by decide) (ev_eq (by decide)))) ?_
        refine reg_done (by kernel_rfl) ?_
        have hA := HAA.out
        subst hA
        simp only [Act.put, List.setIfInBounds_toArray, List.set_cons_zero, List.set_cons_succ]
        clear HAA HFr s0 s1 s2 s7 s10 s11
        clear HW
        go_wp2_with fail
        have HI2 := Aside0.mk HI.out.drew; clear HI; have HI := HI2; clear HI2
        have HN2 := Aside0.mk (And.intro HI.out (mod_drew HN.out.2)); clear HN; have HN := HN2; clear HN2
        skip
        refine wp_region_any (by kernel_rfl) ?_
        change wpAny _ _ _ _ _ _ _ (World.drew _)
        refine any_var (fun A hA => ?_)
        have s0 : A.eval (.tmp 0) = Value.pointer (some ⟨q, 0, none⟩) := by rw [hA]; rfl
        have s10 : A.eval (.tmp 10) = Value.int .i64 (F : Int) := by rw [hA]; rfl
        have s11 : A.eval (.tmp 11) = Value.int .i64 (T : Int) := by rw [hA]; first | rfl | exact congrArg (Value.int .i64) p1
        have s12 : A.eval (.tmp 12) = Value.string P := by rw [hA]; rfl
        haveI HFr : Fr 66 A := ⟨by rw [hA]; exact Nat.le_refl _⟩
        have HAA := Aside0.mk hA
        clear hA
        refine reg_pure 0 (some 48) (v := Value.pointer (some ⟨q, 0, none⟩)) rfl (by kernel_rfl) (by kernel_rfl) (by kernel_rfl) rfl (fun _ _ _ h => h) (wanted_none rfl) (ro_move (.inl rfl) s0) ?_
        refine reg_pure 1 (some 49) (v := Value.pointer (some ⟨q, 0, none⟩)) rfl (by kernel_rfl) (by kernel_rfl) (by kernel_rfl) rfl (fun _ _ _ h => h) (wanted_none rfl) (ro_move (.inl rfl) (ev_ne (by decide) s0)) ?_
        refine reg_pure 2 (some 50) (v := Value.pointer (some ⟨q, 0, none⟩)) rfl (by kernel_rfl) (by kernel_rfl) (by kernel_rfl) rfl (fun _ _ _ h => h) (wanted_none rfl) (ro_nil rfl (ev_eq (by decide))) ?_
        refine reg_pure 3 (some 51) (v := Value.pointer (some ⟨q, 0, none⟩)) rfl (by kernel_rfl) (by kernel_rfl) (by kernel_rfl) rfl (fun _ _ _ h => h) (wanted_none rfl) (ro_field rfl (ev_eq (by decide)) (fun w => by go_simp)) ?_
        refine reg_pure 5 (some 53) (v := Value.int .i64 (F : Int)) rfl (by kernel_rfl) (by kernel_rfl) (by kernel_rfl) rfl (fun _ _ _ h => h) (wanted_none rfl) (ro_move (.inl rfl) (ev_ne (by decide) (ev_ne (by decide) (ev_ne (by decide) (ev_ne (by decide) s10))))) ?_
        refine reg_pure 7 (some 55) (v := Value.string P) rfl (by kernel_rfl) (by kernel_rfl) (by kernel_rfl) rfl (fun _ _ _ h => h) (wanted_none rfl) (ro_move (.inl rfl) (ev_ne (by decide) (ev_ne (by decide) (ev_ne (by decide) (ev_ne (by decide) (ev_ne (by decide) s12)))))) ?_
        refine reg_pure 9 (some 57) (v := Value.pointer (some ⟨q, 0, none⟩)) rfl (by kernel_rfl) (by kernel_rfl) (by kernel_rfl) rfl (fun _ _ _ h => h) (wanted_none rfl) (ro_move (.inl rfl) (ev_ne (by decide) (ev_ne (by decide) (ev_ne (by decide) (ev_ne (by decide) (ev_ne (by decide) (ev_ne (by decide) s0))))))) ?_
        refine reg_pure 10 (some 58) (v := Value.pointer (some ⟨q, 0, none⟩)) rfl (by kernel_rfl) (by kernel_rfl) (by kernel_rfl) rfl (fun _ _ _ h => h) (wanted_none rfl) (ro_nil rfl (ev_eq (by decide))) ?_
        refine reg_pure 11 (some 59) (v := Value.pointer (some ⟨q, 0, none⟩)) rfl (by kernel_rfl) (by kernel_rfl) (by kernel_rfl) rfl (fun _ _ _ h => h) (wanted_none rfl) (ro_field rfl (ev_eq (by decide)) (fun w => by go_simp)) ?_
        refine reg_pure 13 (some 61) (v := Value.int .i64 (T : Int)) rfl (by kernel_rfl) (by kernel_rfl) (by kernel_rfl) rfl (fun _ _ _ h => h) (wanted_none rfl) (ro_move (.inl rfl) (ev_ne (by decide) (ev_ne (by decide) (ev_ne (by decide) (ev_ne (by decide) (ev_ne (by decide) (ev_ne (by decide) (ev_ne (by decide) (ev_ne (by decide) (ev_ne (by decide) s11)))))))))) ?_
        refine wpAny_ready (rs := [4, 12]) (by kernel_rfl) (by simp) ?_
        refine br_load 4 (some 52) (v := Value.string s) rfl rfl (wanted_none rfl) (ro_load rfl (ev_ne (by decide) (ev_ne (by decide) (ev_ne (by decide) (ev_ne (by decide) (ev_ne (by decide) (ev_ne (by decide) (ev_eq (by decide)))))))) (load60 HI.out.1)) ?_ ?_
        · skip
          refine reg_pure 6 (some 54) (v := Value.string (s.extract 0 F)) rfl (by kernel_rfl) (by kernel_rfl) (by kernel_rfl) rfl (fun _ _ _ h => h) (wanted_none rfl) (ro_slice rfl (ev_eq (by decide)) rfl (congrArg some (ev_ne (by decide) (ev_ne (by decide) (ev_ne (by decide) (ev_ne (by decide) (ev_ne (by decide) (ev_ne (by decide) (ev_eq (by decide))))))))) (fun w => by go_simp)) ?_
          refine reg_pure 8 (some 56) (v := Value.string (s.extract 0 F ++ P)) rfl (by kernel_rfl) (by kernel_rfl) (by kernel_rfl) rfl (fun _ _ _ h => h) (wanted_none rfl) (ro_bin rfl (ev_eq (by decide)) (ev_ne (by decide) (ev_ne (by decide) (ev_ne (by decide) (ev_ne (by decide) (ev_ne (by decide) (ev_ne (by decide) (ev_eq (by decide)))))))) (fun w => by go_simp)) ?_
          refine wpAny_ready (rs := [12]) (by kernel_rfl) (by simp) ?_
          refine br_load 12 (some 60) (v := Value.string s) rfl rfl (wanted_none rfl) (ro_load rfl (ev_ne (by decide) (ev_ne (by decide) (ev_ne (by decide) (ev_ne (by decide) (ev_eq (by decide)))))) (load60 HI.out.1)) ?_ ?_
          · skip
            refine reg_pure 14 (some 62) (v := Value.string (s.extract T s.size)) rfl (by kernel_rfl) (by kernel_rfl) (by kernel_rfl) rfl (fun _ _ _ h => h) (wanted_none rfl) (ro_slice rfl (ev_eq (by decide)) (congrArg some (ev_ne (by decide) (ev_ne (by decide) (ev_ne (by decide) (ev_ne (by decide) (ev_eq (by decide))))))) rfl (fun w => by go_simp)) ?_
            refine reg_pure 15 (some 63) (v := Value.string (s.extract 0 F ++ P ++ s.extract T s.size)) rfl (by kernel_rfl) (by kernel_rfl) (by kernel_rfl) rfl (fun _ _ _ h => h) (wanted_none rfl) (ro_bin rfl (ev_ne (by decide) (ev_ne (by decide) (ev_eq (by decide)))) (ev_eq (by decide)) (fun w => by go_simp)) ?_
            refine reg_pure 16 (some 64) (v := Value.pointer (some ⟨q, 0, none⟩)) rfl (by kernel_rfl) (by kernel_rfl) (by kernel_rfl) rfl (fun _ _ _ h => h) (wanted_none rfl) (ro_nil rfl (ev_ne (by decide) (ev_ne (by decide) (ev_ne (by decide) (ev_ne (by decide) (ev_ne (by decide) (ev_ne (by decide) (ev_ne (by decide) (ev_ne (by decide) (ev_ne (by decide) (ev_ne (by decide) (ev_ne (by decide) (ev_ne (by decide) (ev_ne (by decide) (ev_ne (by decide) (ev_ne (by decide) (ev_eq (by decide)))))))))))))))))) ?_
            refine reg_pure 17 (some 65) (v := Value.pointer (some ⟨q, 0, none⟩)) rfl (by kernel_rfl) (by kernel_rfl) (by kernel_rfl) rfl (fun _ _ _ h => h) (wanted_none rfl) (ro_field rfl (ev_eq (by decide)) (fun w => by go_simp)) ?_
            refine wpAny_ready (rs := [18]) (by kernel_rfl) (by simp) ?_
            refine br_store 18 rfl rfl (wanted_none rfl) rfl (ev_eq (by decide)) (ev_ne (by decide) (ev_ne (by decide) (ev_eq (by decide)))) (store60 HI.out.1) ?_ ?_
            · skip
              have HN2 := Aside0.mk (And.intro (HI.out.set_ (t := s.extract 0 F ++ P ++ s.extract T s.size)) (HN.out.2.trans (KBuf.Mod.setCell _ q 0 (.string (s.extract 0 F ++ P ++ s.extract T s.size)) rfl))); clear HI HN; have HN := HN2; clear HN2
              refine reg_done (by kernel_rfl) ?_
              have hA := HAA.out
              subst hA
              simp only [Act.put, List.setIfInBounds_toArray, List.set_cons_zero, List.set_cons_succ]
              clear HAA HFr s0 s10 s11 s12
              go_wp2_with fail
              go_ret
              exact ⟨rfl, HN.out⟩
            exact AllReady.nil
          exact AllReady.nil
        refine br_load 12 (some 60) (v := Value.string s) rfl rfl (wanted_none rfl) (ro_load rfl (ev_ne (by decide) (ev_eq (by decide))) (load60 HI.out.1)) ?_ ?_
        · skip
          refine reg_pure 14 (some 62) (v := Value.string (s.extract T s.size)) rfl (by kernel_rfl) (by kernel_rfl) (by kernel_rfl) rfl (fun _ _ _ h => h) (wanted_none rfl) (ro_slice rfl (ev_eq (by decide)) (congrArg some (ev_ne (by decide) (ev_eq (by decide)))) rfl (fun w => by go_simp)) ?_
          refine wpAny_ready (rs := [4]) (by kernel_rfl) (by simp) ?_
          refine br_load 4 (some 52) (v := Value.string s) rfl rfl (wanted_none rfl) (ro_load rfl (ev_ne (by decide) (ev_ne (by decide) (ev_ne (by decide) (ev_ne (by decide) (ev_ne (by decide) (ev_ne (by decide) (ev_ne (by decide) (ev_ne (by decide) (ev_eq (by decide)))))))))) (load60 HI.out.1)) ?_ ?_
          · skip
            refine reg_pure 6 (some 54) (v := Value.string (s.extract 0 F)) rfl (by kernel_rfl) (by kernel_rfl) (by kernel_rfl) rfl (fun _ _ _ h => h) (wanted_none rfl) (ro_slice rfl (ev_eq (by decide)) rfl (congrArg some (ev_ne (by decide) (ev_ne (by decide) (ev_ne (by decide) (ev_ne (by decide) (ev_ne (by decide) (ev_ne (by decide) (ev_ne (by decide) (ev_ne (by decide) (ev_eq (by decide))))))))))) (fun w => by go_simp)) ?_
            refine reg_pure 8 (some 56) (v := Value.string (s.extract 0 F ++ P)) rfl (by kernel_rfl) (by kernel_rfl) (by kernel_rfl) rfl (fun _ _ _ h => h) (wanted_none rfl) (ro_bin rfl (ev_eq (by decide)) (ev_ne (by decide) (ev_ne (by decide) (ev_ne (by decide) (ev_ne (by decide) (ev_ne (by decide) (ev_ne (by decide) (ev_ne (by decide) (ev_ne (by decide) (ev_eq (by decide)))))))))) (fun w => by go_simp)) ?_
            refine reg_pure 15 (some 63) (v := Value.string (s.extract 0 F ++ P ++ s.extract T s.size)) rfl (by kernel_rfl) (by kernel_rfl) (by kernel_rfl) rfl (fun _ _ _ h => h) (wanted_none rfl) (ro_bin rfl (ev_eq (by decide)) (ev_ne (by decide) (ev_ne (by decide) (ev_ne (by decide) (ev_eq (by decide))))) (fun w => by go_simp)) ?_
            refine reg_pure 16 (some 64) (v := Value.pointer (some ⟨q, 0, none⟩)) rfl (by kernel_rfl) (by kernel_rfl) (by kernel_rfl) rfl (fun _ _ _ h => h) (wanted_none rfl) (ro_nil rfl (ev_ne (by decide) (ev_ne (by decide) (ev_ne (by decide) (ev_ne (by decide) (ev_ne (by decide) (ev_ne (by decide) (ev_ne (by decide) (ev_ne (by decide) (ev_ne (by decide) (ev_ne (by decide) (ev_ne (by decide) (ev_ne (by decide) (ev_ne (by decide) (ev_ne (by decide) (ev_ne (by decide) (ev_eq (by decide)))))))))))))))))) ?_
            refine reg_pure 17 (some 65) (v := Value.pointer (some ⟨q, 0, none⟩)) rfl (by kernel_rfl) (by kernel_rfl) (by kernel_rfl) rfl (fun _ _ _ h => h) (wanted_none rfl) (ro_field rfl (ev_eq (by decide)) (fun w => by go_simp)) ?_
            refine wpAny_ready (rs := [18]) (by kernel_rfl) (by simp) ?_
            refine br_store 18 rfl rfl (wanted_none rfl) rfl (ev_eq (by decide)) (ev_ne (by decide) (ev_ne (by decide) (ev_eq (by decide)))) (store60 HI.out.1) ?_ ?_
            · skip
              have HN2 := Aside0.mk (And.intro (HI.out.set_ (t := s.extract 0 F ++ P ++ s.extract T s.size)) (HN.out.2.trans (KBuf.Mod.setCell _ q 0 (.string (s.extract 0 F ++ P ++ s.extract T s.size)) rfl))); clear HI HN; have HN := HN2; clear HN2
              refine reg_done (by kernel_rfl) ?_
              have hA := HAA.out
              subst hA
              simp only [Act.put, List.setIfInBounds_toArray, List.set_cons_zero, List.set_cons_succ]
              clear HAA HFr s0 s10 s11 s12
              go_wp2_with fail
              go_ret
              exact ⟨rfl, HN.out⟩
            exact AllReady.nil
          exact AllReady.nil
        exact AllReady.nil
      exact AllReady.nil
    exact AllReady.nil
  refine br_load 12 (some 44) (v := Value.agg #[Value.int .u64 hi, Value.int .u64 lo]) rfl rfl (wanted_none rfl) (ro_load rfl (ev_ne (by decide) (ev_ne (by decide) (ev_ne (by decide) (ev_ne (by decide) (ev_ne (by decide) (ev_ne (by decide) (ev_ne (by decide) (ev_ne (by decide) (ev_ne (by decide) (ev_ne (by decide) s7)))))))))) (load32 HW.out)) ?_ ?_
  · skip
    refine wpAny_ready (rs := [3]) (by kernel_rfl) (by simp) ?_
    refine br_load 3 (some 35) (v := Value.string s) rfl rfl (wanted_none rfl) (ro_load rfl (ev_ne (by decide) (ev_ne (by decide) (ev_ne (by decide) (ev_ne (by decide) (ev_ne (by decide) (ev_ne (by decide) (ev_ne (by decide) (ev_ne (by decide) (ev_eq (by decide)))))))))) (load60 HI.out.1)) ?_ ?_
    · skip
      refine reg_pure 6 (some 38) (v := Value.string (s.extract F T)) rfl (by kernel_rfl) (by kernel_rfl) (by kernel_rfl) rfl (fun _ _ _ h => h) (wanted_none rfl) (ro_slice rfl (ev_eq (by decide)) (congrArg some (ev_ne (by decide) (ev_ne (by decide) (ev_ne (by decide) (ev_ne (by decide) (ev_ne (by decide) (ev_ne (by decide) (ev_ne (by decide) (ev_ne (by decide) (ev_eq (by decide))))))))))) (congrArg some (ev_ne (by decide) (ev_ne (by decide) (ev_ne (by decide) (ev_ne (by decide) (ev_ne (by decide) (ev_ne (by decide) (ev_ne (by decide) (ev_eq (by decide)))))))))) (fun w => by go_simp)) ?_
      refine wpAny_ready (rs := [13]) (by kernel_rfl) (by simp) ?_
      refine br_call 13 (some 45) 48 #[Value.string (s.extract F T), Value.int .i64 ((o : Int) - 8 * (F : Int)), Value.int .i64 (n : Int), Value.agg #[Value.int .u64 hi, Value.int .u64 lo]] rfl rfl (wanted_none rfl) rfl (map4 (ev_eq (by decide)) (ev_ne (by decide) (ev_ne (by decide) (ev_ne (by decide) (ev_ne (by decide) (ev_eq (by decide)))))) (ev_ne (by decide) (ev_ne (by decide) (ev_ne (by decide) (ev_eq (by decide))))) (ev_ne (by decide) (ev_ne (by decide) (ev_eq (by decide))))) (fun args w => by kernel_rfl) (turnoutref02_Put.calls K _ _ _ hi lo P 0 _ HP.out) ?_ ?_
      · rintro e v1 ⟨rfl, hb⟩
        have HI2 := Aside0.mk (HI.out.below hb); clear HI; have HI := HI2; clear HI2
        have HN2 := Aside0.mk (And.intro HI.out (HN.out.2.trans (mod_below hb))); clear HN hb; have HN := HN2; clear HN2
        refine ⟨_, rfl, ?_⟩
        refine reg_pure 14 (some 31) (v := Value.tuple #[Value.string P, Value.int .i64 0]) rfl (by kernel_rfl) (by kernel_rfl) (by kernel_rfl) rfl (fun _ _ _ h => h) (wanted_none rfl) (ro_move (.inl rfl) (ev_eq (by decide))) ?_
        refine reg_pure 15 (some 46) (v := Value.string P) rfl (by kernel_rfl) (by kernel_rfl) (by kernel_rfl) rfl (fun _ _ _ h => h) (wanted_none rfl) ((ro_extract rfl (ev_eq (by decide)) (fun w => by go_simp))) ?_
        refine reg_pure 16 (some 47) (v := Value.int .i64 0) rfl (by kernel_rfl) (by kernel_rfl) (by kernel_rfl) rfl (fun _ _ _ h => h) (wanted_none rfl) ((ro_extract rfl (ev_ne (by decide) (ev_eq (by decide))) (fun w => by go_simp))) ?_
        refine reg_pure 17 (some 12) (v := Value.string P) rfl (by kernel_rfl) (by kernel_rfl) (by kernel_rfl) rfl (fun _ _ _ h => h) (wanted_none rfl) (ro_move (.inr rfl) (ev_ne (by decide) (ev_eq (by decide)))) ?_
        refine reg_pure 18 (some 13) (v := Value.int .i64 0) rfl (by kernel_rfl) (by kernel_rfl) (by kernel_rfl) rfl (fun _ _ _ h => h) (wanted_none rfl) (ro_move (.inr rfl) (ev_ne (by decide) (ev_eq (by decide)))) ?_
        refine reg_done (by kernel_rfl) ?_
        have hA := HAA.out
        subst hA
        simp only [Act.put, List.setIfInBounds_toArray, List.set_cons_zero, List.set_cons_succ]
        clear HAA HFr s0 s1 s2 s7 s10 s11
        clear HW
        go_wp2_with fail
        have HI2 := Aside0.mk HI.out.drew; clear HI; have HI := HI2; clear HI2
        have HN2 := Aside0.mk (And.intro HI.out (mod_drew HN.out.2)); clear HN; have HN := HN2; clear HN2
        skip
        refine wp_region_any (by kernel_rfl) ?_
        change wpAny _ _ _ _ _ _ _ (World.drew _)
        refine any_var (fun A hA => ?_)
        have s0 : A.eval (.tmp 0) = Value.pointer (some ⟨q, 0, none⟩) := by rw [hA]; rfl
        have s10 : A.eval (.tmp 10) = Value.int .i64 (F : Int) := by rw [hA]; rfl
        have s11 : A.eval (.tmp 11) = Value.int .i64 (T : Int) := by rw [hA]; first | rfl | exact congrArg (Value.int .i64) p1
        have s12 : A.eval (.tmp 12) = Value.string P := by rw [hA]; rfl
        haveI HFr : Fr 66 A := ⟨by rw [hA]; exact Nat.le_refl _⟩
        have HAA := Aside0.mk hA
        clear hA
        refine reg_pure 0 (some 48) (v := Value.pointer (some ⟨q, 0, none⟩)) rfl (by kernel_rfl) (by kernel_rfl) (by kernel_rfl) rfl (fun _ _ _ h => h) (wanted_none rfl) (ro_move (.inl rfl) s0) ?_
        refine reg_pure 1 (some 49) (v := Value.pointer (some ⟨q, 0, none⟩)) rfl (by kernel_rfl) (by kernel_rfl) (by kernel_rfl) rfl (fun _ _ _ h => h) (wanted_none rfl) (ro_move (.inl rfl) (ev_ne (by decide) s0)) ?_
        refine reg_pure 2 (some 50) (v := Value.pointer (some ⟨q, 0, none⟩)) rfl (by kernel_rfl) (by kernel_rfl) (by kernel_rfl) rfl (fun _ _ _ h => h) (wanted_none rfl) (ro_nil rfl (ev_eq (by decide))) ?_
        refine reg_pure 3 (some 51) (v := Value.pointer (some ⟨q, 0, none⟩)) rfl (by kernel_rfl) (by kernel_rfl) (by kernel_rfl) rfl (fun _ _ _ h => h) (wanted_none rfl) (ro_field rfl (ev_eq (by decide)) (fun w => by go_simp)) ?_
        refine reg_pure 5 (some 53) (v := Value.int .i64 (F : Int)) rfl (by kernel_rfl) (by kernel_rfl) (by kernel_rfl) rfl (fun _ _ _ h => h) (wanted_none rfl) (ro_move (.inl rfl) (ev_ne (by decide) (ev_ne (by decide) (ev_ne (by decide) (ev_ne (by decide) s10))))) ?_
        refine reg_pure 7 (some 55) (v := Value.string P) rfl (by kernel_rfl) (by kernel_rfl) (by kernel_rfl) rfl (fun _ _ _ h => h) (wanted_none rfl) (ro_move (.inl rfl) (ev_ne (by decide) (ev_ne (by decide) (ev_ne (by decide) (ev_ne (by decide) (ev_ne (by decide) s12)))))) ?_
        refine reg_pure 9 (some 57) (v := Value.pointer (some ⟨q, 0, none⟩)) rfl (by kernel_rfl) (by kernel_rfl) (by kernel_rfl) rfl (fun _ _ _ h => h) (wanted_none rfl) (ro_move (.inl rfl) (ev_ne (by decide) (ev_ne (by decide) (ev_ne (by decide) (ev_ne (by decide) (ev_ne (by decide) (ev_ne (by decide) s0))))))) ?_
        refine reg_pure 10 (some 58) (v := Value.pointer (some ⟨q, 0, none⟩)) rfl (by kernel_rfl) (by kernel_rfl) (by kernel_rfl) rfl (fun _ _ _ h => h) (wanted_none rfl) (ro_nil rfl (ev_eq (by decide))) ?_
        refine reg_pure 11 (some 59) (v := Value.pointer (some ⟨q, 0, none⟩)) rfl (by kernel_rfl) (by kernel_rfl) (by kernel_rfl) rfl (fun _ _ _ h => h) (wanted_none rfl) (ro_field rfl (ev_eq (by decide)) (fun w => by go_simp)) ?_
        refine reg_pure 13 (some 61) (v := Value.int .i64 (T : Int)) rfl (by kernel_rfl) (by kernel_rfl) (by kernel_rfl) rfl (fun _ _ _ h => h) (wanted_none rfl) (ro_move (.inl rfl) (ev_ne (by decide) (ev_ne (by decide) (ev_ne (by decide) (ev_ne (by decide) (ev_ne (by decide) (ev_ne (by decide) (ev_ne (by decide) (ev_ne (by decide) (ev_ne (by decide) s11)))))))))) ?_
        refine wpAny_ready (rs := [4, 12]) (by kernel_rfl) (by simp) ?_
        refine br_load 4 (some 52) (v := Value.string s) rfl rfl (wanted_none rfl) (ro_load rfl (ev_ne (by decide) (ev_ne (by decide) (ev_ne (by decide) (ev_ne (by decide) (ev_ne (by decide) (ev_ne (by decide) (ev_eq (by decide)))))))) (load60 HI.out.1)) ?_ ?_
        · skip
          refine reg_pure 6 (some 54) (v := Value.string (s.extract 0 F)) rfl (by kernel_rfl) (by kernel_rfl) (by kernel_rfl) rfl (fun _ _ _ h => h) (wanted_none rfl) (ro_slice rfl (ev_eq (by decide)) rfl (congrArg some (ev_ne (by decide) (ev_ne (by decide) (ev_ne (by decide) (ev_ne (by decide) (ev_ne (by decide) (ev_ne (by decide) (ev_eq (by decide))))))))) (fun w => by go_simp)) ?_
          refine reg_pure 8 (some 56) (v := Value.string (s.extract 0 F ++ P)) rfl (by kernel_rfl) (by kernel_rfl) (by kernel_rfl) rfl (fun _ _ _ h => h) (wanted_none rfl) (ro_bin rfl (ev_eq (by decide)) (ev_ne (by decide) (ev_ne (by decide) (ev_ne (by decide) (ev_ne (by decide) (ev_ne (by decide) (ev_ne (by decide) (ev_eq (by decide)))))))) (fun w => by go_simp)) ?_
          refine wpAny_ready (rs := [12]) (by kernel_rfl) (by simp) ?_
          refine br_load 12 (some 60) (v := Value.string s) rfl rfl (wanted_none rfl) (ro_load rfl (ev_ne (by decide) (ev_ne (by decide) (ev_ne (by decide) (ev_ne (by decide) (ev_eq (by decide)))))) (load60 HI.out.1)) ?_ ?_
          · skip
            refine reg_pure 14 (some 62) (v := Value.string (s.extract T s.size)) rfl (by kernel_rfl) (by kernel_rfl) (by kernel_rfl) rfl (fun _ _ _ h => h) (wanted_none rfl) (ro_slice rfl (ev_eq (by decide)) (congrArg some (ev_ne (by decide) (ev_ne (by decide) (ev_ne (by decide) (ev_ne (by decide) (ev_eq (by decide))))))) rfl (fun w => by go_simp)) ?_
            refine reg_pure 15 (some 63) (v := Value.string (s.extract 0 F ++ P ++ s.extract T s.size)) rfl (by kernel_rfl) (by kernel_rfl) (by kernel_rfl) rfl (fun _ _ _ h => h) (wanted_none rfl) (ro_bin rfl (ev_ne (by decide) (ev_ne (by decide) (ev_eq (by decide)))) (ev_eq (by decide)) (fun w => by go_simp)) ?_
            refine reg_pure 16 (some 64) (v := Value.pointer (some ⟨q, 0, none⟩)) rfl (by kernel_rfl) (by kernel_rfl) (by kernel_rfl) rfl (fun _ _ _ h => h) (wanted_none rfl) (ro_nil rfl (ev_ne (by decide) (ev_ne (by decide) (ev_ne (by decide) (ev_ne (by decide) (ev_ne (by decide) (ev_ne (by decide) (ev_ne (by decide) (ev_ne (by decide) (ev_ne (by decide) (ev_ne (by decide) (ev_ne (by decide) (ev_ne (by decide) (ev_ne (by decide) (ev_ne (by decide) (ev_ne (by decide) (ev_eq (by decide)))))))))))))))))) ?_
            refine reg_pure 17 (some 65) (v := Value.pointer (some ⟨q, 0, none⟩)) rfl (by kernel_rfl) (by kernel_rfl) (by kernel_rfl) rfl (fun _ _ _ h => h) (wanted_none rfl) (ro_field rfl (ev_eq (by decide)) (fun w => by go_simp)) ?_
            refine wpAny_ready (rs := [18]) (by kernel_rfl) (by simp) ?_
            refine br_store 18 rfl rfl (wanted_none rfl) rfl (ev_eq (by decide)) (ev_ne (by decide) (ev_ne (by decide) (ev_eq (by decide)))) (store60 HI.out.1) ?_ ?_
            · skip
              have HN2 := Aside0.mk (And.intro (HI.out.set_ (t := s.extract 0 F ++ P ++ s.extract T s.size)) (HN.out.2.trans (KBuf.Mod.setCell _ q 0 (.string (s.extract 0 F ++ P ++ s.extract T s.size)) rfl))); clear HI HN; have HN := HN2; clear HN2
              refine reg_done (by kernel_rfl) ?_
              have hA := HAA.out
              subst hA
              simp only [Act.put, List.setIfInBounds_toArray, List.set_cons_zero, List.set_cons_succ]
              clear HAA HFr s0 s10 s11 s12
              go_wp2_with fail
              go_ret
              exact ⟨rfl, HN.out⟩
            exact AllReady.nil
          exact AllReady.nil
        refine br_load 12 (some 60) (v := Value.string s) rfl rfl (wanted_none rfl) (ro_load rfl (ev_ne (by decide) (ev_eq (by decide))) (load60 HI.out.1)) ?_ ?_
        · skip
          refine reg_pure 14 (some 62) (v := Value.string (s.extract T s.size)) rfl (by kernel_rfl) (by kernel_rfl) (by kernel_rfl) rfl (fun _ _ _ h => h) (wanted_none rfl) (ro_slice rfl (ev_eq (by decide)) (congrArg some (ev_ne (by decide) (ev_eq (by decide)))) rfl (fun w => by go_simp)) ?_
          refine wpAny_ready (rs := [4]) (by kernel_rfl) (by simp) ?_
          refine br_load 4 (some 52) (v := Value.string s) rfl rfl (wanted_none rfl) (ro_load rfl (ev_ne (by decide) (ev_ne (by decide) (ev_ne (by decide) (ev_ne (by decide) (ev_ne (by decide) (ev_ne (by decide) (ev_ne (by decide) (ev_ne (by decide) (ev_eq (by decide)))))))))) (load60 HI.out.1)) ?_ ?_
          · skip
            refine reg_pure 6 (some 54) (v := Value.string (s.extract 0 F)) rfl (by kernel_rfl) (by kernel_rfl) (by kernel_rfl) rfl (fun _ _ _ h => h) (wanted_none rfl) (ro_slice rfl (ev_eq (by decide)) rfl (congrArg some (ev_ne (by decide) (ev_ne (by decide) (ev_ne (by decide) (ev_ne (by decide) (ev_ne (by decide) (ev_ne (by decide) (ev_ne (by decide) (ev_ne (by decide) (ev_eq (by decide))))))))))) (fun w => by go_simp)) ?_
            refine reg_pure 8 (some 56) (v := Value.string (s.extract 0 F ++ P)) rfl (by kernel_rfl) (by kernel_rfl) (by kernel_rfl) rfl (fun _ _ _ h => h) (wanted_none rfl) (ro_bin rfl (ev_eq (by decide)) (ev_ne (by decide) (ev_ne (by decide) (ev_ne (by decide) (ev_ne (by decide) (ev_ne (by decide) (ev_ne (by decide) (ev_ne (by decide) (ev_ne (by decide) (ev_eq (by decide)))))))))) (fun w => by go_simp)) ?_
            refine reg_pure 15 (some 63) (v := Value.string (s.extract 0 F ++ P ++ s.extract T s.size)) rfl (by kernel_rfl) (by kernel_rfl) (by kernel_rfl) rfl (fun _ _ _ h => h) (wanted_none rfl) (ro_bin rfl (ev_eq (by decide)) (ev_ne (by decide) (ev_ne (by decide) (ev_ne (by decide) (ev_eq (by decide))))) (fun w => by go_simp)) ?_
            refine reg_pure 16 (some 64) (v := Value.pointer (some ⟨q, 0, none⟩)) rfl (by kernel_rfl) (by kernel_rfl) (by kernel_rfl) rfl (fun _ _ _ h => h) (wanted_none rfl) (ro_nil rfl (ev_ne (by decide) (ev_ne (by decide) (ev_ne (by decide) (ev_ne (by decide) (ev_ne (by decide) (ev_ne (by decide) (ev_ne (by decide) (ev_ne (by decide) (ev_ne (by decide) (ev_ne (by decide) (ev_ne (by decide) (ev_ne (by decide) (ev_ne (by decide) (ev_ne (by decide) (ev_ne (by decide) (ev_eq (by decide)))))))))))))))))) ?_
            refine reg_pure 17 (some 65) (v := Value.pointer (some ⟨q, 0, none⟩)) rfl (by kernel_rfl) (by kernel_rfl) (by kernel_rfl) rfl (fun _ _ _ h => h) (wanted_none rfl) (ro_field rfl (ev_eq (by decide)) (fun w => by go_simp)) ?_
            refine wpAny_ready (rs := [18]) (by kernel_rfl) (by simp) ?_
            refine br_store 18 rfl rfl (wanted_none rfl) rfl (ev_eq (by decide)) (ev_ne (by decide) (ev_ne (by decide) (ev_eq (by decide)))) (store60 HI.out.1) ?_ ?_
            · skip
              have HN2 := Aside0.mk (And.intro (HI.out.set_ (t := s.extract 0 F ++ P ++ s.extract T s.size)) (HN.out.2.trans (KBuf.Mod.setCell _ q 0 (.string (s.extract 0 F ++ P ++ s.extract T s.size)) rfl))); clear HI HN; have HN := HN2; clear HN2
              refine reg_done (by kernel_rfl) ?_
              have hA := HAA.out
              subst hA
              simp only [Act.put, List.setIfInBounds_toArray, List.set_cons_zero, List.set_cons_succ]
              clear HAA HFr s0 s10 s11 s12
              go_wp2_with fail
              go_ret
              exact ⟨rfl, HN.out⟩
            exact AllReady.nil
          exact AllReady.nil
        exact AllReady.nil
      exact AllReady.nil
    exact AllReady.nil
  exact AllReady.nil
end
/-- At the document's buffer of the text s the call answers r, and the text is s'. -/
def ActsR (f : Nat) (s : ByteArray) (args : Value → Array Value) (r : Value) (s' : ByteArray) : Prop :=
  ∀ w0 u q, IsS60 w0 u q s → Below w0.heap.size w0 u → Calls Try.prog f (args (.pointer (some ⟨q, 0, none⟩))) u (RDoes w0 u q s' r)
/-- Both answer alike, and their texts stay alike. -/
def Both (f f' : Nat) (D : List UInt8) (args : Value → Array Value) (r : Value) (D' : List UInt8) : Prop :=
  Acts f D args r D' ∧ ActsR f' (KBuf.txt D) args r (KBuf.txt D')
theorem txt_append (A B : List UInt8) : KBuf.txt (A ++ B) = KBuf.txt A ++ KBuf.txt B := by
  have : (KBuf.txt A ++ KBuf.txt B).data.toList = A ++ B := by simp [KBuf.txt]
  rw [← KBuf.txt_data (KBuf.txt A ++ KBuf.txt B), this]
theorem txt_ext (D : List UInt8) (i j : Nat) (h : i ≤ j) : (KBuf.txt D).extract i j = KBuf.txt ((D.drop i).take (j - i)) := by
  have : ((KBuf.txt D).extract i j).data.toList = (D.drop i).take (j - i) := by
    rw [ByteArray.data_extract, Array.toList_extract, List.extract_eq_take_drop]; rfl
  rw [← KBuf.txt_data ((KBuf.txt D).extract i j), this]
theorem txt_ext0 (D : List UInt8) (j : Nat) : (KBuf.txt D).extract 0 j = KBuf.txt (D.take j) := by rw [txt_ext D 0 j (Nat.zero_le _)]; rfl
theorem txt_extE (D : List UInt8) (i : Nat) (h : i ≤ D.length) : (KBuf.txt D).extract i (KBuf.txt D).size = KBuf.txt (D.drop i) := by
  rw [KBuf.txt_size, txt_ext D i _ h, List.take_of_length_le (by rw [List.length_drop]; omega)]
section
variable (D : List UInt8) (hD : D.length ≤ 9216) (a n : Int) (ha : -9223372036854775808 ≤ a ∧ a ≤ 9223372036854775807) (hn : -9223372036854775808 ≤ n ∧ n ≤ 9223372036854775807)
include hD ha in
theorem get_both : ∃ H L x, Both 18 34 D (fun q => #[q, .int .i64 a, .int .i64 n]) (.tuple #[.agg #[.int .u64 H, .int .u64 L], .int .i64 x]) D := by
  by_cases hb : a < 0 ∨ n < 1 ∨ 128 < n ∨ 8 * (D.length : Int) - n < a
  · have hm : MField.may (KBuf.txt D) a n ≠ 0 := by
      unfold MField.may
      rw [KBuf.txt_size]
      split
      · decide
      · rw [if_pos (by omega)]; decide
    obtain ⟨K, hK⟩ := MField.get_bad (KBuf.txt D) a n (by rw [KBuf.txt_size]; omega) hm
    obtain ⟨K2, hK2⟩ := MField.rget_bad (KBuf.txt D) a n (by rw [KBuf.txt_size]; omega) hm
    exact ⟨_, _, _, fun u p g cap hB => (get_bad hB a n K _ _ hb ha.1 ha.2 _ ⟨hK K (Nat.le_refl K)⟩).mono (Does.bel hB), fun w0 u q hI hB => r_get hI hB a n K2 _ _ _ (hK2 K2 (Nat.le_refl K2))⟩
  · obtain ⟨o, rfl⟩ := Int.eq_ofNat_of_zero_le (show 0 ≤ a by omega)
    obtain ⟨m, rfl⟩ := Int.eq_ofNat_of_zero_le (show 0 ≤ n by omega)
    obtain ⟨K2, hK2⟩ := MField.rget_ok (KBuf.txt D) o m (by omega) (by omega) (by rw [KBuf.txt_size]; omega) (by rw [KBuf.txt_size]; omega)
    exact ⟨_, _, _, fun u p g cap hB => MWin.get_v hB o m rfl rfl (by omega) (by omega) (by omega), fun w0 u q hI hB => r_get hI hB o m K2 _ _ _ (hK2 K2 (Nat.le_refl K2))⟩
include hD ha in
theorem put_both (x : MBits.W) : ∃ y D', Both 19 35 D (fun q => #[q, .int .i64 a, .int .i64 n, .agg #[.int .u64 (MBits.hi x), .int .u64 (MBits.lo x)]]) (.int .i64 y) D' := by
  by_cases hb : a < 0 ∨ n < 1 ∨ 128 < n ∨ 8 * (D.length : Int) - n < a
  · have hm : MField.may (KBuf.txt D) a n ≠ 0 := by
      unfold MField.may
      rw [KBuf.txt_size]
      split
      · decide
      · rw [if_pos (by omega)]; decide
    obtain ⟨K, hK⟩ := MPut.put_bad (KBuf.txt D) a n (MBits.hi x) (MBits.lo x) (by rw [KBuf.txt_size]; omega) hm
    exact ⟨_, D, fun u p g cap hB => (put_bad hB a n K _ _ _ _ hb ha.1 ha.2 hm ⟨hK K (Nat.le_refl K)⟩).mono (Does.bel hB), fun w0 u q hI hB => r_put_bad hI hB (by rw [KBuf.txt_size]; omega) a n _ _ _ rfl hm⟩
  · obtain ⟨o, rfl⟩ := Int.eq_ofNat_of_zero_le (show 0 ≤ a by omega)
    obtain ⟨m, rfl⟩ := Int.eq_ofNat_of_zero_le (show 0 ≤ n by omega)
    have hw := win_len D o m (by omega)
    have hwin : (KBuf.txt D).extract (o / 8) ((o + m + 7) / 8) = KBuf.txt (win D o m) := txt_ext D _ _ (by omega)
    obtain ⟨K2, hK2⟩ := MPut.rput_ok (KBuf.txt (win D o m)) (o - 8 * (o / 8)) m x (by omega) (by omega) (by rw [KBuf.txt_size, hw]; omega) (by rw [KBuf.txt_size, hw]; omega)
    have hk := hK2 K2 (Nat.le_refl K2)
    have e2 : ((o - 8 * (o / 8) : Nat) : Int) = (o : Int) - 8 * ((o / 8 : Nat) : Int) := by omega
    rw [e2] at hk
    refine ⟨0, _, fun u p g cap hB => MWin.put_v hB o m x rfl rfl (by omega) (by omega) (by omega), fun w0 u q hI hB => ?_⟩
    have := r_put_ok hI hB (by rw [KBuf.txt_size]; omega) o m (o / 8) ((o + m + 7) / 8) (MBits.hi x) (MBits.lo x) (by omega) (by omega) (by rw [KBuf.txt_size]; omega) rfl rfl (MPut.put (KBuf.txt (win D o m)) (o - 8 * (o / 8)) m x.toNat) (by rw [MPut.put_size, KBuf.txt_size, hw]) K2 ⟨by rw [hwin]; exact hk⟩
    rw [txt_ext0, txt_extE D _ (by omega)] at this
    have e3 : KBuf.txt (D.take (o / 8) ++ (MPut.put (KBuf.txt (win D o m)) (o - 8 * (o / 8)) m x.toNat).data.toList ++ D.drop (o / 8 + ((o + m + 7) / 8 - o / 8))) = KBuf.txt (D.take (o / 8)) ++ MPut.put (KBuf.txt (win D o m)) (o - 8 * (o / 8)) m x.toNat ++ KBuf.txt (D.drop ((o + m + 7) / 8)) := by
      rw [txt_append, txt_append, KBuf.txt_data, show o / 8 + ((o + m + 7) / 8 - o / 8) = (o + m + 7) / 8 by omega]
    rw [e3]
    exact this
include hD hn in
theorem ins_both : ∃ y D', Both 14 36 D (fun q => #[q, .int .i64 a, .int .i64 n]) (.int .i64 y) D' := by
  have hs : (KBuf.txt D).size ≤ 9216 := by rw [KBuf.txt_size]; exact hD
  by_cases h1 : a < 0
  · refine ⟨1, D, fun u p g cap hB => insbad_d hB a n _ (min_all n _ _) 1 ?_ (by decide), fun w0 u q hI hB => r_ins_a hI hB hs a n h1⟩
    unfold offE; rw [if_pos (.inl h1)]
  · by_cases h2 : n < 0
    · refine ⟨1, D, fun u p g cap hB => insbad_d hB a n _ (min_all n _ _) 1 ?_ (by decide), fun w0 u q hI hB => r_ins_n hI hB hs a n (by omega) h2⟩
      unfold offE; rw [if_neg (show ¬ 0 < n by omega), if_pos (.inr h2)]
    · by_cases h3 : (D.length : Int) < a
      · refine ⟨4, D, fun u p g cap hB => insbad_d hB a n _ (min_all n _ _) 4 ?_ (by decide), fun w0 u q hI hB => r_ins_s hI hB hs a n (by omega) (by omega) (by rw [KBuf.txt_size]; exact h3)⟩
        unfold offE
        have e : (if 0 < n then (0 : Int) else n) = 0 := by split <;> omega
        rw [e, if_neg (by omega), if_pos (.inl h3)]
      · obtain ⟨o, rfl⟩ := Int.eq_ofNat_of_zero_le (show 0 ≤ a by omega)
        by_cases h4 : 9216 - (D.length : Int) < n
        · exact ⟨5, D, fun u p g cap hB => (insert_long hB o n (by omega) (by omega) hn.2).mono (Does.same hB), fun w0 u q hI hB => r_ins_l hI hB hs o n (by omega) (by omega) (by rw [KBuf.txt_size]; omega) (by rw [KBuf.txt_size]; exact h4)⟩
        · obtain ⟨m, rfl⟩ := Int.eq_ofNat_of_zero_le (show 0 ≤ n by omega)
          refine ⟨0, _, fun u p g cap hB => ins_d hB o m (by omega) (by omega), fun w0 u q hI hB => ?_⟩
          have hz : turnoutref05_zeros.f (m : Int) = some (KBuf.txt (List.replicate m 0)) := by
            have e : KBuf.num8 (List.replicate m 0) = List.replicate m 0 := by unfold KBuf.num8; rw [List.map_replicate]; rfl
            unfold turnoutref05_zeros.f
            rw [if_pos (by omega), if_pos (by omega), Int.toNat_natCast, ← KBuf.str_num8, e]
          have := r_ins_ok hI hB hs o m (by rw [KBuf.txt_size]; omega) (by rw [KBuf.txt_size]; omega) (KBuf.txt (List.replicate m 0)) (by rw [KBuf.txt_size, List.length_replicate]; omega) ⟨hz⟩
          rw [txt_ext0, txt_extE D _ (by omega)] at this
          rw [txt_append, txt_append]
          exact this
include hD in
theorem del_both : ∃ y D', Both 16 37 D (fun q => #[q, .int .i64 a, .int .i64 n]) (.int .i64 y) D' := by
  have hs : (KBuf.txt D).size ≤ 9216 := by rw [KBuf.txt_size]; exact hD
  by_cases hx : offE D.length a n = 0
  · have h2 := offE_zero hx
    obtain ⟨o, rfl⟩ := Int.eq_ofNat_of_zero_le h2.1
    obtain ⟨m, rfl⟩ := Int.eq_ofNat_of_zero_le h2.2.1
    refine ⟨0, _, fun u p g cap hB => del_d hB o m (by omega), fun w0 u q hI hB => ?_⟩
    have := r_del_ok hI hB hs o m (by rw [KBuf.txt_size]; omega)
    rw [txt_ext0, txt_extE D _ (by omega)] at this
    rw [txt_append]
    exact this
  · exact ⟨_, D, fun u p g cap hB => delbad_d hB a n _ rfl hx, fun w0 u q hI hB => r_del_bad hI hB hs a n _ (by rw [KBuf.txt_size]) hx⟩
include hD in
theorem sum_both : ∃ v y, Both 21 38 D (fun q => #[q, .int .i64 a, .int .i64 n]) (.tuple #[.int .u16 v, .int .i64 y]) D := by
  have hs : (KBuf.txt D).size ≤ 9216 := by rw [KBuf.txt_size]; exact hD
  by_cases hx : offE D.length a n = 0
  · have h2 := offE_zero hx
    obtain ⟨o, rfl⟩ := Int.eq_ofNat_of_zero_le h2.1
    obtain ⟨m, rfl⟩ := Int.eq_ofNat_of_zero_le h2.2.1
    obtain ⟨k, hk⟩ := sum_k (KBuf.txt (part D o m)) (by rw [KBuf.txt_size, part_len _ _ _ (by omega)]; omega)
    refine ⟨_, _, fun u p g cap hB => sum_d hB o m k _ (by omega) ⟨hk⟩, fun w0 u q hI hB => ?_⟩
    have := r_sum_ok hI hB hs o m (by rw [KBuf.txt_size]; omega)
    rw [txt_ext D o (o + m) (by omega), show o + m - o = m by omega] at this
    exact this
  · exact ⟨0, _, fun u p g cap hB => (sum_bad hB a n _ rfl hx).mono (Does.same hB), fun w0 u q hI hB => r_sum_bad hI hB hs a n _ (by rw [KBuf.txt_size]) hx⟩
end
/-- Both buffers, and blocks beside them that stay. -/
def PAL (w u : World) (p : Nat) (D : List UInt8) (q : Nat) (s : ByteArray) (l : List (Nat × Obj)) : Prop :=
  ∃ g cap, KBuf.Buf u p g D cap ∧ IsS60 w u q s ∧ q ≠ p ∧ q ≠ g ∧ w.heap.size ≤ p ∧ w.heap.size ≤ g ∧ Below w.heap.size w u ∧ ∀ z, z ∈ l → u.heap[z.1]? = some z.2 ∧ z.1 ≠ p ∧ z.1 ≠ g ∧ z.1 ≠ q
section
variable {w u u' : World} {p q : Nat} {D D' : List UInt8} {s s' : ByteArray} {l : List (Nat × Obj)}
theorem PAL.bel (h : PAL w u p D q s l) : Below w.heap.size w u := by
  obtain ⟨g, cap, h1, h2, h3, h4, h5, h6, h7, h8⟩ := h; exact h7
theorem PAL.small (h : PAL w u p D q s l) : D.length ≤ 9216 := by
  obtain ⟨g, cap, h1, h2, h3, h4, h5, h6, h7, h8⟩ := h; exact h1.small
theorem PAL.ref (h : PAL w u p D q s l) : IsS60 w u q s := by
  obtain ⟨g, cap, h1, h2, h3, h4, h5, h6, h7, h8⟩ := h; exact h2
theorem PAL.blk (h : PAL w u p D q s l) {b : Nat} {o : Obj} (hm : (b, o) ∈ l) : u.heap[b]? = some o := by
  obtain ⟨g, cap, h1, h2, h3, h4, h5, h6, h7, h8⟩ := h; exact (h8 _ hm).1
theorem PAL.bare (h : PAL w u p D q s l) : PAL w u p D q s [] := by
  obtain ⟨g, cap, h1, h2, h3, h4, h5, h6, h7, h8⟩ := h; exact ⟨g, cap, h1, h2, h3, h4, h5, h6, h7, fun z hz => by cases hz⟩
theorem PAL.below (h : PAL w u p D q s l) (hb : Below u.heap.size u u') : PAL w u' p D q s l := by
  obtain ⟨g, cap, h1, h2, h3, h4, h5, h6, h7, h8⟩ := h
  exact ⟨g, cap, h1.below hb, h2.bel2 hb, h3, h4, h5, h6, below_step h7 hb, fun z hz => ⟨blk_below (h8 z hz).1 hb, (h8 z hz).2⟩⟩
theorem PAL.drew (h : PAL w u p D q s l) : PAL w u.drew p D q s l := h.below (pw_below_drewN (Below.refl _ _) 1)
theorem PAL.new (h : PAL w u p D q s l) (o : Obj) : PAL w (u.alloc o) p D q s ((u.heap.size, o) :: l) := by
  obtain ⟨g, cap, h1, h2, h3, h4, h5, h6, h7, h8⟩ := h
  have e1 := h1.plt
  have e2 := h1.row.lt
  have e3 := h2.lt
  refine ⟨g, cap, h1.alloc o, h2.alloc o, h3, h4, h5, h6, below_alloc h7 o, fun z hz => ?_⟩
  rcases List.mem_cons.1 hz with rfl | hz
  · exact ⟨blk_new u o, by show u.heap.size ≠ p; omega, by show u.heap.size ≠ g; omega, by show u.heap.size ≠ q; omega⟩
  · exact ⟨blk_below (h8 z hz).1 (below_alloc (Below.refl _ _) o), (h8 z hz).2⟩
theorem PAL.liftB {f : Nat} {args : Value → Array Value} {r : Value} (h : PAL w u p D q s l) (hc : Acts f D args r D') :
    Calls Try.prog f (args (.pointer (some ⟨p, 0, none⟩))) u fun e u' => e = .returned r ∧ PAL w u' p D' q s l := by
  obtain ⟨g, cap, h1, h2, h3, h4, h5, h6, h7, h8⟩ := h
  refine (hc u p g cap h1).mono fun e u' hd => ?_
  obtain ⟨he, g', cap', hB, hg, hm⟩ := hd
  have hs := h7.size
  have hb : Below w.heap.size w u' := h7.trans (hm.below hs (fun k hk e => by omega))
  have e3 := h2.lt
  refine ⟨he, g', cap', hB, ⟨(hm.block q e3 (fun e => by omega)).trans h2.1, h2.2⟩, h3, by omega, h5, by omega, hb, fun z hz => ?_⟩
  obtain ⟨z1, z2, z3, z4⟩ := h8 z hz
  have hlt := blk_lt z1
  exact ⟨(hm.block z.1 hlt (fun e => by omega)).trans z1, z2, by omega, z4⟩
theorem PAL.liftR {f : Nat} {args : Value → Array Value} {r : Value} (h : PAL w u p D q s l) (hc : ActsR f s args r s') :
    Calls Try.prog f (args (.pointer (some ⟨q, 0, none⟩))) u fun e u' => e = .returned r ∧ PAL w u' p D q s' l := by
  obtain ⟨g, cap, h1, h2, h3, h4, h5, h6, h7, h8⟩ := h
  refine (hc w u q h2 h7).mono fun e u' hd => ?_
  obtain ⟨he, hI, hm⟩ := hd
  have hs := h7.size
  have hq := h2.ge
  have hb : Below w.heap.size w u' := h7.trans (hm.below hs (fun k hk e => by omega))
  exact ⟨he, g, cap, h1.mod hm (fun e => by omega) (fun e => by omega), hI, h3, h4, h5, h6, hb, fun z hz => ⟨(hm.block z.1 (blk_lt (h8 z hz).1) (h8 z hz).2.2.2).trans (h8 z hz).1, (h8 z hz).2⟩⟩
end
theorem Both.b {f f' : Nat} {D D' : List UInt8} {args : Value → Array Value} {r : Value} (h : Both f f' D args r D') : Acts f D args r D' := h.1
theorem Both.r {f f' : Nat} {D D' : List UInt8} {args : Value → Array Value} {r : Value} (h : Both f f' D args r D') : ActsR f' (KBuf.txt D) args r (KBuf.txt D') := h.2
section
variable {w u : World} {p q : Nat} {D D' : List UInt8} {k a n h l : Int}
set_option maxHeartbeats 8000000 in
set_option maxRecDepth 100000 in
theorem does_get (hP : PAL w u p D q (KBuf.txt D) []) (H L x : Int) (HG : Aside0 (Both 18 34 D (fun q => #[q, .int .i64 a, .int .i64 n]) (.tuple #[.agg #[.int .u64 H, .int .u64 L], .int .i64 x]) D)) :
    Calls Try.prog 28 #[.pointer (some ⟨p, 0, none⟩), .pointer (some ⟨q, 0, none⟩), .agg #[.int .u8 0, .int .i64 a, .int .i64 n, .int .u64 h, .int .u64 l]] u fun e u' => e = .returned (.bool true) ∧ PAL w u' p D q (KBuf.txt D) [] := by
  have HA := Aside0.mk (hP.new (.cells #[.int .u8 0, .int .i64 a, .int .i64 n, .int .u64 h, .int .u64 l] 42))
  clear hP
  go_enter Try.func28, Try.ntmps28
  go_wp2_with fail
  go_at_call 18
  (with_reducible refine (HA.out.liftB HG.out.b).mono ?_)
  clear HA; rintro e u1 ⟨rfl, h⟩; have HA := Aside0.mk (h.new (.cells #[.int .u64 H, .int .u64 L] 32)); clear h
  have c1 := (blk_cell (HA.out.blk (b := u.heap.size) (o := .cells #[.int .u8 0, .int .i64 a, .int .i64 n, .int .u64 h, .int .u64 l] 42) (by simp)) 1).trans (show _ = some (Value.int .i64 a) from rfl)
  have c2 := (blk_cell (HA.out.blk (b := u.heap.size) (o := .cells #[.int .u8 0, .int .i64 a, .int .i64 n, .int .u64 h, .int .u64 l] 42) (by simp)) 2).trans (show _ = some (Value.int .i64 n) from rfl)
  go_wp2_with fail
  clear c1 c2
  go_at_call 34
  (with_reducible refine (HA.out.liftR HG.out.r).mono ?_)
  clear HA; rintro e u2 ⟨rfl, h⟩; have HA := Aside0.mk (h.new (.cells #[.int .u64 H, .int .u64 L] 32)); clear h
  have c1 := (blk_cell (HA.out.blk (b := u1.heap.size) (o := .cells #[.int .u64 H, .int .u64 L] 32) (by simp)) 0).trans (show _ = some (Value.int .u64 H) from rfl)
  have c2 := (blk_cell (HA.out.blk (b := u1.heap.size) (o := .cells #[.int .u64 H, .int .u64 L] 32) (by simp)) 1).trans (show _ = some (Value.int .u64 L) from rfl)
  have c3 := (blk_cell (HA.out.blk (b := u2.heap.size) (o := .cells #[.int .u64 H, .int .u64 L] 32) (by simp)) 0).trans (show _ = some (Value.int .u64 H) from rfl)
  have c4 := (blk_cell (HA.out.blk (b := u2.heap.size) (o := .cells #[.int .u64 H, .int .u64 L] 32) (by simp)) 1).trans (show _ = some (Value.int .u64 L) from rfl)
  go_wp2_with fail
  go_ret
  exact ⟨rfl, HA.out.bare⟩
set_option maxHeartbeats 8000000 in
set_option maxRecDepth 100000 in
theorem does_sum (hP : PAL w u p D q (KBuf.txt D) []) (v x : Int) (HG : Aside0 (Both 21 38 D (fun q => #[q, .int .i64 a, .int .i64 n]) (.tuple #[.int .u16 v, .int .i64 x]) D)) :
    Calls Try.prog 28 #[.pointer (some ⟨p, 0, none⟩), .pointer (some ⟨q, 0, none⟩), .agg #[.int .u8 4, .int .i64 a, .int .i64 n, .int .u64 h, .int .u64 l]] u fun e u' => e = .returned (.bool true) ∧ PAL w u' p D q (KBuf.txt D) [] := by
  have HA := Aside0.mk (hP.new (.cells #[.int .u8 4, .int .i64 a, .int .i64 n, .int .u64 h, .int .u64 l] 42))
  clear hP
  go_enter Try.func28, Try.ntmps28
  go_wp2_with fail
  go_at_call 21
  (with_reducible refine (HA.out.liftB HG.out.b).mono ?_)
  clear HA; rintro e u1 ⟨rfl, h⟩; have HA := Aside0.mk h; clear h
  have c1 := (blk_cell (HA.out.blk (b := u.heap.size) (o := .cells #[.int .u8 4, .int .i64 a, .int .i64 n, .int .u64 h, .int .u64 l] 42) (by simp)) 1).trans (show _ = some (Value.int .i64 a) from rfl)
  have c2 := (blk_cell (HA.out.blk (b := u.heap.size) (o := .cells #[.int .u8 4, .int .i64 a, .int .i64 n, .int .u64 h, .int .u64 l] 42) (by simp)) 2).trans (show _ = some (Value.int .i64 n) from rfl)
  go_wp2_with fail
  clear c1 c2
  go_at_call 38
  (with_reducible refine (HA.out.liftR HG.out.r).mono ?_)
  clear HA; rintro e u2 ⟨rfl, h⟩; have HA := Aside0.mk h; clear h
  go_wp2_with fail
  go_ret
  exact ⟨rfl, HA.out.bare⟩
theorem loadI {w : World} {b o : Nat} {x : Int} (hc : w.cell? ⟨b, o, none⟩ = some (.int .i64 x)) : (Instr.loadAt 3 (.pointer (some ⟨b, o, none⟩)) : Sem Value).run Try.prog w = .ok (.int .i64 x) w := by
  go_simp
theorem loadW {w : World} {b : Nat} {x y : Int} (h3 : w.cell? ⟨b, 3, none⟩ = some (.int .u64 x)) (h4 : w.cell? ⟨b, 4, none⟩ = some (.int .u64 y)) : (Instr.loadAt 32 (.pointer (some ⟨b, 3, none⟩)) : Sem Value).run Try.prog w = .ok (.agg #[.int .u64 x, .int .u64 y]) w := by
  have hu := Try.underlying32
  go_simp
set_option maxHeartbeats 8000000 in
set_option maxRecDepth 100000 in
theorem does_put (hP : PAL w u p D q (KBuf.txt D) []) (y : Int) (HG : Aside0 (Both 19 35 D (fun q => #[q, .int .i64 a, .int .i64 n, .agg #[.int .u64 h, .int .u64 l]]) (.int .i64 y) D')) :
    Calls Try.prog 28 #[.pointer (some ⟨p, 0, none⟩), .pointer (some ⟨q, 0, none⟩), .agg #[.int .u8 1, .int .i64 a, .int .i64 n, .int .u64 h, .int .u64 l]] u fun e u' => e = .returned (.bool true) ∧ PAL w u' p D' q (KBuf.txt D') [] := by
  have HA := Aside0.mk (hP.new (.cells #[.int .u8 1, .int .i64 a, .int .i64 n, .int .u64 h, .int .u64 l] 42)).drew
  have HB5 := Aside0.mk (HA.out.blk (b := u.heap.size) (o := .cells #[.int .u8 1, .int .i64 a, .int .i64 n, .int .u64 h, .int .u64 l] 42) (by simp))
  clear hP
  go_enter Try.func28, Try.ntmps28
  go_wp2_with fail
  refine wp_region_held_drew (S := fun x => x.heap[u.heap.size]? = some (.cells #[.int .u8 1, .int .i64 a, .int .i64 n, .int .u64 h, .int .u64 l] 42)) (by kernel_rfl) HB5.out ?_
  clear HB5; intro HS
  refine held_var (fun A hA => ?_)
  have s0 : A.eval (.tmp 0) = Value.pointer (some ⟨p, 0, none⟩) := by rw [hA]; rfl
  have s1 : A.eval (.tmp 1) = Value.pointer (some ⟨q, 0, none⟩) := by rw [hA]; rfl
  have s5 : A.eval (.tmp 5) = Value.pointer (some ⟨u.heap.size, 0, none⟩) := by rw [hA]; rfl
  haveI HFr : Fr 120 A := ⟨by rw [hA]; exact Nat.le_refl _⟩
  have HAA := Aside0.mk hA
  clear hA
  refine held_pure 0 (some 47) (v := Value.pointer (some ⟨p, 0, none⟩)) rfl (by kernel_rfl) (by kernel_rfl) (by kernel_rfl) rfl (fun _ _ _ h => h) (wanted_none rfl) HS (fun w hS => (ro_move (.inl rfl) s0) w) ?_
  refine held_pure 1 (some 48) (v := Value.pointer (some ⟨u.heap.size, 1, none⟩)) rfl (by kernel_rfl) (by kernel_rfl) (by kernel_rfl) rfl (fun _ _ _ h => h) (wanted_none rfl) HS (fun w hS => (ro_field rfl (ev_ne (by decide) s5) (fun w => by go_simp)) w) ?_
  refine held_pure 2 (some 49) (v := Value.int .i64 a) rfl (by kernel_rfl) (by kernel_rfl) (by kernel_rfl) rfl (fun _ _ _ h => h) (wanted_none rfl) HS (fun w hS => (fun w => ro_load rfl (ev_eq (by decide)) (loadI ((blk_cell hS 1).trans rfl))) w) ?_
  refine held_pure 3 (some 50) (v := Value.pointer (some ⟨u.heap.size, 2, none⟩)) rfl (by kernel_rfl) (by kernel_rfl) (by kernel_rfl) rfl (fun _ _ _ h => h) (wanted_none rfl) HS (fun w hS => (ro_field rfl (ev_ne (by decide) (ev_ne (by decide) (ev_ne (by decide) s5))) (fun w => by go_simp)) w) ?_
  refine held_pure 4 (some 51) (v := Value.int .i64 n) rfl (by kernel_rfl) (by kernel_rfl) (by kernel_rfl) rfl (fun _ _ _ h => h) (wanted_none rfl) HS (fun w hS => (fun w => ro_load rfl (ev_eq (by decide)) (loadI ((blk_cell hS 2).trans rfl))) w) ?_
  refine held_pure 5 (some 52) (v := Value.pointer (some ⟨u.heap.size, 3, none⟩)) rfl (by kernel_rfl) (by kernel_rfl) (by kernel_rfl) rfl (fun _ _ _ h => h) (wanted_none rfl) HS (fun w hS => (ro_field rfl (ev_ne (by decide) (ev_ne (by decide) (ev_ne (by decide) (ev_ne (by decide) (ev_ne (by decide) s5))))) (fun w => by go_simp)) w) ?_
  refine held_pure 6 (some 53) (v := Value.agg #[Value.int .u64 h, Value.int .u64 l]) rfl (by kernel_rfl) (by kernel_rfl) (by kernel_rfl) rfl (fun _ _ _ h => h) (wanted_none rfl) HS (fun w hS => (fun w => ro_load rfl (ev_eq (by decide)) (loadW ((blk_cell hS 3).trans rfl) ((blk_cell hS 4).trans rfl))) w) ?_
  refine held_pure 8 (some 55) (v := Value.pointer (some ⟨q, 0, none⟩)) rfl (by kernel_rfl) (by kernel_rfl) (by kernel_rfl) rfl (fun _ _ _ h => h) (wanted_none rfl) HS (fun w hS => (ro_move (.inl rfl) (ev_ne (by decide) (ev_ne (by decide) (ev_ne (by decide) (ev_ne (by decide) (ev_ne (by decide) (ev_ne (by decide) (ev_ne (by decide) s1)))))))) w) ?_
  refine held_pure 9 (some 56) (v := Value.pointer (some ⟨u.heap.size, 1, none⟩)) rfl (by kernel_rfl) (by kernel_rfl) (by kernel_rfl) rfl (fun _ _ _ h => h) (wanted_none rfl) HS (fun w hS => (ro_field rfl (ev_ne (by decide) (ev_ne (by decide) (ev_ne (by decide) (ev_ne (by decide) (ev_ne (by decide) (ev_ne (by decide) (ev_ne (by decide) (ev_ne (by decide) s5)))))))) (fun w => by go_simp)) w) ?_
  refine held_pure 10 (some 57) (v := Value.int .i64 a) rfl (by kernel_rfl) (by kernel_rfl) (by kernel_rfl) rfl (fun _ _ _ h => h) (wanted_none rfl) HS (fun w hS => (fun w => ro_load rfl (ev_eq (by decide)) (loadI ((blk_cell hS 1).trans rfl))) w) ?_
  refine held_pure 11 (some 58) (v := Value.pointer (some ⟨u.heap.size, 2, none⟩)) rfl (by kernel_rfl) (by kernel_rfl) (by kernel_rfl) rfl (fun _ _ _ h => h) (wanted_none rfl) HS (fun w hS => (ro_field rfl (ev_ne (by decide) (ev_ne (by decide) (ev_ne (by decide) (ev_ne (by decide) (ev_ne (by decide) (ev_ne (by decide) (ev_ne (by decide) (ev_ne (by decide) (ev_ne (by decide) (ev_ne (by decide) s5)))))))))) (fun w => by go_simp)) w) ?_
  refine held_pure 12 (some 59) (v := Value.int .i64 n) rfl (by kernel_rfl) (by kernel_rfl) (by kernel_rfl) rfl (fun _ _ _ h => h) (wanted_none rfl) HS (fun w hS => (fun w => ro_load rfl (ev_eq (by decide)) (loadI ((blk_cell hS 2).trans rfl))) w) ?_
  refine held_pure 13 (some 60) (v := Value.pointer (some ⟨u.heap.size, 3, none⟩)) rfl (by kernel_rfl) (by kernel_rfl) (by kernel_rfl) rfl (fun _ _ _ h => h) (wanted_none rfl) HS (fun w hS => (ro_field rfl (ev_ne (by decide) (ev_ne (by decide) (ev_ne (by decide) (ev_ne (by decide) (ev_ne (by decide) (ev_ne (by decide) (ev_ne (by decide) (ev_ne (by decide) (ev_ne (by decide) (ev_ne (by decide) (ev_ne (by decide) (ev_ne (by decide) s5)))))))))))) (fun w => by go_simp)) w) ?_
  refine held_pure 14 (some 61) (v := Value.agg #[Value.int .u64 h, Value.int .u64 l]) rfl (by kernel_rfl) (by kernel_rfl) (by kernel_rfl) rfl (fun _ _ _ h => h) (wanted_none rfl) HS (fun w hS => (fun w => ro_load rfl (ev_eq (by decide)) (loadW ((blk_cell hS 3).trans rfl) ((blk_cell hS 4).trans rfl))) w) ?_
  refine held_call 7 (some 54) 19 #[Value.pointer (some ⟨p, 0, none⟩), Value.int .i64 a, Value.int .i64 n, Value.agg #[Value.int .u64 h, Value.int .u64 l]] (by kernel_rfl) rfl rfl (wanted_none rfl) rfl (map4 (ev_ne (by decide) (ev_ne (by decide) (ev_ne (by decide) (ev_ne (by decide) (ev_ne (by decide) (ev_ne (by decide) (ev_ne (by decide) (ev_ne (by decide) (ev_ne (by decide) (ev_ne (by decide) (ev_ne (by decide) (ev_ne (by decide) (ev_ne (by decide) (ev_eq (by decide))))))))))))))) (ev_ne (by decide) (ev_ne (by decide) (ev_ne (by decide) (ev_ne (by decide) (ev_ne (by decide) (ev_ne (by decide) (ev_ne (by decide) (ev_ne (by decide) (ev_ne (by decide) (ev_ne (by decide) (ev_ne (by decide) (ev_eq (by decide))))))))))))) (ev_ne (by decide) (ev_ne (by decide) (ev_ne (by decide) (ev_ne (by decide) (ev_ne (by decide) (ev_ne (by decide) (ev_ne (by decide) (ev_ne (by decide) (ev_ne (by decide) (ev_eq (by decide))))))))))) (ev_ne (by decide) (ev_ne (by decide) (ev_ne (by decide) (ev_ne (by decide) (ev_ne (by decide) (ev_ne (by decide) (ev_ne (by decide) (ev_eq (by decide)))))))))) (fun args w => by kernel_rfl) (HA.out.liftB HG.out.b :) ?_
  rintro e v1 ⟨rfl, hh⟩
  clear HS HA; have HA := Aside0.mk hh; clear hh
  refine ⟨_, rfl, HA.out.blk (b := u.heap.size) (o := (.cells #[.int .u8 1, .int .i64 a, .int .i64 n, .int .u64 h, .int .u64 l] 42)) (by simp), fun HS => ?_⟩
  refine held_call 15 (some 62) 35 #[Value.pointer (some ⟨q, 0, none⟩), Value.int .i64 a, Value.int .i64 n, Value.agg #[Value.int .u64 h, Value.int .u64 l]] (by kernel_rfl) rfl rfl (wanted_none rfl) rfl (map4 (ev_ne (by decide) (ev_ne (by decide) (ev_ne (by decide) (ev_ne (by decide) (ev_ne (by decide) (ev_ne (by decide) (ev_ne (by decide) (ev_eq (by decide))))))))) (ev_ne (by decide) (ev_ne (by decide) (ev_ne (by decide) (ev_ne (by decide) (ev_ne (by decide) (ev_eq (by decide))))))) (ev_ne (by decide) (ev_ne (by decide) (ev_ne (by decide) (ev_eq (by decide))))) (ev_ne (by decide) (ev_eq (by decide)))) (fun args w => by kernel_rfl) (HA.out.liftR HG.out.r :) ?_
  rintro e v2 ⟨rfl, hh⟩
  clear HS HA; have HA := Aside0.mk hh; clear hh
  refine ⟨_, rfl, HA.out.blk (b := u.heap.size) (o := (.cells #[.int .u8 1, .int .i64 a, .int .i64 n, .int .u64 h, .int .u64 l] 42)) (by simp), fun HS => ?_⟩
  refine held_pure 16 (some 63) (v := Value.bool true) rfl (by kernel_rfl) (by kernel_rfl) (by kernel_rfl) rfl (fun _ _ _ h => h) (wanted_none rfl) HS (fun w hS => (ro_bin rfl (ev_ne (by decide) (ev_eq (by decide))) (ev_eq (by decide)) (fun w => by go_simp)) w) ?_
  refine held_pure 17 (some 6) (v := Value.bool true) rfl (by kernel_rfl) (by kernel_rfl) (by kernel_rfl) rfl (fun _ _ _ h => h) (wanted_none rfl) HS (fun w hS => (ro_move (.inr rfl) (ev_eq (by decide))) w) ?_
  refine held_done (by kernel_rfl) ?_
  have hA := HAA.out
  subst hA
  simp only [Act.put, List.setIfInBounds_toArray, List.set_cons_zero, List.set_cons_succ]
  clear HAA HFr s0 s1 s5 HS
  go_wp2_with fail
  go_ret
  exact ⟨rfl, HA.out.bare⟩
set_option maxHeartbeats 8000000 in
set_option maxRecDepth 100000 in
theorem does_ins (hP : PAL w u p D q (KBuf.txt D) []) (y : Int) (HG : Aside0 (Both 14 36 D (fun q => #[q, .int .i64 a, .int .i64 n]) (.int .i64 y) D')) :
    Calls Try.prog 28 #[.pointer (some ⟨p, 0, none⟩), .pointer (some ⟨q, 0, none⟩), .agg #[.int .u8 2, .int .i64 a, .int .i64 n, .int .u64 h, .int .u64 l]] u fun e u' => e = .returned (.bool true) ∧ PAL w u' p D' q (KBuf.txt D') [] := by
  have HA := Aside0.mk (hP.new (.cells #[.int .u8 2, .int .i64 a, .int .i64 n, .int .u64 h, .int .u64 l] 42)).drew
  have HB5 := Aside0.mk (HA.out.blk (b := u.heap.size) (o := .cells #[.int .u8 2, .int .i64 a, .int .i64 n, .int .u64 h, .int .u64 l] 42) (by simp))
  clear hP
  go_enter Try.func28, Try.ntmps28
  go_wp2_with fail
  refine wp_region_held_drew (S := fun x => x.heap[u.heap.size]? = some (.cells #[.int .u8 2, .int .i64 a, .int .i64 n, .int .u64 h, .int .u64 l] 42)) (by kernel_rfl) HB5.out ?_
  clear HB5; intro HS
  refine held_var (fun A hA => ?_)
  have s0 : A.eval (.tmp 0) = Value.pointer (some ⟨p, 0, none⟩) := by rw [hA]; rfl
  have s1 : A.eval (.tmp 1) = Value.pointer (some ⟨q, 0, none⟩) := by rw [hA]; rfl
  have s5 : A.eval (.tmp 5) = Value.pointer (some ⟨u.heap.size, 0, none⟩) := by rw [hA]; rfl
  haveI HFr : Fr 120 A := ⟨by rw [hA]; exact Nat.le_refl _⟩
  have HAA := Aside0.mk hA
  clear hA
  refine held_pure 0 (some 66) (v := Value.pointer (some ⟨p, 0, none⟩)) rfl (by kernel_rfl) (by kernel_rfl) (by kernel_rfl) rfl (fun _ _ _ h => h) (wanted_none rfl) HS (fun w hS => (ro_move (.inl rfl) s0) w) ?_
  refine held_pure 1 (some 67) (v := Value.pointer (some ⟨u.heap.size, 1, none⟩)) rfl (by kernel_rfl) (by kernel_rfl) (by kernel_rfl) rfl (fun _ _ _ h => h) (wanted_none rfl) HS (fun w hS => (ro_field rfl (ev_ne (by decide) s5) (fun w => by go_simp)) w) ?_
  refine held_pure 2 (some 68) (v := Value.int .i64 a) rfl (by kernel_rfl) (by kernel_rfl) (by kernel_rfl) rfl (fun _ _ _ h => h) (wanted_none rfl) HS (fun w hS => (fun w => ro_load rfl (ev_eq (by decide)) (loadI ((blk_cell hS 1).trans rfl))) w) ?_
  refine held_pure 3 (some 69) (v := Value.pointer (some ⟨u.heap.size, 2, none⟩)) rfl (by kernel_rfl) (by kernel_rfl) (by kernel_rfl) rfl (fun _ _ _ h => h) (wanted_none rfl) HS (fun w hS => (ro_field rfl (ev_ne (by decide) (ev_ne (by decide) (ev_ne (by decide) s5))) (fun w => by go_simp)) w) ?_
  refine held_pure 4 (some 70) (v := Value.int .i64 n) rfl (by kernel_rfl) (by kernel_rfl) (by kernel_rfl) rfl (fun _ _ _ h => h) (wanted_none rfl) HS (fun w hS => (fun w => ro_load rfl (ev_eq (by decide)) (loadI ((blk_cell hS 2).trans rfl))) w) ?_
  refine held_pure 6 (some 72) (v := Value.pointer (some ⟨q, 0, none⟩)) rfl (by kernel_rfl) (by kernel_rfl) (by kernel_rfl) rfl (fun _ _ _ h => h) (wanted_none rfl) HS (fun w hS => (ro_move (.inl rfl) (ev_ne (by decide) (ev_ne (by decide) (ev_ne (by decide) (ev_ne (by decide) (ev_ne (by decide) s1)))))) w) ?_
  refine held_pure 7 (some 73) (v := Value.pointer (some ⟨u.heap.size, 1, none⟩)) rfl (by kernel_rfl) (by kernel_rfl) (by kernel_rfl) rfl (fun _ _ _ h => h) (wanted_none rfl) HS (fun w hS => (ro_field rfl (ev_ne (by decide) (ev_ne (by decide) (ev_ne (by decide) (ev_ne (by decide) (ev_ne (by decide) (ev_ne (by decide) s5)))))) (fun w => by go_simp)) w) ?_
  refine held_pure 8 (some 74) (v := Value.int .i64 a) rfl (by kernel_rfl) (by kernel_rfl) (by kernel_rfl) rfl (fun _ _ _ h => h) (wanted_none rfl) HS (fun w hS => (fun w => ro_load rfl (ev_eq (by decide)) (loadI ((blk_cell hS 1).trans rfl))) w) ?_
  refine held_pure 9 (some 75) (v := Value.pointer (some ⟨u.heap.size, 2, none⟩)) rfl (by kernel_rfl) (by kernel_rfl) (by kernel_rfl) rfl (fun _ _ _ h => h) (wanted_none rfl) HS (fun w hS => (ro_field rfl (ev_ne (by decide) (ev_ne (by decide) (ev_ne (by decide) (ev_ne (by decide) (ev_ne (by decide) (ev_ne (by decide) (ev_ne (by decide) (ev_ne (by decide) s5)))))))) (fun w => by go_simp)) w) ?_
  refine held_pure 10 (some 76) (v := Value.int .i64 n) rfl (by kernel_rfl) (by kernel_rfl) (by kernel_rfl) rfl (fun _ _ _ h => h) (wanted_none rfl) HS (fun w hS => (fun w => ro_load rfl (ev_eq (by decide)) (loadI ((blk_cell hS 2).trans rfl))) w) ?_
  refine held_call 5 (some 71) 14 #[Value.pointer (some ⟨p, 0, none⟩), Value.int .i64 a, Value.int .i64 n] (by kernel_rfl) rfl rfl (wanted_none rfl) rfl (map3 (ev_ne (by decide) (ev_ne (by decide) (ev_ne (by decide) (ev_ne (by decide) (ev_ne (by decide) (ev_ne (by decide) (ev_ne (by decide) (ev_ne (by decide) (ev_ne (by decide) (ev_eq (by decide))))))))))) (ev_ne (by decide) (ev_ne (by decide) (ev_ne (by decide) (ev_ne (by decide) (ev_ne (by decide) (ev_ne (by decide) (ev_ne (by decide) (ev_eq (by decide))))))))) (ev_ne (by decide) (ev_ne (by decide) (ev_ne (by decide) (ev_ne (by decide) (ev_ne (by decide) (ev_eq (by decide)))))))) (fun args w => by kernel_rfl) (HA.out.liftB HG.out.b :) ?_
  rintro e v1 ⟨rfl, hh⟩
  clear HS HA; have HA := Aside0.mk hh; clear hh
  refine ⟨_, rfl, HA.out.blk (b := u.heap.size) (o := (.cells #[.int .u8 2, .int .i64 a, .int .i64 n, .int .u64 h, .int .u64 l] 42)) (by simp), fun HS => ?_⟩
  refine held_call 11 (some 77) 36 #[Value.pointer (some ⟨q, 0, none⟩), Value.int .i64 a, Value.int .i64 n] (by kernel_rfl) rfl rfl (wanted_none rfl) rfl (map3 (ev_ne (by decide) (ev_ne (by decide) (ev_ne (by decide) (ev_ne (by decide) (ev_ne (by decide) (ev_eq (by decide))))))) (ev_ne (by decide) (ev_ne (by decide) (ev_ne (by decide) (ev_eq (by decide))))) (ev_ne (by decide) (ev_eq (by decide)))) (fun args w => by kernel_rfl) (HA.out.liftR HG.out.r :) ?_
  rintro e v2 ⟨rfl, hh⟩
  clear HS HA; have HA := Aside0.mk hh; clear hh
  refine ⟨_, rfl, HA.out.blk (b := u.heap.size) (o := (.cells #[.int .u8 2, .int .i64 a, .int .i64 n, .int .u64 h, .int .u64 l] 42)) (by simp), fun HS => ?_⟩
  refine held_pure 12 (some 78) (v := Value.bool true) rfl (by kernel_rfl) (by kernel_rfl) (by kernel_rfl) rfl (fun _ _ _ h => h) (wanted_none rfl) HS (fun w hS => (ro_bin rfl (ev_ne (by decide) (ev_eq (by decide))) (ev_eq (by decide)) (fun w => by go_simp)) w) ?_
  refine held_pure 13 (some 6) (v := Value.bool true) rfl (by kernel_rfl) (by kernel_rfl) (by kernel_rfl) rfl (fun _ _ _ h => h) (wanted_none rfl) HS (fun w hS => (ro_move (.inr rfl) (ev_eq (by decide))) w) ?_
  refine held_done (by kernel_rfl) ?_
  have hA := HAA.out
  subst hA
  simp only [Act.put, List.setIfInBounds_toArray, List.set_cons_zero, List.set_cons_succ]
  clear HAA HFr s0 s1 s5 HS
  go_wp2_with fail
  go_ret
  exact ⟨rfl, HA.out.bare⟩
set_option maxHeartbeats 8000000 in
set_option maxRecDepth 100000 in
theorem does_del (hP : PAL w u p D q (KBuf.txt D) []) (y : Int) (HG : Aside0 (Both 16 37 D (fun q => #[q, .int .i64 a, .int .i64 n]) (.int .i64 y) D')) :
    Calls Try.prog 28 #[.pointer (some ⟨p, 0, none⟩), .pointer (some ⟨q, 0, none⟩), .agg #[.int .u8 3, .int .i64 a, .int .i64 n, .int .u64 h, .int .u64 l]] u fun e u' => e = .returned (.bool true) ∧ PAL w u' p D' q (KBuf.txt D') [] := by
  have HA := Aside0.mk (hP.new (.cells #[.int .u8 3, .int .i64 a, .int .i64 n, .int .u64 h, .int .u64 l] 42)).drew
  have HB5 := Aside0.mk (HA.out.blk (b := u.heap.size) (o := .cells #[.int .u8 3, .int .i64 a, .int .i64 n, .int .u64 h, .int .u64 l] 42) (by simp))
  clear hP
  go_enter Try.func28, Try.ntmps28
  go_wp2_with fail
  refine wp_region_held_drew (S := fun x => x.heap[u.heap.size]? = some (.cells #[.int .u8 3, .int .i64 a, .int .i64 n, .int .u64 h, .int .u64 l] 42)) (by kernel_rfl) HB5.out ?_
  clear HB5; intro HS
  refine held_var (fun A hA => ?_)
  have s0 : A.eval (.tmp 0) = Value.pointer (some ⟨p, 0, none⟩) := by rw [hA]; rfl
  have s1 : A.eval (.tmp 1) = Value.pointer (some ⟨q, 0, none⟩) := by rw [hA]; rfl
  have s5 : A.eval (.tmp 5) = Value.pointer (some ⟨u.heap.size, 0, none⟩) := by rw [hA]; rfl
  haveI HFr : Fr 120 A := ⟨by rw [hA]; exact Nat.le_refl _⟩
  have HAA := Aside0.mk hA
  clear hA
  refine held_pure 0 (some 81) (v := Value.pointer (some ⟨p, 0, none⟩)) rfl (by kernel_rfl) (by kernel_rfl) (by kernel_rfl) rfl (fun _ _ _ h => h) (wanted_none rfl) HS (fun w hS => (ro_move (.inl rfl) s0) w) ?_
  refine held_pure 1 (some 82) (v := Value.pointer (some ⟨u.heap.size, 1, none⟩)) rfl (by kernel_rfl) (by kernel_rfl) (by kernel_rfl) rfl (fun _ _ _ h => h) (wanted_none rfl) HS (fun w hS => (ro_field rfl (ev_ne (by decide) s5) (fun w => by go_simp)) w) ?_
  refine held_pure 2 (some 83) (v := Value.int .i64 a) rfl (by kernel_rfl) (by kernel_rfl) (by kernel_rfl) rfl (fun _ _ _ h => h) (wanted_none rfl) HS (fun w hS => (fun w => ro_load rfl (ev_eq (by decide)) (loadI ((blk_cell hS 1).trans rfl))) w) ?_
  refine held_pure 3 (some 84) (v := Value.pointer (some ⟨u.heap.size, 2, none⟩)) rfl (by kernel_rfl) (by kernel_rfl) (by kernel_rfl) rfl (fun _ _ _ h => h) (wanted_none rfl) HS (fun w hS => (ro_field rfl (ev_ne (by decide) (ev_ne (by decide) (ev_ne (by decide) s5))) (fun w => by go_simp)) w) ?_
  refine held_pure 4 (some 85) (v := Value.int .i64 n) rfl (by kernel_rfl) (by kernel_rfl) (by kernel_rfl) rfl (fun _ _ _ h => h) (wanted_none rfl) HS (fun w hS => (fun w => ro_load rfl (ev_eq (by decide)) (loadI ((blk_cell hS 2).trans rfl))) w) ?_
  refine held_pure 6 (some 87) (v := Value.pointer (some ⟨q, 0, none⟩)) rfl (by kernel_rfl) (by kernel_rfl) (by kernel_rfl) rfl (fun _ _ _ h => h) (wanted_none rfl) HS (fun w hS => (ro_move (.inl rfl) (ev_ne (by decide) (ev_ne (by decide) (ev_ne (by decide) (ev_ne (by decide) (ev_ne (by decide) s1)))))) w) ?_
  refine held_pure 7 (some 88) (v := Value.pointer (some ⟨u.heap.size, 1, none⟩)) rfl (by kernel_rfl) (by kernel_rfl) (by kernel_rfl) rfl (fun _ _ _ h => h) (wanted_none rfl) HS (fun w hS => (ro_field rfl (ev_ne (by decide) (ev_ne (by decide) (ev_ne (by decide) (ev_ne (by decide) (ev_ne (by decide) (ev_ne (by decide) s5)))))) (fun w => by go_simp)) w) ?_
  refine held_pure 8 (some 89) (v := Value.int .i64 a) rfl (by kernel_rfl) (by kernel_rfl) (by kernel_rfl) rfl (fun _ _ _ h => h) (wanted_none rfl) HS (fun w hS => (fun w => ro_load rfl (ev_eq (by decide)) (loadI ((blk_cell hS 1).trans rfl))) w) ?_
  refine held_pure 9 (some 90) (v := Value.pointer (some ⟨u.heap.size, 2, none⟩)) rfl (by kernel_rfl) (by kernel_rfl) (by kernel_rfl) rfl (fun _ _ _ h => h) (wanted_none rfl) HS (fun w hS => (ro_field rfl (ev_ne (by decide) (ev_ne (by decide) (ev_ne (by decide) (ev_ne (by decide) (ev_ne (by decide) (ev_ne (by decide) (ev_ne (by decide) (ev_ne (by decide) s5)))))))) (fun w => by go_simp)) w) ?_
  refine held_pure 10 (some 91) (v := Value.int .i64 n) rfl (by kernel_rfl) (by kernel_rfl) (by kernel_rfl) rfl (fun _ _ _ h => h) (wanted_none rfl) HS (fun w hS => (fun w => ro_load rfl (ev_eq (by decide)) (loadI ((blk_cell hS 2).trans rfl))) w) ?_
  refine held_call 5 (some 86) 16 #[Value.pointer (some ⟨p, 0, none⟩), Value.int .i64 a, Value.int .i64 n] (by kernel_rfl) rfl rfl (wanted_none rfl) rfl (map3 (ev_ne (by decide) (ev_ne (by decide) (ev_ne (by decide) (ev_ne (by decide) (ev_ne (by decide) (ev_ne (by decide) (ev_ne (by decide) (ev_ne (by decide) (ev_ne (by decide) (ev_eq (by decide))))))))))) (ev_ne (by decide) (ev_ne (by decide) (ev_ne (by decide) (ev_ne (by decide) (ev_ne (by decide) (ev_ne (by decide) (ev_ne (by decide) (ev_eq (by decide))))))))) (ev_ne (by decide) (ev_ne (by decide) (ev_ne (by decide) (ev_ne (by decide) (ev_ne (by decide) (ev_eq (by decide)))))))) (fun args w => by kernel_rfl) (HA.out.liftB HG.out.b :) ?_
  rintro e v1 ⟨rfl, hh⟩
  clear HS HA; have HA := Aside0.mk hh; clear hh
  refine ⟨_, rfl, HA.out.blk (b := u.heap.size) (o := (.cells #[.int .u8 3, .int .i64 a, .int .i64 n, .int .u64 h, .int .u64 l] 42)) (by simp), fun HS => ?_⟩
  refine held_call 11 (some 92) 37 #[Value.pointer (some ⟨q, 0, none⟩), Value.int .i64 a, Value.int .i64 n] (by kernel_rfl) rfl rfl (wanted_none rfl) rfl (map3 (ev_ne (by decide) (ev_ne (by decide) (ev_ne (by decide) (ev_ne (by decide) (ev_ne (by decide) (ev_eq (by decide))))))) (ev_ne (by decide) (ev_ne (by decide) (ev_ne (by decide) (ev_eq (by decide))))) (ev_ne (by decide) (ev_eq (by decide)))) (fun args w => by kernel_rfl) (HA.out.liftR HG.out.r :) ?_
  rintro e v2 ⟨rfl, hh⟩
  clear HS HA; have HA := Aside0.mk hh; clear hh
  refine ⟨_, rfl, HA.out.blk (b := u.heap.size) (o := (.cells #[.int .u8 3, .int .i64 a, .int .i64 n, .int .u64 h, .int .u64 l] 42)) (by simp), fun HS => ?_⟩
  refine held_pure 12 (some 93) (v := Value.bool true) rfl (by kernel_rfl) (by kernel_rfl) (by kernel_rfl) rfl (fun _ _ _ h => h) (wanted_none rfl) HS (fun w hS => (ro_bin rfl (ev_ne (by decide) (ev_eq (by decide))) (ev_eq (by decide)) (fun w => by go_simp)) w) ?_
  refine held_pure 13 (some 6) (v := Value.bool true) rfl (by kernel_rfl) (by kernel_rfl) (by kernel_rfl) rfl (fun _ _ _ h => h) (wanted_none rfl) HS (fun w hS => (ro_move (.inr rfl) (ev_eq (by decide))) w) ?_
  refine held_done (by kernel_rfl) ?_
  have hA := HAA.out
  subst hA
  simp only [Act.put, List.setIfInBounds_toArray, List.set_cons_zero, List.set_cons_succ]
  clear HAA HFr s0 s1 s5 HS
  go_wp2_with fail
  go_ret
  exact ⟨rfl, HA.out.bare⟩
end
/-- Two buffers, and the document's one. -/
def TR (w u : World) (pa : Nat) (A : List UInt8) (pb : Nat) (B : List UInt8) (q : Nat) (s : ByteArray) : Prop :=
  ∃ ga ca gb cb, KBuf.Buf u pa ga A ca ∧ KBuf.Buf u pb gb B cb ∧ IsS60 w u q s ∧ (w.heap.size ≤ pa ∧ w.heap.size ≤ ga ∧ w.heap.size ≤ pb ∧ w.heap.size ≤ gb) ∧ (pa ≠ pb ∧ pa ≠ gb ∧ ga ≠ pb ∧ ga ≠ gb) ∧ (q ≠ pa ∧ q ≠ ga ∧ q ≠ pb ∧ q ≠ gb) ∧ Below w.heap.size w u
section
variable {w u u' : World} {p pa pb q : Nat} {D A A' B : List UInt8} {s : ByteArray}
theorem TR.smallA (h : TR w u pa A pb B q s) : A.length ≤ 9216 := by
  obtain ⟨ga, ca, gb, cb, h1, h2, h3, h4, h5, h6, h7⟩ := h; exact h1.small
theorem TR.pal (h : TR w u pa A pb B q s) : PAL w u pb B q s [] := by
  obtain ⟨ga, ca, gb, cb, h1, h2, h3, h4, h5, h6, h7⟩ := h
  exact ⟨gb, cb, h2, h3, h6.2.2.1, h6.2.2.2, h4.2.2.1, h4.2.2.2, h7, fun z hz => by cases hz⟩
theorem TR.below (h : TR w u pa A pb B q s) (hb : Below u.heap.size u u') : TR w u' pa A pb B q s := by
  obtain ⟨ga, ca, gb, cb, h1, h2, h3, h4, h5, h6, h7⟩ := h
  exact ⟨ga, ca, gb, cb, h1.below hb, h2.below hb, h3.bel2 hb, h4, h5, h6, below_step h7 hb⟩
theorem TR.liftA {f : Nat} {args : Value → Array Value} {r : Value} (h : TR w u pa A pb B q s) (hc : Acts f A args r A') :
    Calls Try.prog f (args (.pointer (some ⟨pa, 0, none⟩))) u fun e u' => e = .returned r ∧ TR w u' pa A' pb B q s := by
  obtain ⟨ga, ca, gb, cb, h1, h2, h3, h4, h5, h6, h7⟩ := h
  refine (hc u pa ga ca h1).mono fun e u' hd => ?_
  obtain ⟨he, g', cap', hB, hg, hm⟩ := hd
  have hs := h7.size
  have e1 := h2.plt
  have e2 := h2.row.lt
  have e3 := h3.lt
  have hb : Below w.heap.size w u' := h7.trans (hm.below hs (fun k hk e => by omega))
  exact ⟨he, g', cap', gb, cb, hB, h2.mod hm (fun e => by omega) (fun e => by omega), ⟨(hm.block q e3 (fun e => by omega)).trans h3.1, h3.2⟩, ⟨h4.1, by omega, h4.2.2.1, h4.2.2.2⟩, ⟨h5.1, h5.2.1, by omega, by omega⟩, ⟨h6.1, by omega, h6.2.2.1, h6.2.2.2⟩, hb⟩
theorem pal_copy (h : PAL w u p D q s []) : Calls Try.prog 25 #[.pointer (some ⟨p, 0, none⟩)] u fun e u' => ∃ c, e = .returned (.pointer (some ⟨c, 0, none⟩)) ∧ TR w u' p D c D q s := by
  obtain ⟨g, cap, h1, h2, h3, h4, h5, h6, h7, h8⟩ := h
  refine (copy_any h1).mono fun e u' hd => ?_
  obtain ⟨c, g', cap', he, hB, hq, hg, hb⟩ := hd
  have e0 := h7.size
  have e1 := h1.plt
  have e2 := h1.row.lt
  have e3 := h2.lt
  exact ⟨c, he, g, cap, g', cap', h1.below hb, hB, h2.bel2 hb, ⟨h5, h6, by omega, by omega⟩, ⟨by omega, by omega, by omega, by omega⟩, ⟨h3, h4, by omega, by omega⟩, below_step h7 hb⟩
set_option maxHeartbeats 4000000 in
set_option maxRecDepth 100000 in
theorem r_copy (hI : IsS60 w u q s) : Calls Try.prog 27 #[.pointer (some ⟨q, 0, none⟩)] u fun e u' => e = .returned (.pointer (some ⟨u.heap.size, 0, none⟩)) ∧ u' = u.alloc (.cells #[.string s] 60) := by
  have c0 := (blk_cell hI.1 0).trans (show _ = some (Value.string s) from rfl)
  clear hI
  go_enter Try.func27, Try.ntmps27
  go_wp2_with fail
  go_ret
  exact ⟨rfl, rfl⟩
theorem pal_rcopy (h : PAL w u p D q s []) : Calls Try.prog 27 #[.pointer (some ⟨q, 0, none⟩)] u fun e u' => ∃ c, e = .returned (.pointer (some ⟨c, 0, none⟩)) ∧ PAL w u' p D c s [] := by
  obtain ⟨g, cap, h1, h2, h3, h4, h5, h6, h7, h8⟩ := h
  refine (r_copy h2).mono fun e u' hd => ?_
  obtain ⟨he, rfl⟩ := hd
  have e0 := h7.size
  have e1 := h1.plt
  have e2 := h1.row.lt
  exact ⟨u.heap.size, he, g, cap, h1.alloc _, ⟨blk_new u _, e0⟩, by omega, by omega, h5, h6, below_alloc h7 _, fun z hz => by cases hz⟩
set_option maxHeartbeats 4000000 in
set_option maxRecDepth 100000 in
theorem r_new (s : ByteArray) (u : World) (hs : s.size ≤ 9216) : Calls Try.prog 26 #[.string s] u fun e u' => e = .returned (.tuple #[.pointer (some ⟨u.heap.size, 0, none⟩), .int .i64 0]) ∧ u' = u.alloc (.cells #[.string s] 60) := by
  have hd : decide ((s.size : Int) > 9216) = false := decide_eq_false (by omega)
  go_enter Try.func26, Try.ntmps26
  go_wp2_with fail
  go_ret2
  exact ⟨rfl, rfl⟩
set_option maxHeartbeats 4000000 in
set_option maxRecDepth 100000 in
theorem r_new_long (s : ByteArray) (u : World) (hs : 9216 < s.size) : Calls Try.prog 26 #[.string s] u fun e u' => e = .returned (.tuple #[.pointer none, .int .i64 5]) ∧ u = u' := by
  have hd : decide ((s.size : Int) > 9216) = true := decide_eq_true (by omega)
  go_enter Try.func26, Try.ntmps26
  go_wp2_with fail
  go_ret2
  exact ⟨rfl, rfl⟩
theorem at_rnew (h : At w u p D) (s : ByteArray) (hs : s.size ≤ 9216) : Calls Try.prog 26 #[.string s] u fun e u' => ∃ q, e = .returned (.tuple #[.pointer (some ⟨q, 0, none⟩), .int .i64 0]) ∧ PAL w u' p D q s [] := by
  obtain ⟨g, cap, h1, h2, h3, h4⟩ := h
  refine (r_new s u hs).mono fun e u' hd => ?_
  obtain ⟨he, rfl⟩ := hd
  have e0 := h4.size
  have e1 := h1.plt
  have e2 := h1.row.lt
  exact ⟨u.heap.size, he, g, cap, h1.alloc _, ⟨blk_new u _, e0⟩, by omega, by omega, h2, h3, below_alloc h4 _, fun z hz => by cases hz⟩
theorem at_new (s : ByteArray) (w u : World) (hb : Below w.heap.size w u) (hs : s.size ≤ 9216) : Calls Try.prog 24 #[.string s] u fun e u' => ∃ p, e = .returned (.tuple #[.pointer (some ⟨p, 0, none⟩), .int .i64 0]) ∧ At w u' p s.data.toList :=
  (new_ok s u hs).mono fun e u' hd => by
    obtain ⟨p, g, cap, he, hB, hp, hg, hb2⟩ := hd
    have := hb.size
    exact ⟨p, he, g, cap, hB, by omega, by omega, below_step hb hb2⟩
theorem text_acts (D : List UInt8) : Acts 17 D (fun q => #[q]) (.string (KBuf.txt D)) D := fun u p g cap hB => text_d hB
theorem len_acts (D : List UInt8) : Acts 15 D (fun q => #[q]) (.int .i64 D.length) D := fun u p g cap hB => len_d hB
theorem len_actsT (D : List UInt8) : Acts 15 D (fun q => #[q]) (.int .i64 ((KBuf.txt D).size : Nat)) D := by rw [KBuf.txt_size]; exact len_acts D
theorem put7 (D : List UInt8) (hD : D.length ≤ 9216) : ∃ y D', Acts 19 D (fun q => #[q, .int .i64 0, .int .i64 8, .agg #[.int .u64 0, .int .u64 7]]) (.int .i64 y) D' := by
  obtain ⟨y, D', _, h⟩ := put_all D hD 0 8 (by omega) (BitVec.ofNat 128 7)
  rw [val_hi 7 (by omega), val_lo 7 (by omega)] at h
  exact ⟨y, D', h⟩
/-- An act on both: they answer alike, and their texts stay alike. -/
theorem does_all (hP : PAL w u p D q (KBuf.txt D) []) (v : A5) (hv : Okay D v) (hk : v.k ≤ 4) :
    Calls Try.prog 28 #[.pointer (some ⟨p, 0, none⟩), .pointer (some ⟨q, 0, none⟩), .agg #[.int .u8 v.k, .int .i64 v.a, .int .i64 v.n, .int .u64 v.h, .int .u64 v.l]] u fun e u' => e = .returned (.bool true) ∧ ∃ D', PAL w u' p D' q (KBuf.txt D') [] := by
  obtain ⟨k, a, n, h, l⟩ := v
  obtain ⟨hD, h0, ha, hn, hh, hl⟩ := hv
  dsimp only at hk h0 ha hn hh hl ⊢
  by_cases k0 : k = 0
  · subst k0
    obtain ⟨H, L, x, HG⟩ := get_both D hD a n ha
    exact (does_get hP H L x ⟨HG⟩).mono fun e u' hd => ⟨hd.1, _, hd.2⟩
  · by_cases k1 : k = 1
    · subst k1
      obtain ⟨y, rfl, rfl⟩ := word_split h l hh hl
      obtain ⟨x, D', HG⟩ := put_both D hD a n ha y
      exact (does_put hP x ⟨HG⟩).mono fun e u' hd => ⟨hd.1, _, hd.2⟩
    · by_cases k2 : k = 2
      · subst k2
        obtain ⟨y, D', HG⟩ := ins_both D hD a n hn
        exact (does_ins hP y ⟨HG⟩).mono fun e u' hd => ⟨hd.1, _, hd.2⟩
      · by_cases k3 : k = 3
        · subst k3
          obtain ⟨y, D', HG⟩ := del_both D hD a n
          exact (does_del hP y ⟨HG⟩).mono fun e u' hd => ⟨hd.1, _, hd.2⟩
        · obtain rfl : k = 4 := by omega
          obtain ⟨v, y, HG⟩ := sum_both D hD a n
          exact (does_sum hP v y ⟨HG⟩).mono fun e u' hd => ⟨hd.1, _, hd.2⟩
end
set_option maxHeartbeats 8000000 in
set_option maxRecDepth 100000 in
theorem plays_long (s : ByteArray) (a : Option Addr) (N C : Nat) (w : World) (hs : s.size ≤ 140737488351232) (hN : N ≤ 140737488351232) (hb : 20000 < s.size) : Calls Try.prog 9 #[.string s, .slice a N C] w fun e w' => e = .returned (.bool true) ∧ Below w.heap.size w w' := by
  have h1 : decide ((s.size : Int) > 20000) = true := decide_eq_true (by omega)
  go_enter Try.func9, Try.ntmps9
  go_wp2_with fail
  go_at_call 11
  (with_reducible refine (awake_ok _).mono ?_)
  rintro e u ⟨rfl, hb⟩
  have HB := Aside0.mk hb
  clear hb
  go_wp2_with fail
  go_ret
  exact ⟨rfl, HB.out⟩
set_option maxHeartbeats 8000000 in
set_option maxRecDepth 100000 in
theorem plays_many (s : ByteArray) (a : Option Addr) (N C : Nat) (w : World) (hs : s.size ≤ 140737488351232) (hN : N ≤ 140737488351232) (hb : s.size ≤ 20000) (hc : 80 < N) : Calls Try.prog 9 #[.string s, .slice a N C] w fun e w' => e = .returned (.bool true) ∧ Below w.heap.size w w' := by
  have h1 : decide ((s.size : Int) > 20000) = false := decide_eq_false (by omega)
  have h2 : decide ((N : Int) > 80) = true := decide_eq_true (by omega)
  go_enter Try.func9, Try.ntmps9
  go_wp2_with fail
  go_at_call 11
  (with_reducible refine (awake_ok _).mono ?_)
  rintro e u ⟨rfl, hb⟩
  have HB := Aside0.mk hb
  clear hb
  go_wp2_with fail
  go_ret
  exact ⟨rfl, HB.out⟩
set_option maxHeartbeats 8000000 in
set_option maxRecDepth 100000 in
theorem plays_nil (s : ByteArray) (a : Option Addr) (N C : Nat) (w : World) (hs : s.size ≤ 20000) (hN : N ≤ 80) (hbig : 9216 < s.size) : Calls Try.prog 9 #[.string s, .slice a N C] w fun e w' => e = .returned (.bool true) ∧ Below w.heap.size w w' := by
  have h1 : decide ((s.size : Int) > 20000) = false := decide_eq_false (by omega)
  have h2 : decide ((N : Int) > 80) = false := decide_eq_false (by omega)
  go_enter Try.func9, Try.ntmps9
  go_wp2_with fail
  go_at_call 24
  (with_reducible refine (new_long s _ hbig).mono ?_)
  rintro e u ⟨rfl, rfl⟩
  go_wp2_with fail
  go_at_call 26
  (with_reducible refine (r_new_long s _ hbig).mono ?_)
  rintro e u ⟨rfl, rfl⟩
  go_wp2_with fail
  go_loopg [5, 7, 9] 0 (fun d v5 v7 v9 wr => v5 = .pointer none ∧ v7 = .pointer none ∧ v9 = .int .i64 0 ∧ wr = w)
  case atStart => exact ⟨rfl, rfl, rfl, rfl⟩
  case round =>
    obtain ⟨h5, h7, hv, hw⟩ := hrel
    subst h5 h7 hv hw
    by_cases hn : 0 < N
    all_goals
      go_wp2_with fail
      go_at_call 11
      (with_reducible refine (awake_ok _).mono ?_)
      rintro e u ⟨rfl, hb⟩
      have HB := Aside0.mk hb
      clear hb
      go_wp2_with fail
      go_ret
      exact ⟨rfl, HB.out⟩
set_option maxHeartbeats 8000000 in
set_option maxRecDepth 100000 in
theorem plays_ok (s : ByteArray) (a : Option Addr) (N C : Nat) (w : World) (hs : s.size ≤ 9216) (hN : N ≤ 80) (hNC : N ≤ C) (v : Nat → A5) (HX : Aside0 (Sl w a N v)) : Calls Try.prog 9 #[.string s, .slice a N C] w fun e w' => e = .returned (.bool true) ∧ Below w.heap.size w w' := by
  have h1 : decide ((s.size : Int) > 20000) = false := decide_eq_false (by omega)
  have h2 : decide ((N : Int) > 80) = false := decide_eq_false (by omega)
  go_enter Try.func9, Try.ntmps9
  go_wp2_with fail
  go_at_call 24
  (with_reducible refine (at_new s w _ (Below.refl _ _) hs).mono ?_)
  rintro e u ⟨p0, rfl, h⟩
  have HA := Aside0.mk h
  clear h
  go_wp2_with fail
  go_at_call 26
  (with_reducible refine (at_rnew HA.out s hs).mono ?_)
  clear HA; rintro e u1 ⟨q0, rfl, h⟩
  have HP := Aside0.mk (show PAL w u1 p0 s.data.toList q0 (KBuf.txt s.data.toList) [] by rw [KBuf.txt_data]; exact h)
  clear h
  go_wp2_with fail
  go_loopg [5, 7, 9] N (fun d v5 v7 v9 wr => ∃ (i : Nat) (D : List UInt8) (p q : Nat), v5 = .pointer (some ⟨p, 0, none⟩) ∧ v7 = .pointer (some ⟨q, 0, none⟩) ∧ v9 = .int .i64 i ∧ Aside0 (i + d = N) ∧ Aside0 (PAL w wr p D q (KBuf.txt D) []))
  case atStart => exact ⟨0, _, p0, q0, rfl, rfl, rfl, ⟨by omega⟩, HP⟩
  case round =>
    clear HP
    obtain ⟨i, D, p, q, h5, h7, hv, HD, HP⟩ := hrel
    subst h5 h7 hv
    by_cases hi : i < N
    · obtain ⟨x, ha, hlt, hact⟩ := HX.out i hi
      subst ha
      have HC := Aside0.mk hact
      have HL := Aside0.mk hlt
      have hk := hact.rk
      have hn0 : (N : Int) ≤ 80 := by omega
      clear hact hlt
      have c0 := (HC.out.below (HL.out _) HP.out.bel).c0
      by_cases hk4 : (v i).k > 4
      · have hd4 : decide ((v i).k > 4) = true := decide_eq_true hk4
        go_wp2_with fail
        clear c0
        go_at_call 25
        (with_reducible refine (pal_copy HP.out).mono ?_)
        clear HP; rintro e u2 ⟨c, rfl, h⟩; have HT := Aside0.mk h; clear h
        obtain ⟨y1, D1, _, g1⟩ := ins_all D 0 1 (by omega)
        have G1 := Aside0.mk g1; clear g1
        go_wp2_with fail
        go_at_call 14
        (with_reducible refine (HT.out.liftA G1.out).mono ?_)
        clear HT; rintro e u3 ⟨rfl, h⟩; have HT := Aside0.mk h; clear h G1
        obtain ⟨y2, D2, g2⟩ := put7 D1 HT.out.smallA
        have G2 := Aside0.mk g2; clear g2
        go_wp2_with fail
        go_at_call 19
        (with_reducible refine (HT.out.liftA G2.out).mono ?_)
        clear HT; rintro e u4 ⟨rfl, h⟩; have HT := Aside0.mk h; clear h G2
        go_wp2_with fail
        go_at_call 15
        (with_reducible refine (HT.out.liftA (len_acts D2)).mono ?_)
        clear HT; rintro e u5 ⟨rfl, h⟩; have HT := Aside0.mk h; clear h
        obtain ⟨y3, D3, _, g3⟩ := del_all D2 1 ((D2.length : Int) - 1)
        have G3 := Aside0.mk g3; clear g3
        have hl2 : (D2.length : Int) ≤ 9216 := by have := HT.out.smallA; omega
        have hl3 : (0 : Int) ≤ (D2.length : Int) := by omega
        go_wp2_with fail
        go_at_call 16
        (with_reducible refine (HT.out.liftA G3.out).mono ?_)
        clear HT; rintro e u6 ⟨rfl, h⟩; have HP := Aside0.mk h.pal; clear h G3 hl2 hl3
        go_wp2_with fail
        go_at_call 27
        (with_reducible refine (pal_rcopy HP.out).mono ?_)
        clear HP; rintro e u7 ⟨q2, rfl, h⟩; have HP := Aside0.mk h; clear h
        go_wp2_with fail
        have hh := HP.out.drew; clear HP; have HP := Aside0.mk hh; clear hh
        refine wp_region_held_drew (S := fun x => x.heap[q2]? = some (.cells #[.string (KBuf.txt D)] 60 (0, 0))) (by kernel_rfl) HP.out.ref.1 ?_
        intro HS
        refine held_var (fun A hA => ?_)
        have s5 : A.eval (.tmp 5) = Value.pointer (some ⟨c, 0, none⟩) := by rw [hA]; rfl
        have s7 : A.eval (.tmp 7) = Value.pointer (some ⟨q2, 0, none⟩) := by rw [hA]; rfl
        haveI HFr : Fr 97 A := ⟨by rw [hA]; exact Nat.le_refl _⟩
        have HAA := Aside0.mk hA
        clear hA
        refine held_pure 0 (some 79) (v := Value.pointer (some ⟨c, 0, none⟩)) rfl (by kernel_rfl) (by kernel_rfl) (by kernel_rfl) rfl (fun _ _ _ h => h) (wanted_none rfl) HS (fun w hS => (ro_move (.inl rfl) s5) w) ?_
        refine held_pure 2 (some 81) (v := Value.pointer (some ⟨q2, 0, none⟩)) rfl (by kernel_rfl) (by kernel_rfl) (by kernel_rfl) rfl (fun _ _ _ h => h) (wanted_none rfl) HS (fun w hS => (ro_move (.inl rfl) (ev_ne (by decide) s7)) w) ?_
        refine held_pure 3 (some 82) (v := Value.pointer (some ⟨q2, 0, none⟩)) rfl (by kernel_rfl) (by kernel_rfl) (by kernel_rfl) rfl (fun _ _ _ h => h) (wanted_none rfl) HS (fun w hS => (ro_nil rfl (ev_eq (by decide))) w) ?_
        refine held_pure 4 (some 83) (v := Value.pointer (some ⟨q2, 0, none⟩)) rfl (by kernel_rfl) (by kernel_rfl) (by kernel_rfl) rfl (fun _ _ _ h => h) (wanted_none rfl) HS (fun w hS => (ro_field rfl (ev_eq (by decide)) (fun w => by go_simp)) w) ?_
        refine held_pure 5 (some 84) (v := Value.string (KBuf.txt D)) rfl (by kernel_rfl) (by kernel_rfl) (by kernel_rfl) rfl (fun _ _ _ h => h) (wanted_none rfl) HS (fun w hS => (fun w => ro_load rfl (ev_eq (by decide)) (load60 hS)) w) ?_
        refine held_call 1 (some 80) 17 #[Value.pointer (some ⟨c, 0, none⟩)] (by kernel_rfl) rfl rfl (wanted_none rfl) rfl (map1 (ev_ne (by decide) (ev_ne (by decide) (ev_ne (by decide) (ev_ne (by decide) (ev_eq (by decide))))))) (fun args w => by kernel_rfl) (HP.out.liftB (text_acts D) :) ?_
        rintro e x1 ⟨rfl, hh⟩
        clear HS HP; have HP := Aside0.mk hh; clear hh
        refine ⟨_, rfl, HP.out.ref.1, fun HS => ?_⟩
        refine held_pure 6 (some 85) (v := Value.bool false) rfl (by kernel_rfl) (by kernel_rfl) (by kernel_rfl) rfl (fun _ _ _ h => h) (wanted_none rfl) HS (fun w hS => (ro_bin rfl (ev_eq (by decide)) (ev_ne (by decide) (ev_eq (by decide))) (fun w => by go_simp)) w) ?_
        refine held_pure 7 (some 86) (v := Value.bool false) rfl (by kernel_rfl) (by kernel_rfl) (by kernel_rfl) rfl (fun _ _ _ h => h) (wanted_none rfl) HS (fun w hS => (ro_move (.inl rfl) (ev_eq (by decide))) w) ?_
        refine held_pure 8 (some 87) (v := Value.pointer (some ⟨c, 0, none⟩)) rfl (by kernel_rfl) (by kernel_rfl) (by kernel_rfl) rfl (fun _ _ _ h => h) (wanted_of rfl rfl rfl (ev_eq (by decide))) HS (fun w hS => (ro_move (.inl rfl) (ev_ne (by decide) (ev_ne (by decide) (ev_ne (by decide) (ev_ne (by decide) (ev_ne (by decide) (ev_ne (by decide) (ev_ne (by decide) (ev_ne (by decide) s5))))))))) w) ?_
        refine held_pure 10 (some 89) (v := Value.pointer (some ⟨q2, 0, none⟩)) rfl (by kernel_rfl) (by kernel_rfl) (by kernel_rfl) rfl (fun _ _ _ h => h) (wanted_of rfl rfl rfl (ev_ne (by decide) (ev_eq (by decide)))) HS (fun w hS => (ro_move (.inl rfl) (ev_ne (by decide) (ev_ne (by decide) (ev_ne (by decide) (ev_ne (by decide) (ev_ne (by decide) (ev_ne (by decide) (ev_ne (by decide) (ev_ne (by decide) (ev_ne (by decide) s7)))))))))) w) ?_
        refine held_pure 11 (some 90) (v := Value.pointer (some ⟨q2, 0, none⟩)) rfl (by kernel_rfl) (by kernel_rfl) (by kernel_rfl) rfl (fun _ _ _ h => h) (wanted_of rfl rfl rfl (ev_ne (by decide) (ev_ne (by decide) (ev_eq (by decide))))) HS (fun w hS => (ro_nil rfl (ev_eq (by decide))) w) ?_
        refine held_pure 12 (some 91) (v := Value.pointer (some ⟨q2, 0, none⟩)) rfl (by kernel_rfl) (by kernel_rfl) (by kernel_rfl) rfl (fun _ _ _ h => h) (wanted_of rfl rfl rfl (ev_ne (by decide) (ev_ne (by decide) (ev_ne (by decide) (ev_eq (by decide)))))) HS (fun w hS => (ro_field rfl (ev_eq (by decide)) (fun w => by go_simp)) w) ?_
        refine held_pure 13 (some 92) (v := Value.string (KBuf.txt D)) rfl (by kernel_rfl) (by kernel_rfl) (by kernel_rfl) rfl (fun _ _ _ h => h) (wanted_of rfl rfl rfl (ev_ne (by decide) (ev_ne (by decide) (ev_ne (by decide) (ev_ne (by decide) (ev_eq (by decide))))))) HS (fun w hS => (fun w => ro_load rfl (ev_eq (by decide)) (load60 hS)) w) ?_
        refine held_pure 14 (some 93) (v := Value.int .i64 ((KBuf.txt D).size : Int)) rfl (by kernel_rfl) (by kernel_rfl) (by kernel_rfl) rfl (fun _ _ _ h => h) (wanted_of rfl rfl rfl (ev_ne (by decide) (ev_ne (by decide) (ev_ne (by decide) (ev_ne (by decide) (ev_ne (by decide) (ev_eq (by decide)))))))) HS (fun w hS => (ro_len rfl (ev_eq (by decide)) (fun w => by go_simp)) w) ?_
        refine held_call 9 (some 88) 15 #[Value.pointer (some ⟨c, 0, none⟩)] (by kernel_rfl) rfl rfl (wanted_of rfl rfl rfl (ev_ne (by decide) (ev_ne (by decide) (ev_ne (by decide) (ev_ne (by decide) (ev_ne (by decide) (ev_ne (by decide) (ev_eq (by decide))))))))) rfl (map1 (ev_ne (by decide) (ev_ne (by decide) (ev_ne (by decide) (ev_ne (by decide) (ev_ne (by decide) (ev_eq (by decide)))))))) (fun args w => by kernel_rfl) (HP.out.liftB (len_actsT D) :) ?_
        rintro e x2 ⟨rfl, hh⟩
        clear HS HP; have HP := Aside0.mk hh; clear hh
        refine ⟨_, rfl, HP.out.ref.1, fun HS => ?_⟩
        refine held_pure 15 (some 94) (v := Value.bool false) rfl (by kernel_rfl) (by kernel_rfl) (by kernel_rfl) rfl (fun _ _ _ h => h) (wanted_of rfl rfl rfl (ev_ne (by decide) (ev_ne (by decide) (ev_ne (by decide) (ev_ne (by decide) (ev_ne (by decide) (ev_ne (by decide) (ev_ne (by decide) (ev_eq (by decide)))))))))) HS (fun w hS => (ro_bin rfl (ev_eq (by decide)) (ev_ne (by decide) (ev_eq (by decide))) (fun w => by go_simp)) w) ?_
        refine held_pure 16 (some 95) (v := Value.bool false) rfl (by kernel_rfl) (by kernel_rfl) (by kernel_rfl) rfl (fun _ _ _ h => h) (wanted_none rfl) HS (fun w hS => (ro_pickf rfl (ev_ne (by decide) (ev_ne (by decide) (ev_ne (by decide) (ev_ne (by decide) (ev_ne (by decide) (ev_ne (by decide) (ev_ne (by decide) (ev_ne (by decide) (ev_eq (by decide)))))))))) (ev_eq (by decide))) w) ?_
        refine held_done (by kernel_rfl) ?_
        have hA := HAA.out
        subst hA
        simp only [Act.put, List.setIfInBounds_toArray, List.set_cons_zero, List.set_cons_succ]
        clear HAA HFr s5 s7 HS
        go_wp2_with fail
        go_roundg (N - 1 - i)
        case measure => have := HD.out; omega
        case rel => exact ⟨i + 1, D, c, q2, rfl, rfl, by go_num, ⟨by have := HD.out; omega⟩, HP⟩
      · have hd4 : decide ((v i).k > 4) = false := decide_eq_false hk4
        have c1 := (HC.out.below (HL.out _) HP.out.bel).c1
        have c2 := (HC.out.below (HL.out _) HP.out.bel).c2
        have c3 := (HC.out.below (HL.out _) HP.out.bel).c3
        have c4 := (HC.out.below (HL.out _) HP.out.bel).c4
        go_wp2_with fail
        clear c0 c1 c2 c3 c4
        go_at_call 28
        (with_reducible refine (does_all HP.out (v i) (okay_of HP.out.small HC.out) (by omega)).mono ?_)
        clear HP; rintro e u2 ⟨rfl, D', h⟩; have HP := Aside0.mk h; clear h
        go_wp2_with fail
        have hh := HP.out.drew; clear HP; have HP := Aside0.mk hh; clear hh
        refine wp_region_held_drew (S := fun x => x.heap[q]? = some (.cells #[.string (KBuf.txt D')] 60 (0, 0))) (by kernel_rfl) HP.out.ref.1 ?_
        intro HS
        refine held_var (fun A hA => ?_)
        have s5 : A.eval (.tmp 5) = Value.pointer (some ⟨p, 0, none⟩) := by rw [hA]; rfl
        have s7 : A.eval (.tmp 7) = Value.pointer (some ⟨q, 0, none⟩) := by rw [hA]; rfl
        haveI HFr : Fr 97 A := ⟨by rw [hA]; exact Nat.le_refl _⟩
        have HAA := Aside0.mk hA
        clear hA
        refine held_pure 0 (some 79) (v := Value.pointer (some ⟨p, 0, none⟩)) rfl (by kernel_rfl) (by kernel_rfl) (by kernel_rfl) rfl (fun _ _ _ h => h) (wanted_none rfl) HS (fun w hS => (ro_move (.inl rfl) s5) w) ?_
        refine held_pure 2 (some 81) (v := Value.pointer (some ⟨q, 0, none⟩)) rfl (by kernel_rfl) (by kernel_rfl) (by kernel_rfl) rfl (fun _ _ _ h => h) (wanted_none rfl) HS (fun w hS => (ro_move (.inl rfl) (ev_ne (by decide) s7)) w) ?_
        refine held_pure 3 (some 82) (v := Value.pointer (some ⟨q, 0, none⟩)) rfl (by kernel_rfl) (by kernel_rfl) (by kernel_rfl) rfl (fun _ _ _ h => h) (wanted_none rfl) HS (fun w hS => (ro_nil rfl (ev_eq (by decide))) w) ?_
        refine held_pure 4 (some 83) (v := Value.pointer (some ⟨q, 0, none⟩)) rfl (by kernel_rfl) (by kernel_rfl) (by kernel_rfl) rfl (fun _ _ _ h => h) (wanted_none rfl) HS (fun w hS => (ro_field rfl (ev_eq (by decide)) (fun w => by go_simp)) w) ?_
        refine held_pure 5 (some 84) (v := Value.string (KBuf.txt D')) rfl (by kernel_rfl) (by kernel_rfl) (by kernel_rfl) rfl (fun _ _ _ h => h) (wanted_none rfl) HS (fun w hS => (fun w => ro_load rfl (ev_eq (by decide)) (load60 hS)) w) ?_
        refine held_call 1 (some 80) 17 #[Value.pointer (some ⟨p, 0, none⟩)] (by kernel_rfl) rfl rfl (wanted_none rfl) rfl (map1 (ev_ne (by decide) (ev_ne (by decide) (ev_ne (by decide) (ev_ne (by decide) (ev_eq (by decide))))))) (fun args w => by kernel_rfl) (HP.out.liftB (text_acts D') :) ?_
        rintro e x1 ⟨rfl, hh⟩
        clear HS HP; have HP := Aside0.mk hh; clear hh
        refine ⟨_, rfl, HP.out.ref.1, fun HS => ?_⟩
        refine held_pure 6 (some 85) (v := Value.bool false) rfl (by kernel_rfl) (by kernel_rfl) (by kernel_rfl) rfl (fun _ _ _ h => h) (wanted_none rfl) HS (fun w hS => (ro_bin rfl (ev_eq (by decide)) (ev_ne (by decide) (ev_eq (by decide))) (fun w => by go_simp)) w) ?_
        refine held_pure 7 (some 86) (v := Value.bool false) rfl (by kernel_rfl) (by kernel_rfl) (by kernel_rfl) rfl (fun _ _ _ h => h) (wanted_none rfl) HS (fun w hS => (ro_move (.inl rfl) (ev_eq (by decide))) w) ?_
        refine held_pure 8 (some 87) (v := Value.pointer (some ⟨p, 0, none⟩)) rfl (by kernel_rfl) (by kernel_rfl) (by kernel_rfl) rfl (fun _ _ _ h => h) (wanted_of rfl rfl rfl (ev_eq (by decide))) HS (fun w hS => (ro_move (.inl rfl) (ev_ne (by decide) (ev_ne (by decide) (ev_ne (by decide) (ev_ne (by decide) (ev_ne (by decide) (ev_ne (by decide) (ev_ne (by decide) (ev_ne (by decide) s5))))))))) w) ?_
        refine held_pure 10 (some 89) (v := Value.pointer (some ⟨q, 0, none⟩)) rfl (by kernel_rfl) (by kernel_rfl) (by kernel_rfl) rfl (fun _ _ _ h => h) (wanted_of rfl rfl rfl (ev_ne (by decide) (ev_eq (by decide)))) HS (fun w hS => (ro_move (.inl rfl) (ev_ne (by decide) (ev_ne (by decide) (ev_ne (by decide) (ev_ne (by decide) (ev_ne (by decide) (ev_ne (by decide) (ev_ne (by decide) (ev_ne (by decide) (ev_ne (by decide) s7)))))))))) w) ?_
        refine held_pure 11 (some 90) (v := Value.pointer (some ⟨q, 0, none⟩)) rfl (by kernel_rfl) (by kernel_rfl) (by kernel_rfl) rfl (fun _ _ _ h => h) (wanted_of rfl rfl rfl (ev_ne (by decide) (ev_ne (by decide) (ev_eq (by decide))))) HS (fun w hS => (ro_nil rfl (ev_eq (by decide))) w) ?_
        refine held_pure 12 (some 91) (v := Value.pointer (some ⟨q, 0, none⟩)) rfl (by kernel_rfl) (by kernel_rfl) (by kernel_rfl) rfl (fun _ _ _ h => h) (wanted_of rfl rfl rfl (ev_ne (by decide) (ev_ne (by decide) (ev_ne (by decide) (ev_eq (by decide)))))) HS (fun w hS => (ro_field rfl (ev_eq (by decide)) (fun w => by go_simp)) w) ?_
        refine held_pure 13 (some 92) (v := Value.string (KBuf.txt D')) rfl (by kernel_rfl) (by kernel_rfl) (by kernel_rfl) rfl (fun _ _ _ h => h) (wanted_of rfl rfl rfl (ev_ne (by decide) (ev_ne (by decide) (ev_ne (by decide) (ev_ne (by decide) (ev_eq (by decide))))))) HS (fun w hS => (fun w => ro_load rfl (ev_eq (by decide)) (load60 hS)) w) ?_
        refine held_pure 14 (some 93) (v := Value.int .i64 ((KBuf.txt D').size : Int)) rfl (by kernel_rfl) (by kernel_rfl) (by kernel_rfl) rfl (fun _ _ _ h => h) (wanted_of rfl rfl rfl (ev_ne (by decide) (ev_ne (by decide) (ev_ne (by decide) (ev_ne (by decide) (ev_ne (by decide) (ev_eq (by decide)))))))) HS (fun w hS => (ro_len rfl (ev_eq (by decide)) (fun w => by go_simp)) w) ?_
        refine held_call 9 (some 88) 15 #[Value.pointer (some ⟨p, 0, none⟩)] (by kernel_rfl) rfl rfl (wanted_of rfl rfl rfl (ev_ne (by decide) (ev_ne (by decide) (ev_ne (by decide) (ev_ne (by decide) (ev_ne (by decide) (ev_ne (by decide) (ev_eq (by decide))))))))) rfl (map1 (ev_ne (by decide) (ev_ne (by decide) (ev_ne (by decide) (ev_ne (by decide) (ev_ne (by decide) (ev_eq (by decide)))))))) (fun args w => by kernel_rfl) (HP.out.liftB (len_actsT D') :) ?_
        rintro e x2 ⟨rfl, hh⟩
        clear HS HP; have HP := Aside0.mk hh; clear hh
        refine ⟨_, rfl, HP.out.ref.1, fun HS => ?_⟩
        refine held_pure 15 (some 94) (v := Value.bool false) rfl (by kernel_rfl) (by kernel_rfl) (by kernel_rfl) rfl (fun _ _ _ h => h) (wanted_of rfl rfl rfl (ev_ne (by decide) (ev_ne (by decide) (ev_ne (by decide) (ev_ne (by decide) (ev_ne (by decide) (ev_ne (by decide) (ev_ne (by decide) (ev_eq (by decide)))))))))) HS (fun w hS => (ro_bin rfl (ev_eq (by decide)) (ev_ne (by decide) (ev_eq (by decide))) (fun w => by go_simp)) w) ?_
        refine held_pure 16 (some 95) (v := Value.bool false) rfl (by kernel_rfl) (by kernel_rfl) (by kernel_rfl) rfl (fun _ _ _ h => h) (wanted_none rfl) HS (fun w hS => (ro_pickf rfl (ev_ne (by decide) (ev_ne (by decide) (ev_ne (by decide) (ev_ne (by decide) (ev_ne (by decide) (ev_ne (by decide) (ev_ne (by decide) (ev_ne (by decide) (ev_eq (by decide)))))))))) (ev_eq (by decide))) w) ?_
        refine held_done (by kernel_rfl) ?_
        have hA := HAA.out
        subst hA
        simp only [Act.put, List.setIfInBounds_toArray, List.set_cons_zero, List.set_cons_succ]
        clear HAA HFr s5 s7 HS
        go_wp2_with fail
        go_roundg (N - 1 - i)
        case measure => have := HD.out; omega
        case rel => exact ⟨i + 1, D', p, q, rfl, rfl, by go_num, ⟨by have := HD.out; omega⟩, HP⟩
    · go_wp2_with fail
      go_at_call 11
      (with_reducible refine (awake_ok _).mono ?_)
      rintro e u2 ⟨rfl, hb⟩
      have HB := Aside0.mk (below_step HP.out.bel hb)
      clear hb
      go_wp2_with fail
      go_ret
      exact ⟨rfl, HB.out⟩
theorem bufPlays {H : Type} {enc : TypeId × Value → H} {base fuel : Nat} {sp : Nat → Bool} {held : Bool} (s : ByteArray) (a : Option Addr) (N C : Nat) (w : World) (d : DataW H × List MemPlace)
    (hs : s.size ≤ 140737488351232) (hN : N ≤ 140737488351232) (h : DataW.trod enc Try.prog w base sp held fuel 39 [.slice a N C] = some d) :
    Calls Try.prog 9 #[.string s, .slice a N C] w fun e w' => e = .returned (.bool true) ∧ Below w.heap.size w w' := by
  obtain ⟨hc, v, hv⟩ := sl_of a N C w d h
  by_cases q1 : s.size ≤ 20000
  · by_cases q2 : N ≤ 80
    · by_cases q3 : s.size ≤ 9216
      · exact plays_ok s a N C w q3 q2 hc v ⟨hv⟩
      · exact plays_nil s a N C w q1 q2 (by omega)
    · exact plays_many s a N C w hs hN q1 (by omega)
  · exact plays_long s a N C w hs hN (by omega)
end Go.Proofs.Ytdjdgkjikibgaaa.PBuf
