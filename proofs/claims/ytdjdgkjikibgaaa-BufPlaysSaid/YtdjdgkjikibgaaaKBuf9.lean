/- A buffer, and two of them, that a walk has made: what each function does with them. -/
import Derived.Test.YtdjdgkjikibgaaaKBuf8
namespace Go.Proofs.Ytdjdgkjikibgaaa.PBuf
open Go.RowKit Go.Proofs.YtdjdgkjikibgaaaW.PrintWords Go.Proofs.YtdjdgkjikibgaaaW.PrintLast Go.Proofs.YtdjdgkjikibgaaaW.PrintMore Go.Proofs.Ytdjdgkjikibgaaa.KBuf
set_option linter.unusedVariables false
set_option linter.unusedSimpArgs false
def Does (u : World) (p g : Nat) (D' : List UInt8) (r : Value) (e : Ending) (u' : World) : Prop :=
  e = .returned r ∧ ∃ g' cap', KBuf.Buf u' p g' D' cap' ∧ (g' = g ∨ u.heap.size ≤ g') ∧ KBuf.Mod (fun k => k = p ∨ k = g) u u'
def At (w u : World) (p : Nat) (D : List UInt8) : Prop :=
  ∃ g cap, KBuf.Buf u p g D cap ∧ w.heap.size ≤ p ∧ w.heap.size ≤ g ∧ Below w.heap.size w u
def Two (w u : World) (pa : Nat) (A : List UInt8) (pb : Nat) (B : List UInt8) : Prop :=
  ∃ ga ca gb cb, KBuf.Buf u pa ga A ca ∧ KBuf.Buf u pb gb B cb ∧ w.heap.size ≤ pa ∧ w.heap.size ≤ ga ∧ w.heap.size ≤ pb ∧ w.heap.size ≤ gb ∧ pa ≠ pb ∧ pa ≠ gb ∧ ga ≠ pb ∧ ga ≠ gb ∧ Below w.heap.size w u
theorem Two.symm {w u : World} {pa pb : Nat} {A B : List UInt8} (h : Two w u pa A pb B) : Two w u pb B pa A := by
  obtain ⟨ga, ca, gb, cb, h1, h2, h3, h4, h5, h6, h7, h8, h9, h10, h11⟩ := h
  exact ⟨gb, cb, ga, ca, h2, h1, h5, h6, h3, h4, h7.symm, h9.symm, h8.symm, h10.symm, h11⟩
theorem Two.bel {w u : World} {pa pb : Nat} {A B : List UInt8} (h : Two w u pa A pb B) : Below w.heap.size w u := by
  obtain ⟨ga, ca, gb, cb, h1, h2, h3, h4, h5, h6, h7, h8, h9, h10, h11⟩ := h
  exact h11
theorem At.bel {w u : World} {p : Nat} {D : List UInt8} (h : At w u p D) : Below w.heap.size w u := by
  obtain ⟨g, cap, h1, h2, h3, h4⟩ := h
  exact h4
theorem At.below {w u u' : World} {p : Nat} {D : List UInt8} (h : At w u p D) (hb : Below u.heap.size u u') : At w u' p D := by
  obtain ⟨g, cap, h1, h2, h3, h4⟩ := h
  exact ⟨g, cap, h1.below hb, h2, h3, below_step h4 hb⟩
theorem At.small {w u : World} {p : Nat} {D : List UInt8} (h : At w u p D) : D.length ≤ 9216 := by
  obtain ⟨g, cap, h1, h2, h3, h4⟩ := h
  exact h1.small
theorem At.lift {P : Program} {w u : World} {p f : Nat} {D D' : List UInt8} {args : Array Value} {r : Value} (h : At w u p D)
    (hc : ∀ g cap, KBuf.Buf u p g D cap → Calls P f args u (Does u p g D' r)) : Calls P f args u fun e u' => e = .returned r ∧ At w u' p D' := by
  obtain ⟨g, cap, h1, h2, h3, h4⟩ := h
  refine (hc g cap h1).mono fun e u' hd => ?_
  obtain ⟨he, g', cap', hB, hg, hm⟩ := hd
  have hs := h4.size
  have h5 : Below w.heap.size u u' := hm.below hs (fun k hk e => by omega)
  exact ⟨he, g', cap', hB, h2, by omega, h4.trans h5⟩
theorem Two.lift {P : Program} {w u : World} {p q f : Nat} {D D' B : List UInt8} {args : Array Value} {r : Value} (h : Two w u p D q B)
    (hc : ∀ g cap, KBuf.Buf u p g D cap → Calls P f args u (Does u p g D' r)) : Calls P f args u fun e u' => e = .returned r ∧ Two w u' p D' q B := by
  obtain ⟨ga, ca, gb, cb, h1, h2, h3, h4, h5, h6, h7, h8, h9, h10, h11⟩ := h
  refine (hc ga ca h1).mono fun e u' hd => ?_
  obtain ⟨he, g', cap', hB, hg, hm⟩ := hd
  have hs := h11.size
  have hB2 : KBuf.Buf u' q gb B cb := h2.mod hm (fun e => by omega) (fun e => by omega)
  have hl1 := h2.plt
  have hl2 := h2.row.lt
  have hb : Below w.heap.size u u' := hm.below hs (fun k hk e => by omega)
  exact ⟨he, g', cap', gb, cb, hB, hB2, h3, by omega, h5, h6, h7, h8, by omega, by omega, h11.trans hb⟩
section
variable {u : World} {p g cap : Nat} {D : List UInt8}
theorem Does.same (h : KBuf.Buf u p g D cap) {r : Value} : ∀ e u', (e = .returned r ∧ u = u') → Does u p g D r e u' := by
  rintro e u' ⟨he, rfl⟩
  exact ⟨he, g, cap, h, .inl rfl, KBuf.Mod.refl _ _⟩
theorem Does.bel (h : KBuf.Buf u p g D cap) {r : Value} : ∀ e u', (e = .returned r ∧ Below u.heap.size u u') → Does u p g D r e u' := by
  rintro e u' ⟨he, hb⟩
  exact ⟨he, g, cap, h.below hb, .inl rfl, KBuf.Mod.of_below hb⟩
theorem text_d (h : KBuf.Buf u p g D cap) : Calls Try.prog 17 #[.pointer (some ⟨p, 0, none⟩)] u (Does u p g D (.string (KBuf.txt D))) := (text_any h).mono (Does.same h)
theorem len_d (h : KBuf.Buf u p g D cap) : Calls Try.prog 15 #[.pointer (some ⟨p, 0, none⟩)] u (Does u p g D (.int .i64 D.length)) := (len_any h).mono (Does.same h)
theorem ins_d (h : KBuf.Buf u p g D cap) (a n : Nat) (ha : a ≤ D.length) (hn : D.length + n ≤ 9216) :
    Calls Try.prog 14 #[.pointer (some ⟨p, 0, none⟩), .int .i64 a, .int .i64 n] u (Does u p g (D.take a ++ List.replicate n 0 ++ D.drop a) (.int .i64 0)) :=
  (insert_any h a n ha hn).mono fun e u' hd => by
    obtain ⟨he, g', cap', hB, hg, hm⟩ := hd
    exact ⟨he, g', cap', hB, hg, hm.mono (fun k _ e => .inl e)⟩
theorem del_d (h : KBuf.Buf u p g D cap) (a n : Nat) (ha : a + n ≤ D.length) :
    Calls Try.prog 16 #[.pointer (some ⟨p, 0, none⟩), .int .i64 a, .int .i64 n] u (Does u p g (D.take a ++ D.drop (a + n)) (.int .i64 0)) :=
  (delete_ok h a n ha).mono fun e u' hd => by
    obtain ⟨he, hB, hm⟩ := hd
    exact ⟨he, g, cap, hB, .inl rfl, hm⟩
theorem put_d (h : KBuf.Buf u p g D cap) (o n : Nat) (k : Nat) (lo hi : Int) (s : ByteArray) (hn : 1 ≤ n) (hn' : n ≤ 128) (ho : o + n ≤ 8 * D.length) (hs : s.size = (o + n + 7) / 8 - o / 8)
    (HP : Aside0 (field_Put.f k (KBuf.txt (win D o n)) ((o : Int) - 8 * ((o : Int) / 8)) n hi lo = some (s, 0))) :
    Calls Try.prog 19 #[.pointer (some ⟨p, 0, none⟩), .int .i64 o, .int .i64 n, .agg #[.int .u64 hi, .int .u64 lo]] u (Does u p g (D.take (o / 8) ++ s.data.toList ++ D.drop (o / 8 + s.size)) (.int .i64 0)) :=
  (put_ok h o n k lo hi s hn hn' ho hs HP).mono fun e u' hd => by
    obtain ⟨he, hB, hm⟩ := hd
    exact ⟨he, g, cap, hB, .inl rfl, hm.mono (fun k _ e => .inr e)⟩
theorem get_d (h : KBuf.Buf u p g D cap) (o n : Nat) (k : Nat) (r1 r2 : Int) (hn : 1 ≤ n) (hn' : n ≤ 128) (ho : o + n ≤ 8 * D.length) (HG : Aside0 (field_Get.f k (KBuf.txt (win D o n)) ((o : Int) - 8 * ((o : Int) / 8)) n = some (r1, r2, 0))) :
    Calls Try.prog 18 #[.pointer (some ⟨p, 0, none⟩), .int .i64 o, .int .i64 n] u (Does u p g D (.tuple #[.agg #[.int .u64 r1, .int .u64 r2], .int .i64 0])) := (get_ok h o n k r1 r2 hn hn' ho HG).mono (Does.bel h)
theorem sum_d (h : KBuf.Buf u p g D cap) (a n : Nat) (k : Nat) (r : Int) (ha : a + n ≤ D.length) (HS : Aside0 (sum_Sum.f k [KBuf.txt (part D a n)] = some r)) :
    Calls Try.prog 21 #[.pointer (some ⟨p, 0, none⟩), .int .i64 a, .int .i64 n] u (Does u p g D (.tuple #[.int .u16 r, .int .i64 0])) := (sum_ok h a n k r ha HS).mono (Does.bel h)
theorem insbad_d (h : KBuf.Buf u p g D cap) (a n m : Int) (hm : Builtin.min_ #[3, 3] 3 #[.int .i64 n, .int .i64 0] = pure (.int .i64 m)) (x : Int) (hx : offE D.length a m = x) (hne : x ≠ 0) :
    Calls Try.prog 14 #[.pointer (some ⟨p, 0, none⟩), .int .i64 a, .int .i64 n] u (Does u p g D (.int .i64 x)) := (insert_bad h a n m hm x hx hne).mono (Does.same h)
theorem delbad_d (h : KBuf.Buf u p g D cap) (a n : Int) (x : Int) (hx : offE D.length a n = x) (hne : x ≠ 0) :
    Calls Try.prog 16 #[.pointer (some ⟨p, 0, none⟩), .int .i64 a, .int .i64 n] u (Does u p g D (.int .i64 x)) := (delete_bad h a n x hx hne).mono (Does.same h)
end
theorem of_at (s : ByteArray) (w u : World) (hb : Below w.heap.size w u) (hs : s.size ≤ 9216) : Calls Try.prog 13 #[.string s] u fun e u' => ∃ p, e = .returned (.pointer (some ⟨p, 0, none⟩)) ∧ At w u' p s.data.toList :=
  (of_ok s u hs).mono fun e u' hd => by
    obtain ⟨p, g, cap, he, hB, hp, hg, hb2⟩ := hd
    have := hb.size
    exact ⟨p, he, g, cap, hB, by omega, by omega, below_step hb hb2⟩
theorem of_two (s : ByteArray) {w u : World} {p : Nat} {D : List UInt8} (h : At w u p D) (hs : s.size ≤ 9216) : Calls Try.prog 13 #[.string s] u fun e u' => ∃ q, e = .returned (.pointer (some ⟨q, 0, none⟩)) ∧ Two w u' p D q s.data.toList :=
  (of_ok s u hs).mono fun e u' hd => by
    obtain ⟨q, g, cap, he, hB, hq, hg, hb2⟩ := hd
    obtain ⟨ga, ca, h1, h2, h3, h4⟩ := h
    have := h4.size
    have hl1 := h1.plt
    have hl2 := h1.row.lt
    exact ⟨q, he, ga, ca, g, cap, h1.below hb2, hB, h2, h3, by omega, by omega, by omega, by omega, by omega, by omega, below_step h4 hb2⟩
section
variable {w u : World} {p : Nat}
theorem aw_ins (h : At w u p [1, 2, 3]) : Calls Try.prog 14 #[.pointer (some ⟨p, 0, none⟩), .int .i64 1, .int .i64 2] u fun e u' => e = .returned (.int .i64 0) ∧ At w u' p [1, 0, 0, 2, 3] :=
  h.lift fun g cap hB => ins_d hB 1 2 (by decide) (by decide)
theorem aw_text1 (h : At w u p [1, 0, 0, 2, 3]) : Calls Try.prog 17 #[.pointer (some ⟨p, 0, none⟩)] u fun e u' => e = .returned (.string ⟨#[1, 0, 0, 2, 3]⟩) ∧ At w u' p [1, 0, 0, 2, 3] :=
  h.lift fun g cap hB => text_d hB
theorem aw_del (h : At w u p [1, 0, 0, 2, 3]) : Calls Try.prog 16 #[.pointer (some ⟨p, 0, none⟩), .int .i64 0, .int .i64 3] u fun e u' => e = .returned (.int .i64 0) ∧ At w u' p [2, 3] :=
  h.lift fun g cap hB => del_d hB 0 3 (by decide)
theorem aw_text2 (h : At w u p [2, 3]) : Calls Try.prog 17 #[.pointer (some ⟨p, 0, none⟩)] u fun e u' => e = .returned (.string ⟨#[2, 3]⟩) ∧ At w u' p [2, 3] :=
  h.lift fun g cap hB => text_d hB
theorem aw_get (h : At w u p [2, 3]) : Calls Try.prog 18 #[.pointer (some ⟨p, 0, none⟩), .int .i64 4, .int .i64 8] u fun e u' => e = .returned (.tuple #[.agg #[.int .u64 0, .int .u64 32], .int .i64 0]) ∧ At w u' p [2, 3] :=
  h.lift fun g cap hB => get_d hB 4 8 60 0 32 (by decide) (by decide) (by decide) ⟨by kernel_rfl⟩
theorem aw_put (h : At w u p [2, 3]) : Calls Try.prog 19 #[.pointer (some ⟨p, 0, none⟩), .int .i64 4, .int .i64 8, .agg #[.int .u64 0, .int .u64 171]] u fun e u' => e = .returned (.int .i64 0) ∧ At w u' p [10, 179] :=
  h.lift fun g cap hB => put_d hB 4 8 60 171 0 ⟨#[10, 179]⟩ (by decide) (by decide) (by decide) rfl ⟨by kernel_rfl⟩
theorem aw_text3 (h : At w u p [10, 179]) : Calls Try.prog 17 #[.pointer (some ⟨p, 0, none⟩)] u fun e u' => e = .returned (.string ⟨#[10, 179]⟩) ∧ At w u' p [10, 179] :=
  h.lift fun g cap hB => text_d hB
theorem aw_sum1 (h : At w u p [10, 179]) : Calls Try.prog 21 #[.pointer (some ⟨p, 0, none⟩), .int .i64 0, .int .i64 2] u fun e u' => e = .returned (.tuple #[.int .u16 2739, .int .i64 0]) ∧ At w u' p [10, 179] :=
  h.lift fun g cap hB => sum_d hB 0 2 60 2739 (by decide) ⟨by kernel_rfl⟩
theorem aw_sum2 (h : At w u p [10, 179]) : Calls Try.prog 21 #[.pointer (some ⟨p, 0, none⟩), .int .i64 1, .int .i64 1] u fun e u' => e = .returned (.tuple #[.int .u16 45824, .int .i64 0]) ∧ At w u' p [10, 179] :=
  h.lift fun g cap hB => sum_d hB 1 1 60 45824 (by decide) ⟨by kernel_rfl⟩
theorem aw_del2 (h : At w u p [10, 179]) : Calls Try.prog 16 #[.pointer (some ⟨p, 0, none⟩), .int .i64 1, .int .i64 2] u fun e u' => e = .returned (.int .i64 4) ∧ At w u' p [10, 179] :=
  h.lift fun g cap hB => delbad_d hB 1 2 4 (by decide) (by decide)
theorem aw_ins2 (h : At w u p [10, 179]) : Calls Try.prog 14 #[.pointer (some ⟨p, 0, none⟩), .int .i64 3, .int .i64 0] u fun e u' => e = .returned (.int .i64 4) ∧ At w u' p [10, 179] :=
  h.lift fun g cap hB => insbad_d hB 3 0 0 (min_zero 0 _ _) 4 (by decide) (by decide)
theorem aw_ins3 (h : At w u p [10, 179]) : Calls Try.prog 14 #[.pointer (some ⟨p, 0, none⟩), .int .i64 2, .int .i64 0] u fun e u' => e = .returned (.int .i64 0) ∧ At w u' p [10, 179] :=
  h.lift fun g cap hB => ins_d hB 2 0 (by decide) (by decide)
theorem aw_len (h : At w u p [10, 179]) : Calls Try.prog 15 #[.pointer (some ⟨p, 0, none⟩)] u fun e u' => e = .returned (.int .i64 2) ∧ At w u' p [10, 179] :=
  h.lift fun g cap hB => len_d hB
end
set_option maxHeartbeats 8000000 in
set_option maxRecDepth 100000 in
theorem awake_ok (w : World) : Calls Try.prog 11 #[] w fun e w' => e = .returned (.bool true) ∧ Below w.heap.size w w' := by
  go_enter Try.func11, Try.ntmps11
  go_wp2_with fail
  go_at_call 13
  (with_reducible refine (of_at ⟨#[1, 2, 3]⟩ w _ (Below.refl _ _) (by decide)).mono ?_)
  rintro e u ⟨p, rfl, h⟩
  have HA := Aside0.mk (show At w u p [1, 2, 3] from h)
  clear h
  go_wp2_with fail
  go_at_call 14
  (with_reducible refine (aw_ins HA.out).mono ?_)
  clear HA; rintro e u2 ⟨rfl, h⟩; have HA := Aside0.mk h; clear h
  go_wp2_with fail
  go_at_call 17
  (with_reducible refine (aw_text1 HA.out).mono ?_)
  clear HA; rintro e u3 ⟨rfl, h⟩; have HA := Aside0.mk h; clear h
  go_wp2_with fail
  go_at_call 16
  (with_reducible refine (aw_del HA.out).mono ?_)
  clear HA; rintro e u4 ⟨rfl, h⟩; have HA := Aside0.mk h; clear h
  go_wp2_with fail
  go_at_call 17
  (with_reducible refine (aw_text2 HA.out).mono ?_)
  clear HA; rintro e u5 ⟨rfl, h⟩; have HA := Aside0.mk h; clear h
  go_wp2_with fail
  go_at_call 18
  (with_reducible refine (aw_get HA.out).mono ?_)
  clear HA; rintro e u6 ⟨rfl, h⟩; have HA := Aside0.mk h; clear h
  go_wp2_with fail
  have h := HA.out.below (below_alloc (Below.refl _ _) (.cells #[.int .u64 0, .int .u64 32] 32)); clear HA; have HA := Aside0.mk h; clear h
  go_at_call 19
  (with_reducible refine (aw_put HA.out).mono ?_)
  clear HA; rintro e u7 ⟨rfl, h⟩; have HA := Aside0.mk h; clear h
  go_wp2_with fail
  go_at_call 17
  (with_reducible refine (aw_text3 HA.out).mono ?_)
  clear HA; rintro e u8 ⟨rfl, h⟩; have HA := Aside0.mk h; clear h
  go_wp2_with fail
  go_at_call 21
  (with_reducible refine (aw_sum1 HA.out).mono ?_)
  clear HA; rintro e u9 ⟨rfl, h⟩; have HA := Aside0.mk h; clear h
  go_wp2_with fail
  go_at_call 21
  (with_reducible refine (aw_sum2 HA.out).mono ?_)
  clear HA; rintro e u10 ⟨rfl, h⟩; have HA := Aside0.mk h; clear h
  go_wp2_with fail
  go_at_call 16
  (with_reducible refine (aw_del2 HA.out).mono ?_)
  clear HA; rintro e u11 ⟨rfl, h⟩; have HA := Aside0.mk h; clear h
  go_wp2_with fail
  go_at_call 14
  (with_reducible refine (aw_ins2 HA.out).mono ?_)
  clear HA; rintro e u12 ⟨rfl, h⟩; have HA := Aside0.mk h; clear h
  go_wp2_with fail
  go_at_call 14
  (with_reducible refine (aw_ins3 HA.out).mono ?_)
  clear HA; rintro e u13 ⟨rfl, h⟩; have HA := Aside0.mk h; clear h
  go_wp2_with fail
  go_at_call 15
  (with_reducible refine (aw_len HA.out).mono ?_)
  clear HA; rintro e u14 ⟨rfl, h⟩; have HA := Aside0.mk h; clear h
  go_wp2_with fail
  go_ret
  exact ⟨rfl, HA.out.bel⟩
end Go.Proofs.Ytdjdgkjikibgaaa.PBuf
