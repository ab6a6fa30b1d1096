/- BufNames by hand: the contracts at its places. -/
import Derived.Test.YtdjdgkjikibgaaaKNil
namespace Go.Proofs.Ytdjdgkjikibgaaa.PBuf
open Go.RowKit Go.Proofs.YtdjdgkjikibgaaaW.PrintWords Go.Proofs.YtdjdgkjikibgaaaW.PrintLast Go.Proofs.YtdjdgkjikibgaaaW.PrintMore
set_option linter.unusedVariables false
set_option linter.unusedSimpArgs false
/-- A buffer, and a block beside it that stays. -/
def AtB (w u : World) (p : Nat) (D : List UInt8) (b : Nat) (o : Obj) : Prop :=
  ∃ g cap, KBuf.Buf u p g D cap ∧ w.heap.size ≤ p ∧ w.heap.size ≤ g ∧ Below w.heap.size w u ∧ u.heap[b]? = some o ∧ b ≠ p ∧ b ≠ g
theorem At.keep {w u : World} {p : Nat} {D : List UInt8} (h : At w u p D) (o : Obj) : AtB w (u.alloc o) p D u.heap.size o := by
  obtain ⟨g, cap, h1, h2, h3, h4⟩ := h
  have hl1 := h1.plt
  have hl2 := h1.row.lt
  exact ⟨g, cap, h1.alloc o, h2, h3, below_alloc h4 o, blk_new u o, by omega, by omega⟩
theorem AtB.at {w u : World} {p b : Nat} {D : List UInt8} {o : Obj} (h : AtB w u p D b o) : At w u p D := by
  obtain ⟨g, cap, h1, h2, h3, h4, h5, h6, h7⟩ := h
  exact ⟨g, cap, h1, h2, h3, h4⟩
theorem AtB.blk {w u : World} {p b : Nat} {D : List UInt8} {o : Obj} (h : AtB w u p D b o) : u.heap[b]? = some o := by
  obtain ⟨g, cap, h1, h2, h3, h4, h5, h6, h7⟩ := h
  exact h5
theorem AtB.below {w u u' : World} {p b : Nat} {D : List UInt8} {o : Obj} (h : AtB w u p D b o) (hb : Below u.heap.size u u') : AtB w u' p D b o := by
  obtain ⟨g, cap, h1, h2, h3, h4, h5, h6, h7⟩ := h
  exact ⟨g, cap, h1.below hb, h2, h3, below_step h4 hb, blk_below h5 hb, h6, h7⟩
theorem AtB.lift {P : Program} {w u : World} {p f b : Nat} {o : Obj} {D D' : List UInt8} {args : Array Value} {r : Value} (h : AtB w u p D b o)
    (hc : ∀ g cap, KBuf.Buf u p g D cap → Calls P f args u (Does u p g D' r)) : Calls P f args u fun e u' => e = .returned r ∧ AtB w u' p D' b o := by
  obtain ⟨g, cap, h1, h2, h3, h4, h5, h6, h7⟩ := h
  refine (hc g cap h1).mono fun e u' hd => ?_
  obtain ⟨he, g', cap', hB, hg, hm⟩ := hd
  have hs := h4.size
  have hlt := blk_lt h5
  have h8 : Below w.heap.size u u' := hm.below hs (fun k hk e => by omega)
  exact ⟨he, g', cap', hB, h2, by omega, h4.trans h8, (hm.block b hlt (fun e => by omega)).trans h5, h6, by omega⟩
theorem min_neg (ats : Array TypeId) (ty : TypeId) : Builtin.min_ ats ty #[.int .i64 (-1), .int .i64 0] = pure (.int .i64 (-1)) := by
  have e1 : (if (0 : Int) < -1 then (0 : Int) else -1) = -1 := by decide
  simp only [min_two, min2_int, gt_iff_lt, pure_bind, e1, bind_pure]
def zz : List UInt8 := List.replicate 9216 0
def zo : List UInt8 := List.replicate 9215 0 ++ [1]
theorem zz_len : zz.length = 9216 := by unfold zz; rw [List.length_replicate]
theorem zo_len : zo.length = 9216 := by unfold zo; rw [List.length_append, List.length_replicate]; rfl
theorem offE_eq {D : List UInt8} (hD : D.length = 9216) (a n x : Int) (h : offE 9216 a n = x) : offE D.length a n = x := by rw [hD]; exact h
section
variable {w u : World} {p : Nat} {D : List UInt8}
theorem nm_insbad (h : At w u p D) (hD : D.length = 9216) (a n m x : Int) (hm : Builtin.min_ #[3, 3] 3 #[.int .i64 n, .int .i64 0] = pure (.int .i64 m)) (hx : offE 9216 a m = x) (hne : x ≠ 0) :
    Calls Try.prog 14 #[.pointer (some ⟨p, 0, none⟩), .int .i64 a, .int .i64 n] u fun e u' => e = .returned (.int .i64 x) ∧ At w u' p D :=
  h.lift fun g cap hB => insbad_d hB a n m hm x (offE_eq hD _ _ _ hx) hne
theorem nm_delbad (h : At w u p D) (hD : D.length = 9216) (a n x : Int) (hx : offE 9216 a n = x) (hne : x ≠ 0) :
    Calls Try.prog 16 #[.pointer (some ⟨p, 0, none⟩), .int .i64 a, .int .i64 n] u fun e u' => e = .returned (.int .i64 x) ∧ At w u' p D :=
  h.lift fun g cap hB => delbad_d hB a n x (offE_eq hD _ _ _ hx) hne
theorem nm_inslong (h : At w u p D) (hD : D.length = 9216) (a : Nat) (ai n : Int) (hai : ai = a) (ha : a ≤ 9216) (hn : 0 < n) (hn2 : n ≤ 9223372036854775807) :
    Calls Try.prog 14 #[.pointer (some ⟨p, 0, none⟩), .int .i64 ai, .int .i64 n] u fun e u' => e = .returned (.int .i64 5) ∧ At w u' p D := by
  subst hai
  exact h.lift fun g cap hB => (insert_long hB a n (by omega) (by omega) hn2).mono (Does.same hB)
theorem nm_putbad (h : At w u p D) (hD : D.length = 9216) (o n hi lo x : Int) (hb0 : o < 0 ∨ n < 1 ∨ 128 < n ∨ 73728 - n < o) (ho1 : -9223372036854775808 ≤ o) (ho2 : o ≤ 9223372036854775807)
    (hx : (if n < 1 ∨ n > 128 ∨ o < 0 then 1 else if o > 8 * (9216 : Int) - n then 4 else 0) = x) (hne : x ≠ 0) :
    Calls Try.prog 19 #[.pointer (some ⟨p, 0, none⟩), .int .i64 o, .int .i64 n, .agg #[.int .u64 hi, .int .u64 lo]] u fun e u' => e = .returned (.int .i64 x) ∧ At w u' p D := by
  have hm : MField.may (KBuf.txt D) o n = x := by
    unfold MField.may
    rw [KBuf.txt_size, hD]
    exact hx
  obtain ⟨K, hK⟩ := MPut.put_bad (KBuf.txt D) o n hi lo (by rw [KBuf.txt_size]; omega) (by rw [hm]; exact hne)
  have hk := hK K (Nat.le_refl K)
  rw [hm] at hk
  exact h.lift fun g cap hB => (put_bad hB o n K lo hi _ x (by rw [hD]; omega) ho1 ho2 hne ⟨hk⟩).mono (Does.bel hB)
theorem nm_getbad (h : At w u p D) (hD : D.length = 9216) (o n x : Int) (hb0 : o < 0 ∨ n < 1 ∨ 128 < n ∨ 73728 - n < o) (ho1 : -9223372036854775808 ≤ o) (ho2 : o ≤ 9223372036854775807)
    (hx : (if n < 1 ∨ n > 128 ∨ o < 0 then 1 else if o > 8 * (9216 : Int) - n then 4 else 0) = x) (hne : x ≠ 0) (g : Nat) (cap : Nat) (hB : KBuf.Buf u p g D cap) :
    Calls Try.prog 18 #[.pointer (some ⟨p, 0, none⟩), .int .i64 o, .int .i64 n] u (Does u p g D (.tuple #[.agg #[.int .u64 0, .int .u64 0], .int .i64 x])) := by
  have hm : MField.may (KBuf.txt D) o n = x := by
    unfold MField.may
    rw [KBuf.txt_size, hD]
    exact hx
  obtain ⟨K, hK⟩ := MField.get_bad (KBuf.txt D) o n (by rw [KBuf.txt_size]; omega) (by rw [hm]; exact hne)
  have hk := hK K (Nat.le_refl K)
  rw [hm] at hk
  exact (get_bad hB o n K _ _ (by rw [hD]; omega) ho1 ho2 x ⟨hk⟩).mono (Does.bel hB)
theorem nm_sumbad {b : Nat} {o : Obj} (h : AtB w u p D b o) (hD : D.length = 9216) (a n x : Int) (hx : offE 9216 a n = x) (hne : x ≠ 0) :
    Calls Try.prog 21 #[.pointer (some ⟨p, 0, none⟩), .int .i64 a, .int .i64 n] u fun e u' => e = .returned (.tuple #[.int .u16 0, .int .i64 x]) ∧ AtB w u' p D b o :=
  h.lift fun g cap hB => (sum_bad hB a n x (offE_eq hD _ _ _ hx) hne).mono (Does.same hB)
end
theorem W_zero : ∀ (n : Nat) (h : Bool), MSum.W h (List.replicate n 0) = 0
  | 0, _ => rfl
  | n + 1, h => by
    rw [List.replicate_succ]
    have := W_zero n
    cases h <;> simp [MSum.W, this]
theorem zo_sum : sumV zo = 1 := by
  unfold sumV zo
  rw [MSum.W_append, W_zero, MSum.hi_even, List.length_replicate]
  decide
theorem zo_cut : zo.take 1 ++ zo.drop (1 + 9214) = [0, 1] := by
  have h1 : zo.drop 9215 = [1] := List.drop_left' (by rw [List.length_replicate])
  have h2 : zo.take 1 = [0] := by
    unfold zo
    rw [show (9215 : Nat) = 9214 + 1 from rfl, List.replicate_succ]; rfl
  rw [show 1 + 9214 = 9215 from rfl, h1, h2]; rfl
theorem zz_win : win zz 73727 1 = [0] := by
  unfold win zz
  rw [show 73727 / 8 = 9215 from rfl, show (73727 + 1 + 7) / 8 - 9215 = 1 from rfl, List.drop_replicate]; rfl
theorem zz_put : zz.take 9215 ++ [1] ++ zz.drop (9215 + 1) = zo := by
  unfold zz zo
  rw [List.take_replicate, List.drop_replicate, show min 9215 9216 = 9215 from rfl, show 9216 - (9215 + 1) = 0 from rfl]
  exact List.append_nil _
theorem zo_last : zo.getD 9215 0 = 1 := by
  unfold zo
  rw [List.getD_eq_getElem?_getD, List.getElem?_append_right (by rw [List.length_replicate]; omega), List.length_replicate]; rfl
end Go.Proofs.Ytdjdgkjikibgaaa.PBuf
