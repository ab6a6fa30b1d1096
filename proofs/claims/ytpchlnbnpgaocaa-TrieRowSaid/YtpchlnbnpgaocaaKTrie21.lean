/- Tries, plain: the order of a tree's items. -/
import Derived.Test.YtpchlnbnpgaocaaKTrie17
import Derived.Test.YtpchlnbnpgaocaaKTrie20
namespace Go.Proofs.Ytpchlnbnpgaocaa.PTrie
open Go.Proofs.Ytpchlnbnpgaocaa.KTree Go.Proofs.Ytpchlnbnpgaocaa.KReg Go.Proofs.Ytpchlnbnpgaocaa.KBits Go.RowKit Go.Proofs.YtpchlnbnpgaocaaW.PrintWords Go.Proofs.YtpchlnbnpgaocaaW.PrintLast Go.Proofs.YtpchlnbnpgaocaaW.PrintMore
set_option linter.unusedVariables false
set_option linter.unusedSimpArgs false
/-- a stands ahead of b: it is a beginning of b, or has a 0 where b has a 1. -/
def Lx (a b : List Bool) : Prop := (∃ c, c ≠ [] ∧ b = a ++ c) ∨ ∃ p x y, a = p ++ false :: x ∧ b = p ++ true :: y
theorem all_sorted : ∀ (t : Tri) (pre : List Bool), (Tri.all t pre).Pairwise (fun x y => Lx x.1 y.1)
  | .nil, _ => List.Pairwise.nil
  | .node l r o, pre => by
    simp only [Tri.all]
    rw [List.pairwise_append, List.pairwise_append]
    refine ⟨by cases o <;> simp, ⟨all_sorted l _, all_sorted r _, fun a ha b hb => ?_⟩, fun a ha b hb => ?_⟩
    · obtain ⟨x, hx⟩ := all_pre ha
      obtain ⟨y, hy⟩ := all_pre hb
      exact .inr ⟨pre, x, y, by rw [hx]; simp, by rw [hy]; simp⟩
    · have h1 : a.1 = pre := by
        cases o with
        | none => exact absurd ha List.not_mem_nil
        | some v => simp at ha; rw [ha]
      rcases List.mem_append.1 hb with hb | hb
      · obtain ⟨x, hx⟩ := all_pre hb
        exact .inl ⟨false :: x, by simp, by rw [hx, h1]; simp⟩
      · obtain ⟨x, hx⟩ := all_pre hb
        exact .inl ⟨true :: x, by simp, by rw [hx, h1]; simp⟩
theorem tb_pack (a : List Bool) (j : Nat) (hj : j < 8 * (pack a).length) : tb (strOf (pack a)) j = a.getD j false := (pack_key a).on j hj
theorem pack_len (a : List Bool) : (pack a).length = (a.length + 7) / 8 := (pack_key a).len
theorem beg_pre (a c : List Bool) : Beg (strOf (pack a)) a.length (strOf (pack (a ++ c))) := by
  have hl := pack_len a
  have hl2 := pack_len (a ++ c)
  rw [List.length_append] at hl2
  have hs : (strOf (pack (a ++ c))).size = (pack (a ++ c)).length := rfl
  refine ⟨by omega, fun j hj => ?_⟩
  rw [tb_pack a j (by omega), tb_pack (a ++ c) j (by omega), List.getD_eq_getElem?_getD, List.getD_eq_getElem?_getD, List.getElem?_append_left hj]
theorem getD_mid (p : List Bool) (b : Bool) (x : List Bool) : (p ++ b :: x).getD p.length false = b := by
  rw [List.getD_eq_getElem?_getD, List.getElem?_append_right (Nat.le_refl _)]; simp
theorem tb_mid (p x : List Bool) (b : Bool) : tb (strOf (pack (p ++ b :: x))) p.length = b := by
  have hl := pack_len (p ++ b :: x)
  rw [List.length_append, List.length_cons] at hl
  rw [tb_pack _ _ (by omega), getD_mid]
theorem beg_not (p x y : List Bool) (b : Bool) : ¬ Beg (strOf (pack (p ++ b :: x))) (p ++ b :: x).length (strOf (pack (p ++ (!b) :: y))) := fun h => by
  have := h.2 p.length (by rw [List.length_append, List.length_cons]; omega)
  rw [tb_mid, tb_mid] at this
  cases b <;> cases this
theorem bits_high (x y q : Nat) (hx : x < 256) (hy : y < 256) (h : ∀ k, k < q → x / 2 ^ (7 - k) % 2 = y / 2 ^ (7 - k) % 2) (hq : q ≤ 8) : ∀ k, k ≤ q → x / 2 ^ (8 - k) = y / 2 ^ (8 - k)
  | 0, _ => by rw [Nat.div_eq_of_lt (by omega), Nat.div_eq_of_lt (by omega)]
  | k + 1, hk => by
    have ih := bits_high x y q hx hy h hq k (by omega)
    have e := h k (by omega)
    rw [show 8 - k = (7 - k) + 1 by omega, Nat.pow_succ, ← Nat.div_div_eq_div_mul, ← Nat.div_div_eq_div_mul] at ih
    rw [show 8 - (k + 1) = 7 - k by omega]
    omega
theorem byte_less {x y q : Nat} (hx : x < 256) (hy : y < 256) (hq : q < 8) (h : ∀ k, k < q → x / 2 ^ (7 - k) % 2 = y / 2 ^ (7 - k) % 2) (h0 : x / 2 ^ (7 - q) % 2 = 0) (h1 : y / 2 ^ (7 - q) % 2 = 1) : x < y := by
  have e := bits_high x y q hx hy h (by omega) q (Nat.le_refl _)
  rw [show 8 - q = (7 - q) + 1 by omega, Nat.pow_succ, ← Nat.div_div_eq_div_mul, ← Nat.div_div_eq_div_mul] at e
  have lt : x / 2 ^ (7 - q) < y / 2 ^ (7 - q) := by omega
  rcases Nat.lt_or_ge x y with h | h
  · exact h
  · exact absurd (Nat.div_le_div_right (c := 2 ^ (7 - q)) h) (by omega)
theorem bitN_of {D : List UInt8} {x : UInt8} {i : Nat} (hi : i < 8) : bitAt (x :: D) i = (x.toNat / 2 ^ (7 - i) % 2 == 1) := by
  unfold bitAt bitN
  rw [show i / 8 = 0 by omega, show i % 8 = i by omega]; rfl
theorem bit_eq {x y k : Nat} (h : (x / 2 ^ k % 2 == 1) = (y / 2 ^ k % 2 == 1)) : x / 2 ^ k % 2 = y / 2 ^ k % 2 := by
  have h1 := Nat.mod_two_eq_zero_or_one (x / 2 ^ k)
  have h2 := Nat.mod_two_eq_zero_or_one (y / 2 ^ k)
  rcases h1 with h1 | h1 <;> rcases h2 with h2 | h2 <;> rw [h1, h2] at h ⊢ <;> simp at h
theorem less_bits : ∀ (D E : List UInt8) (q : Nat), q < 8 * D.length → q < 8 * E.length → (∀ i, i < q → bitAt D i = bitAt E i) → bitAt D q = false → bitAt E q = true → Op.bytesLess D E = true
  | [], _, q, h, _, _, _, _ => by simp at h
  | _ :: _, [], q, _, h, _, _, _ => by simp at h
  | x :: D, y :: E, q, h1, h2, h3, h4, h5 => by
    unfold Op.bytesLess
    have hx := x.toNat_lt
    have hy := y.toNat_lt
    rcases Nat.lt_or_ge q 8 with hq | hq
    · have : x.toNat < y.toNat := by
        refine byte_less (q := q) hx hy hq (fun k hk => ?_) ?_ ?_
        · have := h3 k hk
          rw [bitN_of (by omega), bitN_of (by omega)] at this
          exact bit_eq this
        · rw [bitN_of hq] at h4
          have h6 := Nat.mod_two_eq_zero_or_one (x.toNat / 2 ^ (7 - q))
          rcases h6 with h6 | h6
          · exact h6
          · rw [h6] at h4; simp at h4
        · rw [bitN_of hq] at h5
          simpa using h5
      rw [decide_eq_true (UInt8.lt_iff_toNat_lt.2 this)]; rfl
    · have hxy : x = y := byte_ext x y (fun i hi => by
        have := h3 i (by omega)
        rwa [bitN_of hi, bitN_of hi] at this)
      subst hxy
      have sh : ∀ (D : List UInt8) (i : Nat), bitAt (x :: D) (i + 8) = bitAt D i := fun D i => by
        unfold bitAt bitN
        rw [show (i + 8) / 8 = i / 8 + 1 by omega, show (i + 8) % 8 = i % 8 by omega]; rfl
      have ih := less_bits D E (q - 8) (by simp at h1; omega) (by simp at h2; omega) (fun i hi => by rw [← sh D i, ← sh E i]; exact h3 (i + 8) (by omega)) (by rw [← sh D, show q - 8 + 8 = q by omega]; exact h4) (by rw [← sh E, show q - 8 + 8 = q by omega]; exact h5)
      rw [ih]; simp
theorem less_mid (p x y : List Bool) : Op.bytesLess (strOf (pack (p ++ false :: x))).toList (strOf (pack (p ++ true :: y))).toList = true := by
  rw [ByteArray.toList_eq, ByteArray.toList_eq]
  show Op.bytesLess (pack (p ++ false :: x)) (pack (p ++ true :: y)) = true
  have l1 := pack_len (p ++ false :: x)
  have l2 := pack_len (p ++ true :: y)
  rw [List.length_append, List.length_cons] at l1 l2
  refine less_bits _ _ p.length (by omega) (by omega) (fun i hi => ?_) (tb_mid p x false) (tb_mid p y true)
  have e1 := tb_pack (p ++ false :: x) i (by omega)
  have e2 := tb_pack (p ++ true :: y) i (by omega)
  rw [List.getD_eq_getElem?_getD, List.getElem?_append_left hi] at e1 e2
  exact e1.trans e2.symm
theorem key_ne (p x y : List Bool) : (strOf (pack (p ++ false :: x))).toList ≠ (strOf (pack (p ++ true :: y))).toList := fun h => by
  have h1 := less_mid p x y
  rw [h] at h1
  have h2 := less_tri (strOf (pack (p ++ true :: y))).toList (strOf (pack (p ++ true :: y))).toList
  rw [h1] at h2
  simp at h2
/-- Two items that stand next to each other. -/
inductive Nx (y x : S32) : Prop where
  | pre (bb : ∃ k, turnoutref11_Begins.f k y.f0 y.f1 y.f2 x.f0 = some true) (hl : y.f1 < x.f1) : Nx y x
  | less (b1 : ∃ k, turnoutref11_Begins.f k y.f0 y.f1 y.f2 x.f0 = some false) (b2 : ∃ k, turnoutref11_Begins.f k x.f0 x.f1 x.f2 y.f0 = some false) (h1 : Op.bytesLess y.f0.toList x.f0.toList = true) (h2 : (y.f0.toList == x.f0.toList) = false) : Nx y x
theorem It.small {t : Tri} {y : S32} {bs : List Bool} (h : It t y bs) : y.f0.size ≤ 100000 ∧ bs.length ≤ 8 * y.f0.size := by
  have := h.ok
  have h1 := this.2.1
  have h2 := this.2.2.1
  rw [h.len] at h1 h2
  omega
theorem next_of {t : Tri} (hd : depth t ≤ 257) {i : Nat} (hi : i + 1 < (items t []).length) : Nx (yAt (items t []) i) (yAt (items t []) (i + 1)) := by
  obtain ⟨k1, a1, _⟩ := item_at hd (show i < (items t []).length by omega)
  obtain ⟨k2, a2, _⟩ := item_at hd hi
  have hp := List.pairwise_iff_getElem.1 (all_sorted t []) i (i + 1) k1 k2 (Nat.lt_succ_self i)
  generalize ((Tri.all t [])[i]).1 = a at a1 hp
  generalize ((Tri.all t [])[i + 1]).1 = b at a2 hp
  generalize yAt (items t []) i = y at a1 ⊢
  generalize yAt (items t []) (i + 1) = x at a2 ⊢
  have s1 := a1.small
  have s2 := a2.small
  rcases hp with ⟨c, hc, rfl⟩ | ⟨p, u, v, rfl, rfl⟩
  · refine .pre ?_ ?_
    · rw [a1.len]
      refine Ev.at (begins_yes y.f2 s1.1 s2.1 s1.2 ?_)
      rw [a1.key, a2.key]
      exact beg_pre a c
    · rw [a1.len, a2.len, List.length_append]
      have : 0 < c.length := List.length_pos_iff.2 hc
      omega
  · refine .less ?_ ?_ ?_ ?_
    · rw [a1.len]
      refine Ev.at (begins_no y.f2 s1.1 s2.1 s1.2 ?_)
      rw [a1.key, a2.key]
      exact beg_not p u v false
    · rw [a2.len]
      refine Ev.at (begins_no x.f2 s2.1 s1.1 s2.2 ?_)
      rw [a1.key, a2.key]
      exact beg_not p v u true
    · rw [a1.key, a2.key]; exact less_mid p u v
    · rw [a1.key, a2.key]; exact beq_false_of_ne (key_ne p u v)
/-- The longest one of an item's own key. -/
theorem own_lon {t : Tri} {y : S32} {bs : List Bool} (h : It t y bs) : ∃ m v, tlon y.f0 t = some (m, v) ∧ bs.length ≤ m ∧ m ≤ 8 * y.f0.size ∧ (m = bs.length → v = y.f2) := by
  have hs := h.small
  have hh : hd y.f0 bs.length = bs := by rw [h.key]; exact (pack_key bs).all_bits
  rcases tlon_cases y.f0 t with ⟨n, v, g1, g2, g3, g4⟩ | ⟨g1, g2⟩
  · refine ⟨n, v, g1, ?_, g2, fun e => ?_⟩
    · rcases Nat.lt_or_ge n bs.length with hlt | hge
      · have := g4 bs.length hlt hs.2
        rw [hh, h.get] at this; cases this
      · exact hge
    · rw [e, hh, h.get] at g3
      exact (Option.some.inj g3).symm
  · have := g2 bs.length hs.2
    rw [hh, h.get] at this; cases this
end Go.Proofs.Ytpchlnbnpgaocaa.PTrie
