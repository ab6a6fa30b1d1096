/- The bytes of a number of 128 bits, the highest first; numbers out of bytes; texts that stand to each other as their numbers do. Plain lemmas, no program in sight. -/
import Derived.Test.YtmplgmlfpfopbaaMBits
import Derived.Laws.Strings
set_option linter.unusedVariables false
set_option linter.unusedSimpArgs false
namespace Go.Proofs.Ytmplgmlfpfopbaa.MText
open Go.RowKit Go.Proofs.Ytmplgmlfpfopbaa.MBits Go.Proofs.YtmplgmlfpfopbaaW.PrintWords

/-- Byte i of a number of 16 bytes. -/
def byteN (n i : Nat) : Nat := n / 2 ^ (120 - 8 * i) % 256
def byteL (n k : Nat) : List UInt8 := (List.range k).map fun i => UInt8.ofNat (byteN n i)
/-- The number of bytes, the first one the highest. -/
def natOf (l : List UInt8) : Nat := l.foldl (fun n b => n * 256 + b.toNat) 0
theorem natOf_snoc (l : List UInt8) (b : UInt8) : natOf (l ++ [b]) = natOf l * 256 + b.toNat := by
  unfold natOf; rw [List.foldl_append]; rfl
theorem natOf_lt (l : List UInt8) : natOf l < 256 ^ l.length := by
  have key : ∀ m : List UInt8, natOf m.reverse < 256 ^ m.length := by
    intro m
    induction m with
    | nil => simp [natOf]
    | cons b m ih =>
      have hb := b.toNat_lt
      rw [List.reverse_cons, natOf_snoc, List.length_cons, Nat.pow_succ]; omega
  have := key l.reverse
  rwa [List.reverse_reverse, List.length_reverse] at this
theorem byteN_lt (n i : Nat) : byteN n i < 256 := Nat.mod_lt _ (by decide)
theorem byteL_succ (n k : Nat) : byteL n (k + 1) = byteL n k ++ [UInt8.ofNat (byteN n k)] := by
  unfold byteL; rw [List.range_succ, List.map_append]; rfl
theorem byteL_len (n k : Nat) : (byteL n k).length = k := by simp [byteL]
theorem ofNat_toNat {n : Nat} (h : n < 256) : (UInt8.ofNat n).toNat = n := by rw [UInt8.toNat_ofNat']; omega
theorem natOf_byteL (n : Nat) (hn : n < 2 ^ 128) : ∀ k, k ≤ 16 → natOf (byteL n k) = n / 2 ^ (128 - 8 * k) := by
  intro k
  induction k with
  | zero => intro _; show 0 = n / 2 ^ 128; rw [Nat.div_eq_of_lt hn]
  | succ k ih =>
    intro h
    rw [byteL_succ, natOf_snoc, ih (by omega), ofNat_toNat (byteN_lt _ _)]
    have e : 128 - 8 * k = (120 - 8 * k) + 8 := by omega
    have e2 : 128 - 8 * (k + 1) = 120 - 8 * k := by omega
    rw [e, e2, Nat.pow_add, ← Nat.div_div_eq_div_mul]
    unfold byteN
    show _ / 256 * 256 + _ % 256 = _
    omega
theorem natOf_all (n : Nat) (hn : n < 2 ^ 128) : natOf (byteL n 16) = n := by
  rw [natOf_byteL n hn 16 (Nat.le_refl _)]; simp
/-- Two rows of bytes of one length are one, if their numbers are. -/
theorem natOf_inj (l : List UInt8) : ∀ m : List UInt8, l.length = m.length → natOf l = natOf m → l = m := by
  have key : ∀ a b : List UInt8, a.length = b.length → natOf a.reverse = natOf b.reverse → a = b := by
    intro a
    induction a with
    | nil => intro b h _; cases b with
      | nil => rfl
      | cons => simp at h
    | cons x a ih =>
      intro b h hn
      cases b with
      | nil => simp at h
      | cons y b =>
        rw [List.reverse_cons, List.reverse_cons, natOf_snoc, natOf_snoc] at hn
        have hx := x.toNat_lt; have hy := y.toNat_lt
        have h1 : natOf a.reverse = natOf b.reverse := by omega
        have h2 : x.toNat = y.toNat := by omega
        rw [ih b (by simpa using h) h1, UInt8.toNat_inj.1 h2]
  intro m h hn
  have := key l.reverse m.reverse (by simpa using h) (by rwa [List.reverse_reverse, List.reverse_reverse])
  exact List.reverse_inj.1 this
theorem natOf_cons (x : UInt8) (l : List UInt8) : natOf (x :: l) = x.toNat * 256 ^ l.length + natOf l := by
  have key : ∀ (l : List UInt8) (a : Nat), l.foldl (fun n b => n * 256 + b.toNat) a = a * 256 ^ l.length + natOf l := by
    intro l
    induction l with
    | nil => intro a; simp [natOf]
    | cons y l ih =>
      intro a
      have e : natOf (y :: l) = (0 * 256 + y.toNat) * 256 ^ l.length + natOf l := ih _
      rw [List.foldl_cons, ih, List.length_cons, e, Nat.pow_succ, Nat.add_mul, Nat.zero_mul, Nat.zero_add, Nat.add_assoc, Nat.mul_assoc, Nat.mul_comm 256]
  show List.foldl _ _ _ = _
  unfold natOf
  rw [List.foldl_cons, key]
  unfold natOf; simp
/-- Texts of one length stand to each other as their numbers do. -/
theorem less_iff (l : List UInt8) : ∀ m : List UInt8, l.length = m.length → (Op.bytesLess l m = true ↔ natOf l < natOf m) := by
  induction l with
  | nil => intro m h; cases m with
    | nil => simp [Op.bytesLess, natOf]
    | cons => simp at h
  | cons x l ih =>
    intro m h
    cases m with
    | nil => simp at h
    | cons y m =>
      have hl : l.length = m.length := by simpa using h
      have h1 := natOf_lt l; have h2 := natOf_lt m
      rw [natOf_cons, natOf_cons, hl]
      rw [hl] at h1
      unfold Op.bytesLess
      rw [Bool.or_eq_true, Bool.and_eq_true, decide_eq_true_eq, beq_iff_eq, ih m hl, UInt8.lt_iff_toNat_lt, ← UInt8.toNat_inj]
      generalize hP : 256 ^ m.length = P at *
      constructor
      · rintro (h | ⟨h, h'⟩)
        · have : (x.toNat + 1) * P ≤ y.toNat * P := Nat.mul_le_mul_right _ h
          rw [Nat.add_mul] at this; omega
        · rw [h]; omega
      · intro h'
        rcases Nat.lt_trichotomy x.toNat y.toNat with h | h | h
        · exact .inl h
        · rw [h] at h'; exact .inr ⟨h, by omega⟩
        · have : (y.toNat + 1) * P ≤ x.toNat * P := Nat.mul_le_mul_right _ h
          rw [Nat.add_mul] at this; omega

/-- A word's text. -/
def tx (x : W) : ByteArray := ⟨(byteL x.toNat 16).toArray⟩
theorem tx_data (x : W) : (tx x).data.toList = byteL x.toNat 16 := rfl
theorem tx_list (x : W) : (tx x).toList = byteL x.toNat 16 := by rw [ByteArray.toList_eq]; rfl
theorem tx_size (x : W) : (tx x).size = 16 := by show (byteL x.toNat 16).toArray.size = 16; simp [byteL_len]
theorem tx_inj {x y : W} (h : byteL x.toNat 16 = byteL y.toNat 16) : x = y := by
  have := congrArg natOf h
  rw [natOf_all _ x.isLt, natOf_all _ y.isLt] at this
  exact BitVec.eq_of_toNat_eq this
theorem tx_less (x y : W) : Op.bytesLess (tx x).toList (tx y).toList = decide (x.toNat < y.toNat) := by
  rw [Bool.eq_iff_iff, tx_list, tx_list, less_iff _ _ (by rw [byteL_len, byteL_len]), natOf_all _ x.isLt, natOf_all _ y.isLt, decide_eq_true_eq]
/-- What the walk writes of a word's bytes. -/
theorem lo_byte (x : W) (i : Nat) (hi : i < 16) : lo (x >>> (120 - 8 * i)) % 256 = (byteN x.toNat i : Nat) := by
  unfold lo loN byteN
  rw [BitVec.toNat_ushiftRight, Nat.shiftRight_eq_div_pow]
  omega
theorem str_bytes (l : List Nat) (h : ∀ n ∈ l, n < 256) : strOfNums (l.map fun (n : Nat) => (n : Int)) = ⟨(l.map UInt8.ofNat).toArray⟩ := by
  unfold strOfNums
  congr 2
  rw [List.map_map]
  apply List.map_congr_left
  intro n hn
  simp
end Go.Proofs.Ytmplgmlfpfopbaa.MText
