/- What the functions of package word come to, on words as numbers of 128 bits. Plain lemmas. -/
import Derived.Test.YtmplgmlfpfopbaaMBits
import Derived.Test.YtmplgmlfpfopbaaPWordKx4
import Derived.Test.YtmplgmlfpfopbaaPWordKx8
set_option linter.unusedVariables false
set_option linter.unusedSimpArgs false
namespace Go.Proofs.Ytmplgmlfpfopbaa.MWordK
open Go.RowKit Go.Proofs.Ytmplgmlfpfopbaa.PWordK Go.Proofs.Ytmplgmlfpfopbaa.MBits Go.Proofs.YtmplgmlfpfopbaaW.PrintWords Go.Proofs.YtmplgmlfpfopbaaW.PrintLast Go.Proofs.YtmplgmlfpfopbaaW.PrintMore

theorem add_ev (x y : W) : word_Add.f (hi x) (lo x) (hi y) (lo y) = some (hi (x + y), lo (x + y)) := by
  have := hi_b x; have := lo_b x; have := hi_b y; have := lo_b y
  unfold word_Add.f bits_Add64.f
  rw [if_pos (by omega)]
  simp only [Option.bind_some]
  rw [if_pos (by omega)]
  simp only [Option.bind_some]
  rw [add_lo, add_hi]
theorem sub64 {a b c : Int} (ha : 0 ≤ a) (ha' : a < 18446744073709551616) (hb : 0 ≤ b) (hb' : b < 18446744073709551616) (hc : 0 ≤ c) (hc' : c ≤ 1) :
    bits_Sub64.f a b c = some ((a - b - c) % 18446744073709551616, if a < b + c then 1 else 0) := by
  unfold bits_Sub64.f; exact if_pos ⟨ha, ha', hb, hb', hc, hc'⟩
theorem ite01 (p : Prop) [Decidable p] : 0 ≤ (if p then (1 : Int) else 0) ∧ (if p then (1 : Int) else 0) ≤ 1 := by split <;> omega
theorem sub_ev (x y : W) : word_Sub.f (hi x) (lo x) (hi y) (lo y) = some (hi (x - y), lo (x - y)) := by
  have h1 := hi_b x; have h2 := lo_b x; have h3 := hi_b y; have h4 := lo_b y
  have h5 := ite01 (lo x < lo y + 0)
  have e := sub64 h2.1 h2.2 h4.1 h4.2 (Int.le_refl 0) (by decide)
  have e2 := sub64 h1.1 h1.2 h3.1 h3.2 h5.1 h5.2
  rw [sub_hi] at e2
  rw [sub_lo] at e
  unfold word_Sub.f
  rw [e, Option.bind_some, e2, Option.bind_some]
theorem and_ev (x y : W) : word_And.f (hi x) (lo x) (hi y) (lo y) = some (hi (x &&& y), lo (x &&& y)) := by
  unfold word_And.f; rw [and_hi, and_lo]
theorem or_ev (x y : W) : word_Or.f (hi x) (lo x) (hi y) (lo y) = some (hi (x ||| y), lo (x ||| y)) := by
  unfold word_Or.f; rw [or_hi, or_lo]
theorem not_ev (x : W) : word_Not.f (hi x) (lo x) = some (hi (~~~x), lo (~~~x)) := by
  unfold word_Not.f; rw [not_hi, not_lo]
theorem left_ev (x : W) (n : Int) (h0 : -9223372036854775808 ≤ n) (h1 : n ≤ 9223372036854775807) : word_Left.f (hi x) (lo x) n = some (hi (x <<< n.toNat), lo (x <<< n.toNat)) := by
  unfold word_Left.f
  by_cases h : n ≤ 0
  · rw [if_pos h]
    have e : n.toNat = 0 := by omega
    rw [e, BitVec.shiftLeft_zero]
  · rw [if_neg h]
    obtain ⟨m, rfl⟩ := Int.eq_ofNat_of_zero_le (show 0 ≤ n by omega)
    rw [Int.toNat_natCast]
    by_cases h2 : (m : Int) ≥ 64
    · have e : wrap64 ((m : Int) - 64) = ((m - 64 : Nat) : Int) := by rw [w64 (by omega) (by omega)]; omega
      have := left_far x m (by omega)
      rw [if_pos h2, e, if_pos (by omega), this.1, this.2]
    · have e : wrap64 (64 - (m : Int)) = ((64 - m : Nat) : Int) := by rw [w64 (by omega) (by omega)]; omega
      have := left_near x m (by omega) (by omega)
      rw [if_neg h2, e, if_pos (by omega), if_pos (by omega), this.1, this.2]
theorem right_ev (x : W) (n : Int) (h0 : -9223372036854775808 ≤ n) (h1 : n ≤ 9223372036854775807) : word_Right.f (hi x) (lo x) n = some (hi (x >>> n.toNat), lo (x >>> n.toNat)) := by
  unfold word_Right.f
  by_cases h : n ≤ 0
  · rw [if_pos h]
    have e : n.toNat = 0 := by omega
    rw [e, BitVec.ushiftRight_zero]
  · rw [if_neg h]
    obtain ⟨m, rfl⟩ := Int.eq_ofNat_of_zero_le (show 0 ≤ n by omega)
    rw [Int.toNat_natCast]
    by_cases h2 : (m : Int) ≥ 64
    · have e : wrap64 ((m : Int) - 64) = ((m - 64 : Nat) : Int) := by rw [w64 (by omega) (by omega)]; omega
      have := right_far x m (by omega)
      rw [if_pos h2, e, if_pos (by omega), this.1, this.2]
    · have e : wrap64 (64 - (m : Int)) = ((64 - m : Nat) : Int) := by rw [w64 (by omega) (by omega)]; omega
      have := right_near x m (by omega) (by omega)
      rw [if_neg h2, e, if_pos (by omega), if_pos (by omega), this.1, this.2]
/-- The mask of so many bits. -/
def mask (n : Int) : W := BitVec.allOnes 128 >>> (128 - min n.toNat 128)
theorem mask_ev (n : Int) : word_Mask.f n = some (hi (mask n), lo (mask n)) := by
  unfold word_Mask.f
  have e0 : word_Not.f 0 0 = some (hi (BitVec.allOnes 128), lo (BitVec.allOnes 128)) := by
    have := not_ev 0#128
    rw [zero_hi, zero_lo, BitVec.not_zero] at this
    exact this
  rw [e0]
  simp only [Option.bind_some]
  have e : 128 - mn (mx n 0) 128 = ((128 - min n.toNat 128 : Nat) : Int) := by unfold mn mx; split <;> (try split) <;> omega
  rw [e, right_ev _ _ (by omega) (by omega)]
  simp only [Option.bind_some, Int.toNat_natCast]
  rfl
theorem cut_ev (x : W) (n : Int) : word_Cut.f (hi x) (lo x) n = some (hi (x &&& mask n), lo (x &&& mask n)) := by
  unfold word_Cut.f
  rw [mask_ev]
  simp only [Option.bind_some]
  rw [and_ev]
  rfl
theorem new_ev (n : Int) (h0 : 0 ≤ n) (h1 : n < 18446744073709551616) : word_New.f n = some (hi (BitVec.ofNat 128 n.toNat), lo (BitVec.ofNat 128 n.toNat)) := by
  unfold word_New.f
  have e1 : hi (BitVec.ofNat 128 n.toNat) = 0 := by unfold hi; rw [hiN_mk _ (by omega)]; omega
  have e2 : lo (BitVec.ofNat 128 n.toNat) = n := by unfold lo; rw [loN_mk _ (by omega)]; omega
  rw [e1, e2]

/-! ### bits.Len64 -/
/-- How many bits there are from the highest one on. -/
def len (n : Nat) : Nat := if n = 0 then 0 else Nat.log2 n + 1
theorem len_le (n k : Nat) : len n ≤ k ↔ n < 2 ^ k := by
  unfold len
  split
  · rename_i h; subst h; simp; exact Nat.pos_of_ne_zero (by simp)
  · rename_i h; rw [← Nat.log2_lt h]; omega
theorem len_shift (n k : Nat) (h : 2 ^ k ≤ n) : len n = k + len (n / 2 ^ k) := by
  have hp : 0 < 2 ^ k := Nat.pos_of_ne_zero (by simp)
  apply Nat.le_antisymm
  · rw [len_le, Nat.pow_add, Nat.mul_comm]
    have := (len_le (n / 2 ^ k) _).1 (Nat.le_refl _)
    exact (Nat.div_lt_iff_lt_mul hp).1 this
  · have h1 := (len_le n _).1 (Nat.le_refl _)
    have hk : k < len n := by
      apply Nat.lt_of_not_le; intro h2
      have := (len_le n k).1 h2; omega
    have : len (n / 2 ^ k) ≤ len n - k := by
      rw [len_le, Nat.div_lt_iff_lt_mul hp, ← Nat.pow_add]
      have : len n - k + k = len n := by omega
      rw [this]; exact h1
    omega
end Go.Proofs.Ytmplgmlfpfopbaa.MWordK
