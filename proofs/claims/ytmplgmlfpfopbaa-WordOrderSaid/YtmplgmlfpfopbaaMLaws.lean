/- Laws of numbers of 128 bits: sums and bits, masks, what is cut. Plain lemmas, no program in sight. -/
import Derived.Test.YtmplgmlfpfopbaaMBits
set_option linter.unusedVariables false
set_option linter.unusedSimpArgs false
namespace Go.Proofs.Ytmplgmlfpfopbaa.MLaws
open Go.RowKit Go.Proofs.Ytmplgmlfpfopbaa.MBits Go.Proofs.YtmplgmlfpfopbaaW.PrintWords

theorem same {x y : W} (h : x = y) : ((hi x == hi y) && (lo x == lo y)) = true := by rw [beq2, h, beq_self_eq_true]
theorem other {x y : W} (h : x = y) : (!(hi x == hi y) || (!(lo x == lo y))) = false := by rw [← Bool.not_and, beq2, h, beq_self_eq_true]; rfl
theorem bit_ext {x y : W} (h : ∀ i, i < 128 → x.getLsbD i = y.getLsbD i) : x = y := BitVec.eq_of_getLsbD_eq fun i hi => h i hi
theorem nat_add_bits (n : Nat) : ∀ a b : Nat, a ≤ n → a + b = (a ^^^ b) + 2 * (a &&& b) := by
  induction n using Nat.strongRecOn with
  | _ n ih =>
    intro a b h
    by_cases h0 : a = 0
    · subst h0; simp
    · have := ih (a / 2) (by omega) (a / 2) (b / 2) (Nat.le_refl _)
      have x1 : (a ^^^ b) / 2 = a / 2 ^^^ b / 2 := Nat.xor_div_two
      have x2 : (a &&& b) / 2 = a / 2 &&& b / 2 := Nat.and_div_two
      have x3 : (a &&& b) % 2 = 1 ↔ a % 2 = 1 ∧ b % 2 = 1 := Nat.and_mod_two_eq_one
      have x4 : (a ^^^ b) % 2 = (a + b) % 2 := by
        have h1 : (a ^^^ b) % 2 ^ 1 = (a % 2 ^ 1) ^^^ (b % 2 ^ 1) := Nat.xor_mod_two_pow
        simp only [Nat.pow_one] at h1
        rw [h1]
        rcases Nat.mod_two_eq_zero_or_one a with ha | ha <;> rcases Nat.mod_two_eq_zero_or_one b with hb | hb <;> rw [ha, hb]
        · show 0 = _; omega
        · show 1 = _; omega
        · show 1 = _; omega
        · show 0 = _; omega
      rw [← x1, ← x2] at this
      omega
theorem add_bits (x y : W) : x + y = (x ^^^ y) + ((x &&& y) <<< 1) := by
  apply BitVec.eq_of_toNat_eq
  rw [BitVec.toNat_add, BitVec.toNat_add, BitVec.toNat_shiftLeft, BitVec.toNat_xor, BitVec.toNat_and, Nat.shiftLeft_eq, nat_add_bits _ _ _ (Nat.le_refl _)]
  omega
theorem sub_bits (x y : W) (h : x &&& y = y) : x - y = x &&& ~~~y := by
  have h0 : (x &&& ~~~y) &&& y = 0#128 := by
    apply bit_ext; intro i hi
    simp only [BitVec.getLsbD_and, BitVec.getLsbD_not, BitVec.getLsbD_zero]
    cases x.getLsbD i <;> cases y.getLsbD i <;> simp
  have h1 : (x &&& ~~~y) + y = (x &&& ~~~y) ||| y := BitVec.add_eq_or_of_and_eq_zero _ _ h0
  have h2 : (x &&& ~~~y) ||| y = x := by
    apply bit_ext; intro i hi
    have hb := congrArg (fun z : W => z.getLsbD i) h
    simp only [BitVec.getLsbD_and] at hb
    simp only [BitVec.getLsbD_or, BitVec.getLsbD_and, BitVec.getLsbD_not, decide_eq_true hi]
    cases hx : x.getLsbD i <;> cases hy : y.getLsbD i <;> simp_all
  conv => lhs; rw [← h2, ← h1]
  exact BitVec.add_sub_cancel _ _
theorem or_sub (x y : W) : (x ||| y) - y = x &&& ~~~y := by
  rw [sub_bits]
  · apply bit_ext; intro i hi
    simp only [BitVec.getLsbD_or, BitVec.getLsbD_and, BitVec.getLsbD_not]
    cases x.getLsbD i <;> cases y.getLsbD i <;> simp
  · apply bit_ext; intro i hi
    simp only [BitVec.getLsbD_or, BitVec.getLsbD_and]
    cases x.getLsbD i <;> cases y.getLsbD i <;> simp
theorem or_xor (x y : W) : x ||| y = (x ^^^ y) ^^^ (x &&& y) := by
  apply bit_ext; intro i hi
  simp only [BitVec.getLsbD_or, BitVec.getLsbD_and, BitVec.getLsbD_xor]
  cases x.getLsbD i <;> cases y.getLsbD i <;> simp
theorem not_and (x y : W) : ~~~(x &&& y) = ~~~x ||| ~~~y := by
  apply bit_ext; intro i hi
  simp only [BitVec.getLsbD_or, BitVec.getLsbD_and, BitVec.getLsbD_not, decide_eq_true hi]
  cases x.getLsbD i <;> cases y.getLsbD i <;> simp
theorem xor_xor (x y : W) : (x ^^^ y) ^^^ y = x := by
  apply bit_ext; intro i hi
  simp only [BitVec.getLsbD_xor]
  cases x.getLsbD i <;> cases y.getLsbD i <;> simp
theorem and_or (x y z : W) : x &&& (y ||| z) = (x &&& y) ||| (x &&& z) := by
  apply bit_ext; intro i hi
  simp only [BitVec.getLsbD_or, BitVec.getLsbD_and]
  cases x.getLsbD i <;> cases y.getLsbD i <;> simp

/-! ### masks -/
def msk (n : Nat) : W := BitVec.allOnes 128 >>> (128 - min n 128)
theorem msk_bit (n : Nat) (i : Nat) : (msk n).getLsbD i = (decide (i < n) && decide (i < 128)) := by
  unfold msk
  rw [BitVec.getLsbD_ushiftRight, BitVec.getLsbD_allOnes]
  by_cases h : i < n <;> by_cases h2 : i < 128 <;> simp [h, h2] <;> omega
theorem msk_over (n : Nat) (h : 128 ≤ n) : msk n = msk 128 := by
  apply bit_ext; intro i hi
  rw [msk_bit, msk_bit]; simp [hi]; omega
/-- What is cut to n bits hangs on these n bits alone. -/
theorem cut_eq (x y : W) (n : Nat) (h : x.setWidth n = y.setWidth n) : x &&& msk n = y &&& msk n := by
  apply bit_ext; intro i hi
  rw [BitVec.getLsbD_and, BitVec.getLsbD_and, msk_bit]
  by_cases hn : i < n
  · have := congrArg (fun z => z.getLsbD i) h
    simp only [BitVec.getLsbD_setWidth, decide_eq_true hn, Bool.true_and] at this
    rw [this]
  · simp [hn]
theorem cut_width (x : W) (n : Nat) : (x &&& msk n).setWidth n = x.setWidth n := by
  apply BitVec.eq_of_getLsbD_eq; intro i hi
  simp only [BitVec.getLsbD_setWidth, BitVec.getLsbD_and, msk_bit, decide_eq_true hi, Bool.true_and]
  by_cases h : i < 128
  · simp [h]
  · rw [BitVec.getLsbD_of_ge x i (by omega)]; simp
theorem cut_min (n : Nat) : ∃ m, m ≤ 128 ∧ msk n = msk m ∧ m ≤ n := by
  by_cases h : n ≤ 128
  · exact ⟨n, h, rfl, Nat.le_refl _⟩
  · exact ⟨128, Nat.le_refl _, msk_over n (by omega), by omega⟩
theorem cut_add (x y : W) (n : Nat) : ((x &&& msk n) + (y &&& msk n)) &&& msk n = (x + y) &&& msk n := by
  obtain ⟨m, hm, e, _⟩ := cut_min n
  rw [e]
  apply cut_eq
  rw [BitVec.setWidth_add _ _ hm, BitVec.setWidth_add _ _ hm, cut_width, cut_width]
theorem cut_sub (x y : W) (n : Nat) : ((x &&& msk n) - (y &&& msk n)) &&& msk n = (x - y) &&& msk n := by
  obtain ⟨m, hm, e, _⟩ := cut_min n
  rw [e]
  apply cut_eq
  rw [BitVec.sub_eq_add_neg, BitVec.sub_eq_add_neg, BitVec.setWidth_add _ _ hm, BitVec.setWidth_add _ _ hm, BitVec.setWidth_neg_of_le hm, BitVec.setWidth_neg_of_le hm, cut_width, cut_width]
theorem cut_xor (x y : W) (n : Nat) : (x ^^^ y) &&& msk n = (x &&& msk n) ^^^ (y &&& msk n) := by
  apply bit_ext; intro i hi
  simp only [BitVec.getLsbD_xor, BitVec.getLsbD_and]
  cases x.getLsbD i <;> cases y.getLsbD i <;> cases (msk n).getLsbD i <;> simp
theorem cut_or (x y : W) (n : Nat) : (x ||| y) &&& msk n = (x &&& msk n) ||| (y &&& msk n) := by
  apply bit_ext; intro i hi
  simp only [BitVec.getLsbD_or, BitVec.getLsbD_and]
  cases x.getLsbD i <;> cases y.getLsbD i <;> cases (msk n).getLsbD i <;> simp
theorem cut_and (x y : W) (n : Nat) : (x &&& y) &&& msk n = (x &&& msk n) &&& (y &&& msk n) := by
  apply bit_ext; intro i hi
  simp only [BitVec.getLsbD_and]
  cases x.getLsbD i <;> cases y.getLsbD i <;> cases (msk n).getLsbD i <;> simp
theorem cut_not (x : W) (n : Nat) : ~~~(x &&& msk n) &&& msk n = ~~~x &&& msk n := by
  apply bit_ext; intro i hi
  simp only [BitVec.getLsbD_and, BitVec.getLsbD_not]
  cases x.getLsbD i <;> cases (msk n).getLsbD i <;> simp
theorem cut_cut (x : W) (n m : Nat) : (x &&& msk m) &&& msk n = x &&& msk (min n m) := by
  apply bit_ext; intro i hi
  have h3 : decide (i < min n m) = (decide (i < n) && decide (i < m)) := by
    rw [Bool.eq_iff_iff, Bool.and_eq_true, decide_eq_true_eq, decide_eq_true_eq, decide_eq_true_eq]; omega
  simp only [BitVec.getLsbD_and, msk_bit, h3]
  cases x.getLsbD i <;> cases decide (i < n) <;> cases decide (i < m) <;> simp
theorem msk_nat (n : Nat) (h : n ≤ 128) : (msk n).toNat = 2 ^ n - 1 := by
  unfold msk
  rw [BitVec.toNat_ushiftRight, BitVec.toNat_allOnes, Nat.min_eq_left h, Nat.shiftRight_eq_div_pow]
  have e : 2 ^ 128 = 2 ^ n * 2 ^ (128 - n) := by rw [← Nat.pow_add]; congr 1; omega
  have hp : 0 < 2 ^ (128 - n) := Nat.pos_of_ne_zero (by simp)
  have hq : 0 < 2 ^ n := Nat.pos_of_ne_zero (by simp)
  rw [e]
  have e2 : 2 ^ n * 2 ^ (128 - n) - 1 = (2 ^ n - 1) * 2 ^ (128 - n) + (2 ^ (128 - n) - 1) := by
    rw [Nat.sub_mul, Nat.one_mul]
    have : 2 ^ (128 - n) ≤ 2 ^ n * 2 ^ (128 - n) := Nat.le_mul_of_pos_left _ hq
    omega
  rw [e2, Nat.mul_comm, Nat.mul_add_div hp, Nat.div_eq_of_lt (by omega)]; omega
theorem cut_nat (x : W) (n : Nat) (h : n ≤ 128) : (x &&& msk n).toNat = x.toNat % 2 ^ n := by
  rw [BitVec.toNat_and, msk_nat n h, Nat.and_two_pow_sub_one_eq_mod]
theorem cut_all (x : W) (n : Nat) (h : 128 ≤ n) : x &&& msk n = x := by
  apply bit_ext; intro i hi
  rw [BitVec.getLsbD_and, msk_bit]; simp [hi]; intro _; omega
theorem cut_lt (x : W) (n : Nat) : (x &&& msk n).toNat < 2 ^ n := by
  by_cases h : n ≤ 128
  · rw [cut_nat x n h]; exact Nat.mod_lt _ (Nat.pos_of_ne_zero (by simp))
  · rw [cut_all x n (by omega)]; exact Nat.lt_of_lt_of_le x.isLt (Nat.pow_le_pow_right (by omega) (by omega))
theorem cut_same (x : W) (n : Nat) : x &&& msk n = x ↔ x.toNat < 2 ^ n := by
  constructor
  · intro h; rw [← h]; exact cut_lt x n
  · intro h
    by_cases hn : n ≤ 128
    · apply BitVec.eq_of_toNat_eq; rw [cut_nat x n hn, Nat.mod_eq_of_lt h]
    · exact cut_all x n (by omega)
end Go.Proofs.Ytmplgmlfpfopbaa.MLaws
