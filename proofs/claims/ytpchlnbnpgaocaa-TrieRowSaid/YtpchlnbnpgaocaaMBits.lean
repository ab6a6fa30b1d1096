/- Words of 128 bits as two halves: what the halves of sums, shifts and bitwise operations are. Plain lemmas, no program in sight. -/
import Derived.Test.YtpchlnbnpgaocaaWMore
import Derived.Laws.BitsAllLaws
import Derived.Laws.Bits64
set_option linter.unusedVariables false
set_option linter.unusedSimpArgs false
namespace Go.Proofs.Ytpchlnbnpgaocaa.MBits
open Go.RowKit Go.Proofs.YtpchlnbnpgaocaaW.PrintWords Go.Proofs.YtpchlnbnpgaocaaW.PrintLast Go.Proofs.YtpchlnbnpgaocaaW.PrintMore

theorem Ev.pb {α β : Type} {x : Option α} {a : α} (h : x = some a) {f : Nat → α → Option β} {r : β} (k : Ev (fun n => f n a) r) : Ev (fun n => x.bind (f n)) r := by subst h; exact k
theorem Ev.ip {β : Type} {c : Prop} [Decidable c] (h : c) {f g : Nat → Option β} {r : β} (k : Ev f r) : Ev (fun n => if c then f n else g n) r := by
  simpa only [if_pos h] using k
theorem Ev.in {β : Type} {c : Prop} [Decidable c] (h : ¬ c) {f g : Nat → Option β} {r : β} (k : Ev g r) : Ev (fun n => if c then f n else g n) r := by
  simpa only [if_neg h] using k
theorem bounds_u64 {n : Int} (h : (Lit.int .u64 n).wf = true) : 0 ≤ n ∧ n ≤ 18446744073709551615 := by
  simp [Lit.wf, IntKind.min, IntKind.max, IntKind.signed, IntKind.bits] at h
  omega
theorem bounds_i64 {n : Int} (h : (Lit.int .i64 n).wf = true) : -9223372036854775808 ≤ n ∧ n ≤ 9223372036854775807 := by
  simp [Lit.wf, IntKind.min, IntKind.max, IntKind.signed, IntKind.bits] at h
  omega
theorem w64 {n : Int} (h0 : -9223372036854775808 ≤ n) (h1 : n ≤ 9223372036854775807) : wrap64 n = n := by unfold wrap64; omega
theorem u64w {n : Int} (h0 : 0 ≤ n) (h1 : n < 18446744073709551616) : IntKind.u64.wrap n = n := by rw [IntKind.wrap_u64]; omega

/-! ### the two halves of a number of 128 bits -/
abbrev W := BitVec 128
def hiN (x : W) : Nat := x.toNat / 2 ^ 64
def loN (x : W) : Nat := x.toNat % 2 ^ 64
def hi (x : W) : Int := (hiN x : Int)
def lo (x : W) : Int := (loN x : Int)
theorem hiN_lt (x : W) : hiN x < 2 ^ 64 := by unfold hiN; have := x.isLt; omega
theorem loN_lt (x : W) : loN x < 2 ^ 64 := by unfold loN; omega
theorem hi_b (x : W) : 0 ≤ hi x ∧ hi x < 18446744073709551616 := by unfold hi; have := hiN_lt x; omega
theorem lo_b (x : W) : 0 ≤ lo x ∧ lo x < 18446744073709551616 := by unfold lo; have := loN_lt x; omega
theorem hiN_mk (v : Nat) (h : v < 2 ^ 128) : hiN (BitVec.ofNat 128 v) = v / 2 ^ 64 := by unfold hiN; rw [BitVec.toNat_ofNat, Nat.mod_eq_of_lt h]
theorem loN_mk (v : Nat) (h : v < 2 ^ 128) : loN (BitVec.ofNat 128 v) = v % 2 ^ 64 := by unfold loN; rw [BitVec.toNat_ofNat, Nat.mod_eq_of_lt h]
/-- Each two numbers of 64 bits are a word's halves. -/
theorem halves (a b : Int) (ha : 0 ≤ a ∧ a ≤ 18446744073709551615) (hb : 0 ≤ b ∧ b ≤ 18446744073709551615) : ∃ x : W, hi x = a ∧ lo x = b := by
  refine ⟨BitVec.ofNat 128 (a.toNat * 2 ^ 64 + b.toNat), ?_, ?_⟩
  · unfold hi; rw [hiN_mk _ (by omega)]; omega
  · unfold lo; rw [loN_mk _ (by omega)]; omega
theorem ext2 {x y : W} (h : hi x = hi y) (l : lo x = lo y) : x = y := by
  apply BitVec.eq_of_toNat_eq
  unfold hi hiN at h; unfold lo loN at l
  omega
/-- '==' of words, as the printed texts have it. -/
theorem beq2 (x y : W) : ((hi x == hi y) && (lo x == lo y)) = (x == y) := by
  rw [Bool.eq_iff_iff, Bool.and_eq_true, beq_iff_eq, beq_iff_eq, beq_iff_eq]
  exact ⟨fun h => ext2 h.1 h.2, fun h => by subst h; exact ⟨rfl, rfl⟩⟩
theorem toNat_eq (x : W) : x.toNat = hiN x * 2 ^ 64 + loN x := by unfold hiN loN; omega

/-! ### bits of the halves -/
theorem hi_bit (x : W) (i : Nat) : (hiN x).testBit i = x.getLsbD (i + 64) := by
  unfold hiN
  rw [← Nat.shiftRight_eq_div_pow, Nat.testBit_shiftRight, Nat.add_comm]; rfl
theorem lo_bit (x : W) (i : Nat) : (loN x).testBit i = (decide (i < 64) && x.getLsbD i) := by
  unfold loN
  rw [Nat.testBit_mod_two_pow]; rfl
theorem hi_of (x : W) (n : Nat) (h : ∀ i, n.testBit i = x.getLsbD (i + 64)) : hiN x = n := by
  apply Nat.eq_of_testBit_eq; intro i; rw [hi_bit, h]
theorem lo_of (x : W) (n : Nat) (h : ∀ i, n.testBit i = (decide (i < 64) && x.getLsbD i)) : loN x = n := by
  apply Nat.eq_of_testBit_eq; intro i; rw [lo_bit, h]

theorem and_hi (x y : W) : bits .and .u64 (hi x) (hi y) = hi (x &&& y) := by
  have := hi_b x; have := hi_b y
  rw [u64_and _ _ (by omega) (by omega) (by omega) (by omega)]
  unfold hi; rw [Int.toNat_natCast, Int.toNat_natCast]
  congr 1; symm; apply hi_of; intro i
  rw [Nat.testBit_and, hi_bit, hi_bit, BitVec.getLsbD_and]
theorem and_lo (x y : W) : bits .and .u64 (lo x) (lo y) = lo (x &&& y) := by
  have := lo_b x; have := lo_b y
  rw [u64_and _ _ (by omega) (by omega) (by omega) (by omega)]
  unfold lo; rw [Int.toNat_natCast, Int.toNat_natCast]
  congr 1; symm; apply lo_of; intro i
  rw [Nat.testBit_and, lo_bit, lo_bit, BitVec.getLsbD_and]; cases decide (i < 64) <;> simp
theorem or_hi (x y : W) : bits .or .u64 (hi x) (hi y) = hi (x ||| y) := by
  have := hi_b x; have := hi_b y
  rw [u64_or _ _ (by omega) (by omega) (by omega) (by omega)]
  unfold hi; rw [Int.toNat_natCast, Int.toNat_natCast]
  congr 1; symm; apply hi_of; intro i
  rw [Nat.testBit_or, hi_bit, hi_bit, BitVec.getLsbD_or]
theorem or_lo (x y : W) : bits .or .u64 (lo x) (lo y) = lo (x ||| y) := by
  have := lo_b x; have := lo_b y
  rw [u64_or _ _ (by omega) (by omega) (by omega) (by omega)]
  unfold lo; rw [Int.toNat_natCast, Int.toNat_natCast]
  congr 1; symm; apply lo_of; intro i
  rw [Nat.testBit_or, lo_bit, lo_bit, BitVec.getLsbD_or]; cases decide (i < 64) <;> simp
theorem xor_hi (x y : W) : bits .xor .u64 (hi x) (hi y) = hi (x ^^^ y) := by
  have := hi_b x; have := hi_b y
  rw [u64_xor _ _ (by omega) (by omega) (by omega) (by omega)]
  unfold hi; rw [Int.toNat_natCast, Int.toNat_natCast]
  congr 1; symm; apply hi_of; intro i
  rw [Nat.testBit_xor, hi_bit, hi_bit, BitVec.getLsbD_xor]
theorem xor_lo (x y : W) : bits .xor .u64 (lo x) (lo y) = lo (x ^^^ y) := by
  have := lo_b x; have := lo_b y
  rw [u64_xor _ _ (by omega) (by omega) (by omega) (by omega)]
  unfold lo; rw [Int.toNat_natCast, Int.toNat_natCast]
  congr 1; symm; apply lo_of; intro i
  rw [Nat.testBit_xor, lo_bit, lo_bit, BitVec.getLsbD_xor]; cases decide (i < 64) <;> simp
theorem ones_hi : hi (BitVec.allOnes 128) = 18446744073709551615 := by decide
theorem ones_lo : lo (BitVec.allOnes 128) = 18446744073709551615 := by decide
theorem zero_hi : hi 0#128 = 0 := by decide
theorem zero_lo : lo 0#128 = 0 := by decide
theorem one_hi : hi 1#128 = 0 := by decide
theorem one_lo : lo 1#128 = 1 := by decide
theorem not_hi (x : W) : bits .xor .u64 18446744073709551615 (hi x) = hi (~~~x) := by
  rw [← ones_hi, xor_hi, BitVec.allOnes_xor]
theorem not_lo (x : W) : bits .xor .u64 18446744073709551615 (lo x) = lo (~~~x) := by
  rw [← ones_lo, xor_lo, BitVec.allOnes_xor]

/-! ### sums -/
theorem add_toNat (x y : W) : (x + y).toNat = (x.toNat + y.toNat) % 2 ^ 128 := BitVec.toNat_add x y
theorem add_lo (x y : W) : (lo x + lo y + 0) % 18446744073709551616 = lo (x + y) := by
  unfold lo loN; rw [add_toNat]; omega
theorem add_hi (x y : W) : (hi x + hi y + (lo x + lo y + 0) / 18446744073709551616) % 18446744073709551616 = hi (x + y) := by
  unfold lo loN hi hiN; rw [add_toNat]; have := x.isLt; have := y.isLt; omega
theorem sub_toNat (x y : W) : (x - y).toNat = (2 ^ 128 - y.toNat + x.toNat) % 2 ^ 128 := BitVec.toNat_sub x y
theorem sub_lo (x y : W) : (lo x - lo y - 0) % 18446744073709551616 = lo (x - y) := by
  unfold lo loN; rw [sub_toNat]; have := x.isLt; have := y.isLt; omega
theorem sub_hi (x y : W) : (hi x - hi y - (if lo x < lo y + 0 then 1 else 0)) % 18446744073709551616 = hi (x - y) := by
  unfold lo loN hi hiN; rw [sub_toNat]; have := x.isLt; have := y.isLt
  split <;> omega

/-! ### shifts -/
theorem shl_nat (a n : Nat) : shl .u64 (a : Int) (n : Int) = (((a <<< min n 64) % 2 ^ 64 : Nat) : Int) := by
  unfold shl
  rw [IntKind.wrap_u64, Int.toNat_natCast, Nat.shiftLeft_eq]
  have : IntKind.u64.bits = 64 := rfl
  rw [this]
  simp
theorem shr_nat (a n : Nat) : shr .u64 (a : Int) (n : Int) = ((a >>> min n 64 : Nat) : Int) := by
  unfold shr
  rw [Int.toNat_natCast, Nat.shiftRight_eq_div_pow]
  have : IntKind.u64.bits = 64 := rfl
  rw [this]
  simp
theorem or_nat (a b : Nat) (ha : a < 2 ^ 64) (hb : b < 2 ^ 64) : bits .or .u64 (a : Int) (b : Int) = ((a ||| b : Nat) : Int) := u64_or_nat a b ha hb
theorem shr_lt (a n : Nat) (h : a < 2 ^ 64) : a >>> n < 2 ^ 64 := by
  rw [Nat.shiftRight_eq_div_pow]; exact Nat.lt_of_le_of_lt (Nat.div_le_self _ _) h
theorem big_bit {a i : Nat} (h : a < 2 ^ 64) (hi : 64 ≤ i) : a.testBit i = false :=
  Nat.testBit_lt_two_pow (Nat.lt_of_lt_of_le h (Nat.pow_le_pow_right (by omega) hi))
/-- To the left by 64 or more. -/
theorem left_far (x : W) (n : Nat) (h : 64 ≤ n) : shl .u64 (lo x) ((n - 64 : Nat) : Int) = hi (x <<< n) ∧ lo (x <<< n) = 0 := by
  constructor
  · unfold lo hi
    rw [shl_nat]
    congr 1; symm; apply hi_of; intro i
    rw [Nat.testBit_mod_two_pow, Nat.testBit_shiftLeft, BitVec.getLsbD_shiftLeft, lo_bit]
    by_cases h1 : i < 64
    · by_cases h2 : n - 64 ≤ 64
      · rw [Nat.min_eq_left h2]
        by_cases h3 : i ≥ n - 64
        · have e : i + 64 - n = i - (n - 64) := by omega
          simp [h1, h3, e]
          rw [show decide (i + 64 < 128) = true by simp; omega, show decide (i + 64 < n) = false by simp; omega]
          have : i - (n - 64) < 64 := by omega
          simp [this]
        · simp [h1, h3]; omega
      · rw [Nat.min_eq_right (by omega)]
        have h3 : ¬ (64 ≤ i) := by omega
        have h4 : i + 64 < n := by omega
        simp [h1, h3, h4]
    · simp [h1]; omega
  · unfold lo
    have : loN (x <<< n) = 0 := by
      apply lo_of; intro i
      rw [BitVec.getLsbD_shiftLeft]
      by_cases h1 : i < 64 <;> simp [h1]
      omega
    rw [this]; rfl
/-- To the left by less than 64. -/
theorem left_near (x : W) (n : Nat) (h0 : 0 < n) (h : n < 64) : bits .or .u64 (shl .u64 (hi x) (n : Int)) (shr .u64 (lo x) ((64 - n : Nat) : Int)) = hi (x <<< n) ∧ shl .u64 (lo x) (n : Int) = lo (x <<< n) := by
  constructor
  · unfold lo hi
    rw [shl_nat, shr_nat, Nat.min_eq_left (by omega), Nat.min_eq_left (by omega), or_nat _ _ (by omega) (shr_lt _ _ (loN_lt x))]
    congr 1; symm; apply hi_of; intro i
    rw [Nat.testBit_or, Nat.testBit_mod_two_pow, Nat.testBit_shiftLeft, Nat.testBit_shiftRight, BitVec.getLsbD_shiftLeft, lo_bit, hi_bit]
    by_cases h1 : i < 64
    · by_cases h2 : n ≤ i
      · have e : i - n + 64 = i + 64 - n := by omega
        have h3 : ¬ (64 - n + i < 64) := by omega
        simp [h1, h2, e, h3]
        intro _; omega
      · have e : 64 - n + i = i + 64 - n := by omega
        have h3 : i + 64 - n < 64 := by omega
        simp [h1, h2, e, h3]
        intro _; omega
    · have h3 : ¬ (64 - n + i < 64) := by omega
      simp [h1, h3]; omega
  · unfold lo
    rw [shl_nat, Nat.min_eq_left (by omega)]
    congr 1; symm; apply lo_of; intro i
    rw [Nat.testBit_mod_two_pow, Nat.testBit_shiftLeft, BitVec.getLsbD_shiftLeft, lo_bit]
    by_cases h1 : i < 64
    · by_cases h2 : n ≤ i
      · have h3 : i - n < 64 := by omega
        simp [h1, h2, h3]; intro _; omega
      · simp [h1, h2]
    · simp [h1]
theorem right_far (x : W) (n : Nat) (h : 64 ≤ n) : shr .u64 (hi x) ((n - 64 : Nat) : Int) = lo (x >>> n) ∧ hi (x >>> n) = 0 := by
  constructor
  · unfold lo hi
    rw [shr_nat]
    congr 1; symm; apply lo_of; intro i
    rw [Nat.testBit_shiftRight, BitVec.getLsbD_ushiftRight, hi_bit]
    by_cases h1 : i < 64
    · by_cases h2 : n - 64 ≤ 64
      · rw [Nat.min_eq_left h2]
        have e : n - 64 + i + 64 = n + i := by omega
        simp [h1, e]
      · rw [Nat.min_eq_right (by omega), BitVec.getLsbD_of_ge _ _ (by omega), BitVec.getLsbD_of_ge _ _ (by omega)]; simp
    · rw [BitVec.getLsbD_of_ge x (min (n - 64) 64 + i + 64) (by omega)]; simp [h1]
  · unfold hi
    have : hiN (x >>> n) = 0 := by
      apply hi_of; intro i
      rw [BitVec.getLsbD_ushiftRight, BitVec.getLsbD_of_ge _ _ (by omega)]; simp
    rw [this]; rfl
theorem right_near (x : W) (n : Nat) (h0 : 0 < n) (h : n < 64) : bits .or .u64 (shr .u64 (lo x) (n : Int)) (shl .u64 (hi x) ((64 - n : Nat) : Int)) = lo (x >>> n) ∧ shr .u64 (hi x) (n : Int) = hi (x >>> n) := by
  constructor
  · unfold lo hi
    rw [shl_nat, shr_nat, Nat.min_eq_left (by omega), Nat.min_eq_left (by omega), or_nat _ _ (shr_lt _ _ (loN_lt x)) (by omega)]
    congr 1; symm; apply lo_of; intro i
    rw [Nat.testBit_or, Nat.testBit_mod_two_pow, Nat.testBit_shiftLeft, Nat.testBit_shiftRight, BitVec.getLsbD_ushiftRight, lo_bit, hi_bit]
    by_cases h1 : i < 64
    · by_cases h2 : n + i < 64
      · have h3 : ¬ (i ≥ 64 - n) := by omega
        simp [h1, h2, h3]
      · have h3 : i ≥ 64 - n := by omega
        have e : i - (64 - n) + 64 = n + i := by omega
        simp [h1, h2, h3, e]
    · have h2 : ¬ (n + i < 64) := by omega
      simp [h1, h2]
  · unfold hi
    rw [shr_nat, Nat.min_eq_left (by omega)]
    congr 1; symm; apply hi_of; intro i
    rw [Nat.testBit_shiftRight, BitVec.getLsbD_ushiftRight, hi_bit]
    congr 1
end Go.Proofs.Ytpchlnbnpgaocaa.MBits
