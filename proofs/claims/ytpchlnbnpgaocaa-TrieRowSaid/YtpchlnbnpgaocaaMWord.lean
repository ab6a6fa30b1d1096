/- What the functions of package word come to, on words as numbers of 128 bits. Plain lemmas. -/
import Derived.Test.YtpchlnbnpgaocaaMBits
import Derived.Test.YtpchlnbnpgaocaaPTriex3
import Derived.Test.YtpchlnbnpgaocaaPTriex4
import Derived.Test.YtpchlnbnpgaocaaPTriex5
set_option linter.unusedVariables false
set_option linter.unusedSimpArgs false
namespace Go.Proofs.Ytpchlnbnpgaocaa.MWord
open Go.RowKit Go.Proofs.Ytpchlnbnpgaocaa.PTrie Go.Proofs.Ytpchlnbnpgaocaa.MBits Go.Proofs.YtpchlnbnpgaocaaW.PrintWords Go.Proofs.YtpchlnbnpgaocaaW.PrintLast Go.Proofs.YtpchlnbnpgaocaaW.PrintMore

theorem and_ev (x y : W) : word_And.f (hi x) (lo x) (hi y) (lo y) = some (hi (x &&& y), lo (x &&& y)) := by
  unfold word_And.f; rw [and_hi, and_lo]
theorem or_ev (x y : W) : word_Or.f (hi x) (lo x) (hi y) (lo y) = some (hi (x ||| y), lo (x ||| y)) := by
  unfold word_Or.f; rw [or_hi, or_lo]
theorem not_ev (x : W) : word_Not.f (hi x) (lo x) = some (hi (~~~x), lo (~~~x)) := by
  unfold word_Not.f; rw [not_hi, not_lo]
theorem left_ev (x : W) (n : Int) (h0 : -9223372036854775808 ≤ n) (h1 : n ≤ 9223372036854775807) : word_Left.f (hi x) (lo x) n = some (hi (x <<< n.toNat), lo (x <<< n.toNat)) := by
  unfold word_Left.f
  by_cases h : n ≤ 0
  · rw [if_pos h]
    have e : n.toNat = 0 := by omega
    rw [e, BitVec.shiftLeft_zero]
  · rw [if_neg h]
    obtain ⟨m, rfl⟩ := Int.eq_ofNat_of_zero_le (show 0 ≤ n by omega)
    rw [Int.toNat_natCast]
    by_cases h2 : (m : Int) ≥ 64
    · have e : wrap64 ((m : Int) - 64) = ((m - 64 : Nat) : Int) := by rw [w64 (by omega) (by omega)]; omega
      have := left_far x m (by omega)
      rw [if_pos h2, e, if_pos (by omega), this.1, this.2]
    · have e : wrap64 (64 - (m : Int)) = ((64 - m : Nat) : Int) := by rw [w64 (by omega) (by omega)]; omega
      have := left_near x m (by omega) (by omega)
      rw [if_neg h2, e, if_pos (by omega), if_pos (by omega), this.1, this.2]
theorem right_ev (x : W) (n : Int) (h0 : -9223372036854775808 ≤ n) (h1 : n ≤ 9223372036854775807) : word_Right.f (hi x) (lo x) n = some (hi (x >>> n.toNat), lo (x >>> n.toNat)) := by
  unfold word_Right.f
  by_cases h : n ≤ 0
  · rw [if_pos h]
    have e : n.toNat = 0 := by omega
    rw [e, BitVec.ushiftRight_zero]
  · rw [if_neg h]
    obtain ⟨m, rfl⟩ := Int.eq_ofNat_of_zero_le (show 0 ≤ n by omega)
    rw [Int.toNat_natCast]
    by_cases h2 : (m : Int) ≥ 64
    · have e : wrap64 ((m : Int) - 64) = ((m - 64 : Nat) : Int) := by rw [w64 (by omega) (by omega)]; omega
      have := right_far x m (by omega)
      rw [if_pos h2, e, if_pos (by omega), this.1, this.2]
    · have e : wrap64 (64 - (m : Int)) = ((64 - m : Nat) : Int) := by rw [w64 (by omega) (by omega)]; omega
      have := right_near x m (by omega) (by omega)
      rw [if_neg h2, e, if_pos (by omega), if_pos (by omega), this.1, this.2]
/-- The mask of so many bits. -/
def mask (n : Int) : W := BitVec.allOnes 128 >>> (128 - min n.toNat 128)
theorem mask_ev (n : Int) : word_Mask.f n = some (hi (mask n), lo (mask n)) := by
  unfold word_Mask.f
  have e0 : word_Not.f 0 0 = some (hi (BitVec.allOnes 128), lo (BitVec.allOnes 128)) := by
    have := not_ev 0#128
    rw [zero_hi, zero_lo, BitVec.not_zero] at this
    exact this
  rw [e0]
  simp only [Option.bind_some]
  have e : 128 - mn (mx n 0) 128 = ((128 - min n.toNat 128 : Nat) : Int) := by unfold mn mx; split <;> (try split) <;> omega
  rw [e, right_ev _ _ (by omega) (by omega)]
  simp only [Option.bind_some, Int.toNat_natCast]
  rfl
theorem cut_ev (x : W) (n : Int) : word_Cut.f (hi x) (lo x) n = some (hi (x &&& mask n), lo (x &&& mask n)) := by
  unfold word_Cut.f
  rw [mask_ev]
  simp only [Option.bind_some]
  rw [and_ev]
  rfl
theorem new_ev (n : Int) (h0 : 0 ≤ n) (h1 : n < 18446744073709551616) : word_New.f n = some (hi (BitVec.ofNat 128 n.toNat), lo (BitVec.ofNat 128 n.toNat)) := by
  unfold word_New.f
  have e1 : hi (BitVec.ofNat 128 n.toNat) = 0 := by unfold hi; rw [hiN_mk _ (by omega)]; omega
  have e2 : lo (BitVec.ofNat 128 n.toNat) = n := by unfold lo; rw [loN_mk _ (by omega)]; omega
  rw [e1, e2]

end Go.Proofs.Ytpchlnbnpgaocaa.MWord
