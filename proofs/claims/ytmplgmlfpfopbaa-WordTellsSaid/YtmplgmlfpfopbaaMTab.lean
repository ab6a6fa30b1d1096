/- Rows of 128 numbers by their places; a word out of its bits. Plain lemmas, no program in sight. -/
import Derived.Test.YtmplgmlfpfopbaaMBits
set_option linter.unusedVariables false
set_option linter.unusedSimpArgs false
namespace Go.Proofs.Ytmplgmlfpfopbaa.MTab
open Go.RowKit Go.Proofs.Ytmplgmlfpfopbaa.MBits Go.Proofs.YtmplgmlfpfopbaaW.PrintWords

def b2i (b : Bool) : Int := if b then 1 else 0
theorem b2i_range (b : Bool) : 0 ≤ b2i b ∧ b2i b ≤ 1 := by cases b <;> decide
/-- A row of 128 numbers. -/
def tab (f : Nat → Int) : List Int := (List.range 128).map f
theorem tab_len (f : Nat → Int) : (tab f).length = 128 := by simp [tab]
theorem tab_congr {f g : Nat → Int} (h : ∀ i, i < 128 → f i = g i) : tab f = tab g := by
  unfold tab; exact List.map_congr_left fun i hi => h i (List.mem_range.1 hi)
theorem tab_zero : List.replicate 128 (0 : Int) = tab (fun _ => 0) := by
  unfold tab; rw [List.map_const', List.length_range]
theorem tab_get (f : Nat → Int) (j : Nat) (h : j < 128) : (tab f)[j]? = some (f j) := by
  unfold tab; simp [h]
theorem rd_tab (f : Nat → Int) (j : Nat) (h : j < 128) : rd (tab f) (j : Int) = f j := by
  unfold rd; rw [List.getD_eq_getElem?_getD, Int.toNat_natCast, tab_get f j h]; rfl
theorem tab_set (f : Nat → Int) (j : Nat) (v : Int) : (tab f).set j v = tab (fun i => if i = j then v else f i) := by
  apply List.ext_getElem?
  intro i
  rw [List.getElem?_set]
  by_cases hi : i < 128
  · rw [tab_get _ i hi, tab_get _ i hi, tab_len]
    by_cases e : j = i
    · subst e; simp [hi]
    · have : i ≠ j := fun h => e h.symm
      simp [e, this]
  · have h1 : ∀ f, (tab f)[i]? = none := fun f => List.getElem?_eq_none (by rw [tab_len]; omega)
    rw [h1, h1, tab_len]
    by_cases e : j = i
    · subst e; simp [hi]
    · simp [e]
/-- The row of a word's bits, the highest first. -/
def bl (g : Nat → Bool) : List Int := tab fun j => b2i (g (127 - j))
/-- A word out of bits, the highest first. -/
def wl (l : List Bool) : W := l.foldl (fun w b => (w <<< 1) ||| (if b then 1#128 else 0#128)) 0#128
theorem wl_snoc (l : List Bool) (b : Bool) : wl (l ++ [b]) = (wl l <<< 1) ||| (if b then 1#128 else 0#128) := by
  unfold wl; rw [List.foldl_append]; rfl
theorem bit0 (b : Bool) (i : Nat) : (if b then 1#128 else 0#128 : W).getLsbD i = (b && decide (i = 0)) := by
  cases b
  · simp
  · simp only [if_true, Bool.true_and]
    by_cases h : i = 0
    · subst h; decide
    · rw [BitVec.getLsbD_one]; simp [h]
theorem wl_bit (l : List Bool) : ∀ i, i < 128 → (wl l).getLsbD i = (l.reverse[i]?).getD false := by
  have key : ∀ (m : List Bool) (i : Nat), i < 128 → (wl m.reverse).getLsbD i = (m[i]?).getD false := by
    intro m
    induction m with
    | nil => intro i hi; simp [wl]
    | cons b m ih =>
      intro i hi
      rw [List.reverse_cons, wl_snoc, BitVec.getLsbD_or, BitVec.getLsbD_shiftLeft, bit0]
      cases i with
      | zero => simp
      | succ i =>
        have := ih i (by omega)
        simp [this, hi]
  intro i hi
  have := key l.reverse i hi
  rwa [List.reverse_reverse] at this
/-- A word out of a function of its bits. -/
def wf (g : Nat → Bool) : W := wl ((List.range 128).map fun j => g (127 - j))
theorem wf_bit (g : Nat → Bool) (i : Nat) (hi : i < 128) : (wf g).getLsbD i = g i := by
  unfold wf
  rw [wl_bit _ i hi, List.getElem?_reverse (by simp; omega)]
  have e : 127 - (127 - i) = i := by omega
  simp [hi, e]
  have h2 : 127 - i < 128 := by omega
  simp [h2, e]
theorem wf_of (x : W) : wf (fun i => x.getLsbD i) = x := by
  apply BitVec.eq_of_getLsbD_eq; intro i hi; rw [wf_bit _ i hi]
theorem wf_eq {g : Nat → Bool} {x : W} (h : ∀ i, i < 128 → g i = x.getLsbD i) : wf g = x := by
  apply BitVec.eq_of_getLsbD_eq; intro i hi; rw [wf_bit _ i hi, h i hi]
/-- One bit more. -/
theorem step_toNat (w : W) (b : Bool) : ((w <<< 1) ||| (if b then 1#128 else 0#128)).toNat = (w.toNat * 2 + (if b then 1 else 0)) % 2 ^ 128 := by
  rw [BitVec.toNat_or, BitVec.toNat_shiftLeft, Nat.shiftLeft_eq]
  have h := w.isLt
  cases b
  · simp
  · have e : (w.toNat * 2 ^ 1 % 2 ^ 128) ||| 1 = w.toNat * 2 ^ 1 % 2 ^ 128 + 1 := nat_join 1 _ _ (by omega) (by omega)
    show (w.toNat * 2 ^ 1 % 2 ^ 128) ||| 1 = _
    rw [e]
    simp only [if_true]
    omega
theorem step_hi (w : W) (b : Bool) : hi ((w <<< 1) ||| (if b then 1#128 else 0#128)) = ((hi w * 2) % 18446744073709551616 + lo w / 9223372036854775808) % 18446744073709551616 := by
  unfold hi lo hiN loN
  rw [step_toNat]
  have h := w.isLt
  cases b
  · simp only [Bool.false_eq_true, if_false]; omega
  · simp only [if_true]; omega
theorem step_lo (w : W) (b : Bool) : lo ((w <<< 1) ||| (if b then 1#128 else 0#128)) = ((lo w * 2) % 18446744073709551616 + b2i b) % 18446744073709551616 := by
  unfold lo loN b2i
  rw [step_toNat]
  have h := w.isLt
  cases b
  · simp only [Bool.false_eq_true, if_false]; omega
  · simp only [if_true]; omega
theorem getLsb_hi (x : W) (i : Nat) (h : i < 64) : hi x / 2 ^ i % 2 = b2i (x.getLsbD (i + 64)) := by
  have := hi_bit x i
  rw [Nat.testBit_eq_decide_div_mod_eq] at this
  unfold hi b2i
  have e : ((hiN x : Nat) : Int) / 2 ^ i % 2 = ((hiN x / 2 ^ i % 2 : Nat) : Int) := by
    rw [Int.natCast_emod, Int.natCast_ediv, Int.natCast_pow]; rfl
  rw [e, ← this]
  rcases Nat.mod_two_eq_zero_or_one (hiN x / 2 ^ i) with h | h <;> simp [h]
theorem getLsb_lo (x : W) (i : Nat) (h : i < 64) : lo x / 2 ^ i % 2 = b2i (x.getLsbD i) := by
  have := lo_bit x i
  rw [Nat.testBit_eq_decide_div_mod_eq] at this
  simp only [decide_eq_true h, Bool.true_and] at this
  unfold lo b2i
  have e : ((loN x : Nat) : Int) / 2 ^ i % 2 = ((loN x / 2 ^ i % 2 : Nat) : Int) := by
    rw [Int.natCast_emod, Int.natCast_ediv, Int.natCast_pow]; rfl
  rw [e, ← this]
  rcases Nat.mod_two_eq_zero_or_one (loN x / 2 ^ i) with h | h <;> simp [h]
end Go.Proofs.Ytmplgmlfpfopbaa.MTab
