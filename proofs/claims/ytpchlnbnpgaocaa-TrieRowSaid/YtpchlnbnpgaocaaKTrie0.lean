/- What trie's bit and prefix tell of a key. -/
import Derived.Test.YtpchlnbnpgaocaaMField
import Derived.Test.YtpchlnbnpgaocaaKBits
import Derived.Test.YtpchlnbnpgaocaaKTree
import Derived.Test.YtpchlnbnpgaocaaKReg
namespace Go.Proofs.Ytpchlnbnpgaocaa.PTrie
open Go.Proofs.Ytpchlnbnpgaocaa.KReg Go.Proofs.Ytpchlnbnpgaocaa.KBits Go.RowKit Go.Proofs.YtpchlnbnpgaocaaW.PrintWords Go.Proofs.YtpchlnbnpgaocaaW.PrintLast Go.Proofs.YtpchlnbnpgaocaaW.PrintMore
set_option linter.unusedVariables false
set_option linter.unusedSimpArgs false
theorem and_one (n : Nat) : Go.bits .and .i64 (n : Int) 1 = ((n % 2 : Nat) : Int) := by
  have h1 : (BitVec.ofInt 64 1).toNat = 2 ^ 1 - 1 := by decide
  have key : (BitVec.ofInt 64 n &&& BitVec.ofInt 64 1).toNat = (n % ((2 ^ 64 : Nat) : Int)).toNat % 2 ^ 1 := by
    rw [BitVec.toNat_and, BitVec.toNat_ofInt, h1, Nat.and_two_pow_sub_one_eq_mod]
  show IntKind.i64.wrap ((BitVec.ofInt 64 n &&& BitVec.ofInt 64 1).toNat : Nat) = _
  rw [key, IntKind.wrap_i64]
  omega
/-- The i-th bit of a text, and its number. -/
def tb (s : ByteArray) (i : Nat) : Bool := bitAt s.data.toList i
def bI (b : Bool) : Int := if b then 1 else 0
theorem bN_list (s : ByteArray) (i : Nat) (h : i < s.size) : MField.bN s i = (s.data.toList.getD i 0).toNat := by
  unfold MField.bN
  have e : bt s (i : Int) = ((s[i]).toNat : Int) := by
    unfold bt; simp [h]
  rw [e, List.getD_eq_getElem?_getD, List.getElem?_eq_getElem (by rw [Array.length_toList]; exact h)]
  rfl
theorem bit_f (s : ByteArray) (i : Nat) (h : i < 8 * s.size) (hs : s.size ≤ 140737488351232) : trie_bit.f s i = some (bI (tb s i)) := by
  have e1 : Int.tdiv (i : Int) 8 = ((i / 8 : Nat) : Int) := by rw [Int.tdiv_eq_ediv_of_nonneg (by omega)]; omega
  have e2 : Int.tmod (i : Int) 8 = ((i % 8 : Nat) : Int) := by rw [Int.tmod_eq_emod_of_nonneg (by omega)]; omega
  unfold trie_bit.f
  rw [e1, e2, MBits.w64 (n := ((i / 8 : Nat) : Int)) (by omega) (by omega), MBits.w64 (n := 7 - ((i % 8 : Nat) : Int)) (by omega) (by omega), if_pos (by omega), if_pos (by omega), if_pos (by omega)]
  have e3 : (7 - ((i % 8 : Nat) : Int)) = ((7 - i % 8 : Nat) : Int) := by omega
  rw [e3, MField.bN_bt, MField.shr8 _ _ (by omega), bN_list s _ (by omega)]
  have hb := (s.data.toList.getD (i / 8) 0).toNat_lt
  have hd : (s.data.toList.getD (i / 8) 0).toNat / 2 ^ (7 - i % 8) ≤ 255 := Nat.le_trans (Nat.div_le_self _ _) (by omega)
  have hw : ∀ x : Nat, x ≤ 255 → wrap64 (x : Int) = x := fun x hx => MBits.w64 (by omega) (by omega)
  rw [hw _ hd, and_one]
  congr 1
  unfold tb bitAt bitN bI
  cases Nat.mod_two_eq_zero_or_one ((s.data.toList.getD (i / 8) 0).toNat / 2 ^ (7 - i % 8)) with
  | inl h => rw [h]; rfl
  | inr h => rw [h]; rfl
theorem bit_c (s : ByteArray) (i : Nat) (h : i < 8 * s.size) (hs : s.size ≤ 140737488351232) (w : World) : Calls Try.prog 24 #[.string s, .int .i64 i] w fun e w' => e = .returned (.int .i64 (bI (tb s i))) ∧ Below w.heap.size w w' :=
  (trie_bit.calls s i _ w (bit_f s i h hs)).mono fun e w' hd => by
    obtain ⟨he, m, hm⟩ := hd
    exact ⟨he, by rw [hm]; exact pw_below_drewN (Below.refl _ _) m⟩
/-- It is a prefix. -/
def OkPre (s : ByteArray) (n : Int) : Prop := 0 ≤ n ∧ n ≤ 256 ∧ (s.size : Int) = (n + 7) / 8 ∧ ∀ i : Nat, n ≤ i → i < 8 * s.size → tb s i = false
theorem num_zero (s : ByteArray) (o n : Nat) : MField.num s o n = 0 ↔ ∀ j, j < n → MField.bitAt s (o + j) = 0 := by
  induction n with
  | zero => exact ⟨fun _ j hj => absurd hj (by omega), fun _ => rfl⟩
  | succ n ih =>
    have e : MField.num s o (n + 1) = 2 * MField.num s o n + MField.bitAt s (o + n) := rfl
    rw [e]
    constructor
    · intro h j hj
      by_cases hjn : j = n
      · subst hjn; omega
      · exact ih.1 (by omega) j (by omega)
    · intro h
      have h1 := ih.2 (fun j hj => h j (by omega))
      have h2 := h n (by omega)
      omega
theorem tb_bit (s : ByteArray) (i : Nat) (h : i < 8 * s.size) : tb s i = (MField.bitAt s i == 1) := by
  unfold tb bitAt bitN MField.bitAt
  rw [bN_list s _ (by omega)]
theorem pre_ev (s : ByteArray) (n : Int) (hs : s.size ≤ 140737488351232) : ∃ x, Ev (fun k => trie_prefix.f k s n) x ∧ (x = 0 ↔ OkPre s n) := by
  unfold trie_prefix.f
  have one : ∀ b : Bool, b = true → Ev (fun k => trie_prefix.j0 k s n b) 1 := fun b hb => by
    subst hb
    exact Ev.step (f := fun _ => some 1) (fun k => by rw [trie_prefix.j0]; rfl) (Ev.now _)
  by_cases h1 : n < 0
  · exact ⟨1, MBits.Ev.ip h1 (one _ rfl), ⟨fun h => absurd h (by decide), fun h => absurd h.1 (by omega)⟩⟩
  · by_cases h2 : n > 256
    · exact ⟨1, MBits.Ev.in h1 (one _ (decide_eq_true h2)), ⟨fun h => absurd h (by decide), fun h => absurd h.2.1 (by omega)⟩⟩
    · obtain ⟨m, rfl⟩ := Int.eq_ofNat_of_zero_le (show 0 ≤ n by omega)
      have e0 : wrap64 ((m : Int) + 7) = (m : Int) + 7 := MBits.w64 (by omega) (by omega)
      have e1 : wrap64 (Int.tdiv ((m : Int) + 7) 8) = ((m : Int) + 7) / 8 := by rw [Int.tdiv_eq_ediv_of_nonneg (by omega), MBits.w64 (by omega) (by omega)]
      have e2 : Int.tmod (m : Int) 8 = ((m % 8 : Nat) : Int) := by rw [Int.tmod_eq_emod_of_nonneg (by omega)]; omega
      have st : ∀ {r : Int}, Ev (fun k => if (s.size : Int) = ((m : Int) + 7) / 8 then (if ((m % 8 : Nat) : Int) > 0 then ((field_Get.f k s m (wrap64 (8 - ((m % 8 : Nat) : Int)))).bind fun bt143 => (if (!(bt143.1 == 0) || (!(bt143.2.1 == 0))) = true then (some 3) else (some 0))) else (some 0)) else (some 3)) r →
          Ev (fun k => if (m : Int) < 0 then trie_prefix.j0 k s m true else trie_prefix.j0 k s m (decide ((m : Int) > 256))) r := fun h => by
        refine MBits.Ev.in h1 ?_
        rw [decide_eq_false h2]
        refine Ev.step (fun k => ?_) h
        rw [trie_prefix.j0, e0, e1, e2, if_neg (by decide)]
      by_cases h3 : (s.size : Int) = ((m : Int) + 7) / 8
      · by_cases h4 : ((m % 8 : Nat) : Int) > 0
        · have e3 : wrap64 (8 - ((m % 8 : Nat) : Int)) = ((8 - m % 8 : Nat) : Int) := by rw [MBits.w64 (by omega) (by omega)]; omega
          have hg := MField.get_ok s m (8 - m % 8) (by omega) (by omega) (by omega) hs
          have hlt : MField.num s m (8 - m % 8) < 2 ^ 64 := Nat.lt_of_lt_of_le (MField.num_lt s m _) (Nat.pow_le_pow_right (by decide) (by omega))
          rw [MField.hi_v _ (by omega), MField.lo_v _ (by omega), Nat.div_eq_of_lt hlt, Nat.mod_eq_of_lt hlt] at hg
          have hz : MField.num s m (8 - m % 8) = 0 ↔ ∀ i : Nat, (m : Int) ≤ i → i < 8 * s.size → tb s i = false := by
            rw [num_zero]
            constructor
            · intro h i hi hi2
              rw [tb_bit s i hi2]
              have := h (i - m) (by omega)
              rw [show m + (i - m) = i by omega] at this
              rw [this]; rfl
            · intro h j hj
              have := h (m + j) (by omega) (by omega)
              rw [tb_bit s _ (by omega)] at this
              have h2 := MField.bitAt_lt s (m + j)
              have h3 : MField.bitAt s (m + j) ≠ 1 := by simpa using this
              omega
          by_cases h5 : MField.num s m (8 - m % 8) = 0
          · refine ⟨0, st (MBits.Ev.ip h3 (MBits.Ev.ip h4 ?_)), ⟨fun _ => ⟨by omega, by omega, h3, hz.1 h5⟩, fun _ => rfl⟩⟩
            rw [e3]
            refine Ev.bind hg ?_
            rw [h5]
            exact Ev.now _
          · refine ⟨3, st (MBits.Ev.ip h3 (MBits.Ev.ip h4 ?_)), ⟨fun h => absurd h (by decide), fun h => absurd (hz.2 h.2.2.2) h5⟩⟩
            rw [e3]
            refine Ev.bind hg ?_
            exact MBits.Ev.ip (by simp [h5]) (Ev.now _)
        · exact ⟨0, st (MBits.Ev.ip h3 (MBits.Ev.in h4 (Ev.now _))), ⟨fun _ => ⟨by omega, by omega, h3, fun i h5 h6 => absurd h6 (by omega)⟩, fun _ => rfl⟩⟩
      · exact ⟨3, st (MBits.Ev.in h3 (Ev.now _)), ⟨fun h => absurd h (by decide), fun h => absurd h.2.2.1 h3⟩⟩
theorem pre_c (s : ByteArray) (n x : Int) (h : ∃ k, trie_prefix.f k s n = some x) (w : World) : Calls Try.prog 26 #[.string s, .int .i64 n] w fun e w' => e = .returned (.int .i64 x) ∧ Below w.heap.size w w' := by
  obtain ⟨k, hk⟩ := h
  exact trie_prefix.calls k s n x w hk
end Go.Proofs.Ytpchlnbnpgaocaa.PTrie
