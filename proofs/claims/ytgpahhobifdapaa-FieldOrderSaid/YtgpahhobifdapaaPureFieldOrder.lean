/- FieldOrder: of two texts of one length, to 16 bytes, the numbers of all their bits stand to each other as the texts do; such a number's text is the text. -/
import Derived.Test.YtgpahhobifdapaaKOrder
import Derived.Test.YtgpahhobifdapaaMText
set_option linter.unusedVariables false
set_option linter.unusedSimpArgs false
namespace Go.Proofs.Ytgpahhobifdapaa.Pure
open Go.RowKit Go.Proofs.Ytgpahhobifdapaa.PField Go.Proofs.Ytgpahhobifdapaa.MBits Go.Proofs.Ytgpahhobifdapaa.MWord Go.Proofs.Ytgpahhobifdapaa.MField Go.Proofs.Ytgpahhobifdapaa.MPut Go.Proofs.Ytgpahhobifdapaa.MTell Go.Proofs.Ytgpahhobifdapaa.MText Go.Proofs.YtgpahhobifdapaaW.PrintWords Go.Proofs.YtgpahhobifdapaaW.PrintLast

theorem num_natOf (s : ByteArray) : ∀ i, i ≤ s.size → num s 0 (8 * i) = natOf (s.data.toList.take i) := by
  intro i
  induction i with
  | zero => intro _; rfl
  | succ i ih =>
    intro h
    have hl : i < s.data.toList.length := by rw [data_length]; omega
    rw [show 8 * (i + 1) = 8 * i + 8 by omega, num_add, ih (by omega), List.take_succ_eq_append_getElem hl, natOf_snoc, Nat.zero_add, num_byte s i 8 (Nat.le_refl _), Nat.sub_self, Nat.pow_zero, Nat.div_one, bN_at s i (by omega)]
    rfl
theorem num_all (s : ByteArray) (n : Nat) (h : s.size = n) : num s 0 (8 * n) = natOf s.toList := by
  rw [num_natOf s n (by omega), ByteArray.toList_eq, List.take_of_length_le (by rw [data_length]; omega)]
theorem num_text (s : ByteArray) (n : Nat) (h : s.size = n) : txt (fb (num s 0 (8 * n)) (8 * n) n) n = s := by
  refine text_ext (by rw [txt_size, h]) (fun p hp => ?_)
  rw [txt_size] at hp
  rw [bit_txt (fb_lt _ _ _) _ _ hp]
  unfold fb
  rw [if_pos (by omega), num_nF]
  have := nF_bit (bitAt_lt s) 0 (8 * n) p hp
  rwa [Nat.zero_add] at this
theorem order (s t : ByteArray) (w : World) (hs : s.size ≤ 140737488351232) (ht : t.size ≤ 140737488351232) :
    Calls Try.prog 11 #[.string s, .string t] w fun e w' => e = .returned (.bool true) ∧ Below w.heap.size w w' := by
  obtain ⟨n, hn⟩ : ∃ n, n = min (min s.size t.size) 16 := ⟨_, rfl⟩
  by_cases h0 : n = 0
  · subst h0
    obtain ⟨k, hk⟩ := awake_ev
    exact order_none s t w k hs ht hn ⟨hk k (Nat.le_refl _)⟩
  · have hS : (s.extract 0 n).size = n := by rw [ByteArray.size_extract]; omega
    have hT : (t.extract 0 n).size = n := by rw [ByteArray.size_extract]; omega
    have h1 := get_ok (s.extract 0 n) 0 (8 * n) (by omega) (by omega) (by omega) (by omega)
    have h2 := get_ok (t.extract 0 n) 0 (8 * n) (by omega) (by omega) (by omega) (by omega)
    have h3 := ftext_ok (BitVec.ofNat 128 (num (s.extract 0 n) 0 (8 * n))) (8 * n) n (by omega) (by omega) (by omega)
    have la := num_lt (s.extract 0 n) 0 (8 * n)
    have lb := num_lt (t.extract 0 n) 0 (8 * n)
    have hle : 2 ^ (8 * n) ≤ 2 ^ 128 := Nat.pow_le_pow_right (by omega) (by omega)
    rw [BitVec.toNat_ofNat, Nat.mod_eq_of_lt (Nat.lt_of_lt_of_le la hle), num_text _ n hS] at h3
    rw [Int.natCast_mul] at h1 h2 h3
    have key : ∃ k, field_Get.f k (s.extract 0 n) 0 (8 * n) = some (hi (BitVec.ofNat 128 (num (s.extract 0 n) 0 (8 * n))), lo (BitVec.ofNat 128 (num (s.extract 0 n) 0 (8 * n))), 0) ∧ field_Get.f k (t.extract 0 n) 0 (8 * n) = some (hi (BitVec.ofNat 128 (num (t.extract 0 n) 0 (8 * n))), lo (BitVec.ofNat 128 (num (t.extract 0 n) 0 (8 * n))), 0) ∧ turnoutlaw02_awake.f k = some true := by
      obtain ⟨ka, ha⟩ := h1
      obtain ⟨kb, hb⟩ := h2
      obtain ⟨kc, hc⟩ := awake_ev
      exact ⟨max ka (max kb kc), ha _ (by omega), hb _ (by omega), hc _ (by omega)⟩
    obtain ⟨k, ka, kb, kc⟩ := key
    have hnl : (s.extract 0 n).toList.length = (t.extract 0 n).toList.length := by rw [ByteArray.toList_eq, ByteArray.toList_eq, data_length, data_length, hS, hT]
    have hless := less_iff (s.extract 0 n).toList (t.extract 0 n).toList hnl
    have hinj := natOf_inj (s.extract 0 n).toList (t.extract 0 n).toList hnl
    rw [← num_all _ n hS, ← num_all _ n hT] at hless hinj
    refine order_walk s t n w k _ _ _ _ _ (Op.bytesLess (s.extract 0 n).toList (t.extract 0 n).toList) ((s.extract 0 n).toList == (t.extract 0 n).toList) hs ht hn (by omega) ⟨ka⟩ ⟨kb⟩ ⟨h3⟩ ⟨rfl⟩ ?_ rfl ?_ rfl ⟨kc⟩
    · generalize num (s.extract 0 n) 0 (8 * n) = x at *
      generalize num (t.extract 0 n) 0 (8 * n) = y at *
      rw [Bool.eq_iff_iff, decide_eq_true_eq, hless, hi_v x (by omega), lo_v x (by omega), hi_v y (by omega), lo_v y (by omega)]
      constructor
      · intro h; split at h
        · omega
        · split at h
          · rename_i h3; omega
          · omega
      · intro h
        rw [if_neg (by omega), if_pos (by omega)]
        omega
    · rw [beq2, Bool.eq_iff_iff, beq_iff_eq, beq_iff_eq]
      constructor
      · intro h
        have h' := congrArg BitVec.toNat h
        rw [BitVec.toNat_ofNat, BitVec.toNat_ofNat, Nat.mod_eq_of_lt (Nat.lt_of_lt_of_le la hle), Nat.mod_eq_of_lt (Nat.lt_of_lt_of_le lb hle)] at h'
        exact hinj h'
      · intro h
        rw [num_all _ n hS, num_all _ n hT, h]
end Go.Proofs.Ytgpahhobifdapaa.Pure
