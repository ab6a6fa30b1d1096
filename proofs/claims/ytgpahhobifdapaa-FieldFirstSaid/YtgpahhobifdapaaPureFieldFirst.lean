/- FieldFirst: at least n first bits of two texts are alike just if the fields of n bits at 0 are; the next bit of both, if there is one, is not. -/
import Derived.Test.YtgpahhobifdapaaKFirst
set_option linter.unusedVariables false
set_option linter.unusedSimpArgs false
namespace Go.Proofs.Ytgpahhobifdapaa.Pure
open Go.RowKit Go.Proofs.Ytgpahhobifdapaa.PField Go.Proofs.Ytgpahhobifdapaa.MBits Go.Proofs.Ytgpahhobifdapaa.MWord Go.Proofs.Ytgpahhobifdapaa.MField Go.Proofs.Ytgpahhobifdapaa.MPut Go.Proofs.Ytgpahhobifdapaa.MTell Go.Proofs.YtgpahhobifdapaaW.PrintWords Go.Proofs.YtgpahhobifdapaaW.PrintLast

theorem num_bits (s t : ByteArray) (n : Nat) : num s 0 n = num t 0 n ↔ ∀ p, p < n → bitAt s p = bitAt t p := by
  rw [num_nF, num_nF]
  constructor
  · intro h p hp
    have h1 := nF_bit (bitAt_lt s) 0 n p hp
    have h2 := nF_bit (bitAt_lt t) 0 n p hp
    rw [Nat.zero_add] at h1 h2
    rw [← h1, ← h2, h]
  · intro h
    exact nF_congr (fun j hj => by rw [Nat.zero_add]; exact h j hj)
theorem word_eq {a b : Nat} (ha : a < 2 ^ 128) (hb : b < 2 ^ 128) : (BitVec.ofNat 128 a == BitVec.ofNat 128 b) = decide (a = b) := by
  rw [Bool.eq_iff_iff, beq_iff_eq, decide_eq_true_eq]
  constructor
  · intro h
    have := congrArg BitVec.toNat h
    rwa [BitVec.toNat_ofNat, BitVec.toNat_ofNat, Nat.mod_eq_of_lt ha, Nat.mod_eq_of_lt hb] at this
  · intro h; rw [h]
theorem get_any (s : ByteArray) (n : Nat) (hs : s.size ≤ 140737488351232) (h1 : 1 ≤ n) (h2 : n ≤ 128) :
    (n ≤ 8 * s.size ∧ Ev (fun k => field_Get.f k s 0 n) (hi (BitVec.ofNat 128 (num s 0 n)), lo (BitVec.ofNat 128 (num s 0 n)), 0)) ∨ Ev (fun k => field_Get.f k s 0 n) (0, 0, 4) := by
  by_cases h : n ≤ 8 * s.size
  · exact .inl ⟨h, get_ok s 0 n h1 h2 (by omega) hs⟩
  · have hm : may s 0 n = 4 := by unfold may; rw [if_neg (by omega), if_pos (by omega)]
    have := get_bad s 0 n hs (by rw [hm]; decide)
    rw [hm] at this
    exact .inr this
theorem first (s t : ByteArray) (N : Int) (w : World) (hs : s.size ≤ 140737488351232) (ht : t.size ≤ 140737488351232) :
    Calls Try.prog 7 #[.string s, .string t, .int .i64 N] w fun e w' => e = .returned (.bool true) ∧ Below w.heap.size w w' := by
  obtain ⟨k0, hk0⟩ := awake_ev
  by_cases b1 : 2000 < s.size
  · exact first_bigs s t N w k0 hs ht b1 ⟨hk0 k0 (Nat.le_refl _)⟩
  by_cases b2 : 2000 < t.size
  · exact first_bigt s t N w k0 hs ht (by omega) b2 ⟨hk0 k0 (Nat.le_refl _)⟩
  obtain ⟨r, hr, k1, hk1⟩ := pre_ev s t hs ht
  obtain ⟨r', hr', k2, hk2⟩ := pre_ev t s ht hs
  obtain rfl := hr.uniq hr'.symm
  obtain ⟨n, hN, hn1, hn2⟩ : ∃ n : Nat, wrap64 (1 + wrap64 ((IntKind.u64.wrap N).tmod 128)) = (n : Int) ∧ 1 ≤ n ∧ n ≤ 128 := by
    have hw : 0 ≤ IntKind.u64.wrap N := by rw [IntKind.wrap_u64]; omega
    have ht : (IntKind.u64.wrap N).tmod 128 = IntKind.u64.wrap N % 128 := Int.tmod_eq_emod_of_nonneg hw
    rw [ht]
    generalize IntKind.u64.wrap N = u at hw
    refine ⟨(1 + u % 128).toNat, ?_, by omega, by omega⟩
    rw [w64 (n := u % 128) (by omega) (by omega), w64 (by omega) (by omega)]; omega
  obtain ⟨m, hm⟩ : ∃ m, m = min s.size t.size := ⟨_, rfl⟩
  obtain ⟨r1, r2, r3, r4⟩ := hr
  have hpow : 2 ^ n ≤ 2 ^ 128 := Nat.pow_le_pow_right (by omega) hn2
  have hle1 : num s 0 n < 2 ^ 128 := Nat.lt_of_lt_of_le (num_lt s 0 n) hpow
  have hle2 : num t 0 n < 2 ^ 128 := Nat.lt_of_lt_of_le (num_lt t 0 n) hpow
  have hboth : n ≤ 8 * s.size → n ≤ 8 * t.size → (hi (BitVec.ofNat 128 (num s 0 n)) == hi (BitVec.ofNat 128 (num t 0 n)) && (lo (BitVec.ofNat 128 (num s 0 n)) == lo (BitVec.ofNat 128 (num t 0 n)))) = decide (n ≤ r) := by
    intro h1 h2
    rw [beq2, word_eq hle1 hle2, decide_eq_decide, num_bits]
    constructor
    · intro h
      by_cases e : n ≤ r
      · exact e
      · rcases r4 with e1 | e1 | e1
        · omega
        · omega
        · exact absurd (h r (by omega)) e1
    · intro h p hp; exact r3 p (by omega)
  have hcase : r < 8 * m ∨ r = 8 * m := by omega
  rcases hcase with hA | hB
  · have hne : (hi (BitVec.ofNat 128 (num s r 1)) == hi (BitVec.ofNat 128 (num t r 1)) && (lo (BitVec.ofNat 128 (num s r 1)) == lo (BitVec.ofNat 128 (num t r 1)))) = false := by
      have c1 : num s r 1 = bitAt s r := by unfold num num; simp
      have c2 : num t r 1 = bitAt t r := by unfold num num; simp
      have l1 := bitAt_lt s r; have l2 := bitAt_lt t r
      rw [beq2, word_eq (by omega) (by omega), c1, c2, decide_eq_false_iff_not]
      rcases r4 with e1 | e1 | e1
      · omega
      · omega
      · exact e1
    obtain ⟨k3, hk3⟩ := get_ok s r 1 (by omega) (by omega) (by omega) hs
    obtain ⟨k4, hk4⟩ := get_ok t r 1 (by omega) (by omega) (by omega) ht
    rcases get_any s n hs hn1 hn2 with ⟨h5, k5, hk5⟩ | ⟨k5, hk5⟩
    · rcases get_any t n ht hn1 hn2 with ⟨h6, k6, hk6⟩ | ⟨k6, hk6⟩
      · exact first_A_both s t N r m n w (max (max (max k0 k1) (max k2 k3)) (max (max k4 k5) k6)) _ _ _ _ _ _ _ _ 0 _ (by omega) (by omega) hm hA hN hn2 ⟨hk1 _ (by omega)⟩ ⟨hk2 _ (by omega)⟩ ⟨hk3 _ (by omega)⟩ ⟨hk4 _ (by omega)⟩ hne ⟨hk5 _ (by omega)⟩ ⟨hk6 _ (by omega)⟩ (hboth h5 h6) rfl ⟨hk0 _ (by omega)⟩
      · exact first_A_f s t N r m n w (max (max (max k0 k1) (max k2 k3)) (max (max k4 k5) k6)) _ _ _ _ _ _ _ _ 0 true (by omega) (by omega) hm hA hN hn2 ⟨hk1 _ (by omega)⟩ ⟨hk2 _ (by omega)⟩ ⟨hk3 _ (by omega)⟩ ⟨hk4 _ (by omega)⟩ hne ⟨hk5 _ (by omega)⟩ ⟨hk6 _ (by omega)⟩ ⟨hk0 _ (by omega)⟩
    · obtain ⟨p, k6, hk6⟩ : ∃ p : Int × Int × Int, Ev (fun k => field_Get.f k t 0 n) p := by
        rcases get_any t n ht hn1 hn2 with ⟨h6, h⟩ | h
        · exact ⟨_, h⟩
        · exact ⟨_, h⟩
      obtain ⟨p1, p2, p3⟩ := p
      exact first_A_e s t N r m n w (max (max (max k0 k1) (max k2 k3)) (max (max k4 k5) k6)) _ _ _ _ _ _ _ _ p3 true (by omega) (by omega) hm hA hN hn2 ⟨hk1 _ (by omega)⟩ ⟨hk2 _ (by omega)⟩ ⟨hk3 _ (by omega)⟩ ⟨hk4 _ (by omega)⟩ hne ⟨hk5 _ (by omega)⟩ ⟨hk6 _ (by omega)⟩ ⟨hk0 _ (by omega)⟩
  · rcases get_any s n hs hn1 hn2 with ⟨h5, k5, hk5⟩ | ⟨k5, hk5⟩
    · rcases get_any t n ht hn1 hn2 with ⟨h6, k6, hk6⟩ | ⟨k6, hk6⟩
      · exact first_B_both s t N r m n w (max (max (max k0 k1) (max k2 k5)) k6) 0 0 0 0 _ _ _ _ 0 _ (by omega) (by omega) hm hB hN hn2 ⟨hk1 _ (by omega)⟩ ⟨hk2 _ (by omega)⟩ ⟨hk5 _ (by omega)⟩ ⟨hk6 _ (by omega)⟩ (hboth h5 h6) rfl ⟨hk0 _ (by omega)⟩
      · exact first_B_f s t N r m n w (max (max (max k0 k1) (max k2 k5)) k6) 0 0 0 0 _ _ _ _ 0 true (by omega) (by omega) hm hB hN hn2 ⟨hk1 _ (by omega)⟩ ⟨hk2 _ (by omega)⟩ ⟨hk5 _ (by omega)⟩ ⟨hk6 _ (by omega)⟩ ⟨hk0 _ (by omega)⟩
    · obtain ⟨p, k6, hk6⟩ : ∃ p : Int × Int × Int, Ev (fun k => field_Get.f k t 0 n) p := by
        rcases get_any t n ht hn1 hn2 with ⟨h6, h⟩ | h
        · exact ⟨_, h⟩
        · exact ⟨_, h⟩
      obtain ⟨p1, p2, p3⟩ := p
      exact first_B_e s t N r m n w (max (max (max k0 k1) (max k2 k5)) k6) 0 0 0 0 _ _ _ _ p3 true (by omega) (by omega) hm hB hN hn2 ⟨hk1 _ (by omega)⟩ ⟨hk2 _ (by omega)⟩ ⟨hk5 _ (by omega)⟩ ⟨hk6 _ (by omega)⟩ ⟨hk0 _ (by omega)⟩
end Go.Proofs.Ytgpahhobifdapaa.Pure
