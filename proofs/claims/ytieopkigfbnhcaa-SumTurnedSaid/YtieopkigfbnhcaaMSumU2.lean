/- More of layer 3: texts cut and put together, words with their bytes turned about, places. Plain lemmas. -/
import Derived.Test.YtieopkigfbnhcaaMSumU
import Derived.Test.YtieopkigfbnhcaaPSumx3
set_option linter.unusedVariables false
namespace Go.Proofs.Ytieopkigfbnhcaa.MSumU
open Go.RowKit Go.Proofs.Ytieopkigfbnhcaa.PSum Go.Proofs.YtieopkigfbnhcaaW.PrintWords Go.Proofs.YtieopkigfbnhcaaW.PrintLast

/-! ### bytes of texts -/
theorem data_app (s t : ByteArray) : (s ++ t).data.toList = s.data.toList ++ t.data.toList := by simp
theorem data_take (s : ByteArray) (k : Nat) (h : k ≤ s.size) : (s.extract 0 k).data.toList = s.data.toList.take k := by
  rw [ByteArray.data_extract, Array.toList_extract, List.extract_eq_take_drop]; simp
theorem data_drop (s : ByteArray) (k : Nat) : (s.extract k s.size).data.toList = s.data.toList.drop k := by
  rw [ByteArray.data_extract, Array.toList_extract, List.extract_eq_take_drop]
  rw [List.take_of_length_le]; simp
theorem size_app (s t : ByteArray) : (s ++ t).size = s.size + t.size := ByteArray.size_append
theorem size_take (s : ByteArray) (k : Nat) (h : k ≤ s.size) : (s.extract 0 k).size = k := by rw [ByteArray.size_extract]; omega
theorem size_drop (s : ByteArray) (k : Nat) : (s.extract k s.size).size = s.size - k := by rw [ByteArray.size_extract]; omega
theorem two_ev {w : Int} (h0 : 0 ≤ w) (h1 : w ≤ 65535) : ∃ t : ByteArray, turnoutlaw03_two.f w = some t ∧ t.size = 2 ∧ ∃ x y : UInt8, t.data.toList = [x, y] ∧ 256 * (x.toNat : Int) + (y.toNat : Int) = w := by
  refine ⟨_, rfl, rfl, UInt8.ofNat (w / 256 % 256).toNat, UInt8.ofNat (w % 256).toNat, rfl, ?_⟩
  rw [UInt8.toNat_ofNat', UInt8.toNat_ofNat']
  omega

/-! ### sums -/
theorem W_turn (l : List UInt8) : (256 * W true l) % 65535 = W false l % 65535 ∧ (256 * W false l) % 65535 = W true l % 65535 := by
  induction l with
  | nil => simp [W]
  | cons x xs ih => simp only [W]; omega
theorem W_zero (l : List UInt8) : ∀ h, W h l = 0 ↔ ∀ x ∈ l, x = 0 := by
  induction l with
  | nil => intro h; simp [W]
  | cons x xs ih =>
    intro h
    have hx : x = 0 ↔ x.toNat = 0 := by rw [← UInt8.toNat_inj]; rfl
    rw [List.forall_mem_cons, hx]
    cases h
    · rw [← ih true]; have := W_range xs true; simp only [W]; omega
    · rw [← ih false]; have := W_range xs false; simp only [W]; omega
theorem rep_turn (l : List UInt8) : rep (256 * W true l) = rep (W false l) := by
  have := W_turn l
  have h1 := W_zero l true
  have h2 := W_zero l false
  apply rep_congr
  · rw [h2, ← h1]; omega
  · omega
theorem rep_turn' (l : List UInt8) : rep (256 * W false l) = rep (W true l) := by
  have := W_turn l
  have h1 := W_zero l true
  have h2 := W_zero l false
  apply rep_congr
  · rw [h1, ← h2]; omega
  · omega
theorem rep_top {n : Int} (h : 0 ≤ n) : rep n = 65535 ↔ n ≠ 0 ∧ n % 65535 = 0 := by unfold rep; split <;> omega
theorem rep_mod {n : Int} (h : 0 ≤ n) : rep n % 65535 = n % 65535 := by unfold rep; split <;> omega
theorem join16 {a b : Int} (ha : 0 ≤ a) (ha' : a ≤ 255) (hb : 0 ≤ b) (hb' : b ≤ 255) : bits .or .u16 (a * 256) b = a * 256 + b := by
  rw [u16_or _ _ (by omega) (by omega) hb (by omega), nat_join 8 _ _ (by show _ % 256 = 0; omega) (by show _ < 256; omega)]
  omega
theorem turned_ev {a : Int} (h0 : 0 ≤ a) (h1 : a ≤ 65535) : turnoutlaw03_turned.f a = some (rep (256 * a)) := by
  unfold turnoutlaw03_turned.f
  have e : IntKind.u16.wrap (a * 256) = a % 256 * 256 := by rw [IntKind.wrap_u16]; omega
  rw [e, join16 (by omega) (by omega) (by omega) (by omega)]
  congr 1
  unfold rep; split <;> omega
theorem turned_rep (l : List UInt8) : turnoutlaw03_turned.f (rep (W true l)) = some (rep (W false l)) := by
  have hr := W_range l true
  have h := rep_range hr.1
  rw [turned_ev h.1 h.2]
  congr 1
  rw [← rep_turn]
  have e := rep_mod hr.1
  have z := rep_eq_zero hr.1
  apply rep_congr <;> omega
/-- Two texts, one behind the other, the first one of an even length. -/
theorem W_even (l m : List UInt8) (h : l.length % 2 = 0) (b : Bool) : W b (l ++ m) = W b l + W b m := by
  rw [W_append, hi_even, if_pos h]
theorem W_two (x y : UInt8) : W true [x, y] = 256 * (x.toNat : Int) + (y.toNat : Int) := by simp [W]
theorem W_mid (l m : List UInt8) (x y : UInt8) (h : l.length % 2 = 0) : W true (l ++ [x, y] ++ m) = W true l + (256 * (x.toNat : Int) + (y.toNat : Int)) + W true m := by
  rw [W_even _ _ (by simp; omega), W_even _ _ h, W_two]

/-! ### places -/
theorem ix (x : Int) (N : Nat) (hN : 0 < N) (h : N ≤ 281474976710656) : ∃ q : Nat, q < N ∧ wrap64 (2 * (wrap64 (Int.tmod (IntKind.u64.wrap x) (N : Int)))) = ((2 * q : Nat) : Int) := by
  have e : IntKind.u64.wrap x = x % 18446744073709551616 := IntKind.wrap_u64 x
  have e2 : Int.tmod (x % 18446744073709551616) (N : Int) = x % 18446744073709551616 % (N : Int) := Int.tmod_eq_emod_of_nonneg (by omega)
  rw [e, e2]
  have h1 : 0 ≤ x % 18446744073709551616 % (N : Int) := Int.emod_nonneg _ (by omega)
  have h2 : x % 18446744073709551616 % (N : Int) < N := Int.emod_lt_of_pos _ (by omega)
  refine ⟨(x % 18446744073709551616 % (N : Int)).toNat, by omega, ?_⟩
  rw [w64 (n := x % 18446744073709551616 % (N : Int)) (by omega) (by omega), w64 (by omega) (by omega)]
  omega
theorem half {n : Nat} (h : n ≤ 281474976710656) : IntKind.u64.wrap (wrap64 ((n : Int) / 2)) = ((n / 2 : Nat) : Int) := by
  rw [w64 (by omega) (by omega), u64w (by omega) (by omega)]; omega
theorem place_ev (s : ByteArray) (hs : s.size ≤ 281474976710656) (at_ : Int) : ∃ q : Nat, 2 * q ≤ s.size ∧ turnoutlaw03_place.f s at_ = some ((2 * q : Nat) : Int) := by
  obtain ⟨q, hq, e⟩ := ix at_ (s.size / 2 + 1) (by omega) (by omega)
  refine ⟨q, by omega, ?_⟩
  unfold turnoutlaw03_place.f
  have e1 : IntKind.u64.wrap (wrap64 ((wrap64 ((s.size : Int) / 2)) + 1)) = ((s.size / 2 + 1 : Nat) : Int) := by
    rw [w64 (n := (s.size : Int) / 2) (by omega) (by omega), w64 (by omega) (by omega), u64w (by omega) (by omega)]; omega
  rw [e1, if_neg (by omega), e]
theorem even_ev (s : ByteArray) (hs : s.size ≤ 281474976710656) : ∃ t : ByteArray, turnoutlaw03_even.f s = some t ∧ t.size % 2 = 0 ∧ t.size ≤ s.size := by
  have e : wrap64 ((s.size : Int) - (s.size : Int) % 2) = ((s.size - s.size % 2 : Nat) : Int) := by rw [w64 (by omega) (by omega)]; omega
  refine ⟨s.extract 0 (s.size - s.size % 2), ?_, ?_, ?_⟩
  · unfold turnoutlaw03_even.f
    rw [e, if_pos (by omega), if_pos (by omega), Int.toNat_natCast]
  · rw [size_take _ _ (by omega)]; omega
  · rw [size_take _ _ (by omega)]; omega
theorem take_two (s : ByteArray) (m : Nat) (h : m + 1 < s.size) : s.data.toList = s.data.toList.take m ++ [s[m], s[m+1]] ++ s.data.toList.drop (m + 2) := by
  have := (List.take_append_drop m s.data.toList).symm
  rw [drop_at s m (by omega), drop_at s (m + 1) h] at this
  simpa using this
end Go.Proofs.Ytieopkigfbnhcaa.MSumU
