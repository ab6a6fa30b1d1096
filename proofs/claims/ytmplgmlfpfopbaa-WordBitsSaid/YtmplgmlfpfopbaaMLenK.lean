/- bits.Len64, and word.Size: how many bits there are from the highest one on; the examples of layer 1. Plain lemmas. -/
import Derived.Test.YtmplgmlfpfopbaaMWordK
set_option linter.unusedVariables false
set_option linter.unusedSimpArgs false
set_option maxRecDepth 10000
namespace Go.Proofs.Ytmplgmlfpfopbaa.MWordK
open Go.RowKit Go.Proofs.Ytmplgmlfpfopbaa.PWordK Go.Proofs.Ytmplgmlfpfopbaa.MBits Go.Proofs.YtmplgmlfpfopbaaW.PrintWords Go.Proofs.YtmplgmlfpfopbaaW.PrintLast Go.Proofs.YtmplgmlfpfopbaaW.PrintMore
theorem tab_fin : ∀ i : Fin 256, bt (⟨#[0, 1, 2, 2, 3, 3, 3, 3, 4, 4, 4, 4, 4, 4, 4, 4, 5, 5, 5, 5, 5, 5, 5, 5, 5, 5, 5, 5, 5, 5, 5, 5, 6, 6, 6, 6, 6, 6, 6, 6, 6, 6, 6, 6, 6, 6, 6, 6, 6, 6, 6, 6, 6, 6, 6, 6, 6, 6, 6, 6, 6, 6, 6, 6, 7, 7, 7, 7, 7, 7, 7, 7, 7, 7, 7, 7, 7, 7, 7, 7, 7, 7, 7, 7, 7, 7, 7, 7, 7, 7, 7, 7, 7, 7, 7, 7, 7, 7, 7, 7, 7, 7, 7, 7, 7, 7, 7, 7, 7, 7, 7, 7, 7, 7, 7, 7, 7, 7, 7, 7, 7, 7, 7, 7, 7, 7, 7, 7, 8, 8, 8, 8, 8, 8, 8, 8, 8, 8, 8, 8, 8, 8, 8, 8, 8, 8, 8, 8, 8, 8, 8, 8, 8, 8, 8, 8, 8, 8, 8, 8, 8, 8, 8, 8, 8, 8, 8, 8, 8, 8, 8, 8, 8, 8, 8, 8, 8, 8, 8, 8, 8, 8, 8, 8, 8, 8, 8, 8, 8, 8, 8, 8, 8, 8, 8, 8, 8, 8, 8, 8, 8, 8, 8, 8, 8, 8, 8, 8, 8, 8, 8, 8, 8, 8, 8, 8, 8, 8, 8, 8, 8, 8, 8, 8, 8, 8, 8, 8, 8, 8, 8, 8, 8, 8, 8, 8, 8, 8, 8, 8, 8, 8, 8, 8, 8, 8, 8, 8, 8, 8, 8, 8, 8, 8, 8, 8]⟩ : ByteArray) ((i.val : Nat) : Int) = ((len i.val : Nat) : Int) := by decide +kernel
theorem tab_bt (i : Int) (h0 : 0 ≤ i) (h : i < 256) : bt (⟨#[0, 1, 2, 2, 3, 3, 3, 3, 4, 4, 4, 4, 4, 4, 4, 4, 5, 5, 5, 5, 5, 5, 5, 5, 5, 5, 5, 5, 5, 5, 5, 5, 6, 6, 6, 6, 6, 6, 6, 6, 6, 6, 6, 6, 6, 6, 6, 6, 6, 6, 6, 6, 6, 6, 6, 6, 6, 6, 6, 6, 6, 6, 6, 6, 7, 7, 7, 7, 7, 7, 7, 7, 7, 7, 7, 7, 7, 7, 7, 7, 7, 7, 7, 7, 7, 7, 7, 7, 7, 7, 7, 7, 7, 7, 7, 7, 7, 7, 7, 7, 7, 7, 7, 7, 7, 7, 7, 7, 7, 7, 7, 7, 7, 7, 7, 7, 7, 7, 7, 7, 7, 7, 7, 7, 7, 7, 7, 7, 8, 8, 8, 8, 8, 8, 8, 8, 8, 8, 8, 8, 8, 8, 8, 8, 8, 8, 8, 8, 8, 8, 8, 8, 8, 8, 8, 8, 8, 8, 8, 8, 8, 8, 8, 8, 8, 8, 8, 8, 8, 8, 8, 8, 8, 8, 8, 8, 8, 8, 8, 8, 8, 8, 8, 8, 8, 8, 8, 8, 8, 8, 8, 8, 8, 8, 8, 8, 8, 8, 8, 8, 8, 8, 8, 8, 8, 8, 8, 8, 8, 8, 8, 8, 8, 8, 8, 8, 8, 8, 8, 8, 8, 8, 8, 8, 8, 8, 8, 8, 8, 8, 8, 8, 8, 8, 8, 8, 8, 8, 8, 8, 8, 8, 8, 8, 8, 8, 8, 8, 8, 8, 8, 8, 8, 8, 8, 8]⟩ : ByteArray) i = ((len i.toNat : Nat) : Int) := by
  have := tab_fin ⟨i.toNat, by omega⟩
  have e : ((i.toNat : Nat) : Int) = i := by omega
  rw [e] at this; exact this
theorem mod256 (n : Nat) (h : n < 256) : ((n : Int) % 256) = (n : Int) := by omega
theorem len_small {n : Nat} (h : n < 256) : len n ≤ 8 := (len_le n 8).2 h
theorem len_j0 (x : Nat) (s : Int) (hx : x < 4294967296) (hs : 0 ≤ s) (hs' : s ≤ 32) : Ev (fun k => bits_Len64.j0 k (x : Int) s) (s + (len x : Nat)) := by
  refine Ev.step (f := _) (fun k => by rw [bits_Len64.j0]) ?_
  by_cases h1 : (x : Int) ≥ 65536
  · have e1 : (x : Int) / 65536 = ((x / 65536 : Nat) : Int) := by omega
    have l1 := len_shift x 16 (by omega)
    refine Ev.ip h1 ?_
    rw [e1]
    by_cases h2 : ((x / 65536 : Nat) : Int) ≥ 256
    · have e2 : ((x / 65536 : Nat) : Int) / 256 = ((x / 65536 / 256 : Nat) : Int) := by omega
      have l2 := len_shift (x / 65536) 8 (by omega)
      have l3 := len_small (n := x / 65536 / 256) (by omega)
      refine Ev.ip h2 ?_
      rw [e2, mod256 _ (by omega)]
      refine Ev.ip (by omega) ?_
      refine Ev.ip (by omega) ?_
      rw [tab_bt _ (by omega) (by omega), Int.toNat_natCast]
      have e3 : wrap64 ((wrap64 ((wrap64 (s + 16)) + 8)) + (wrap64 ((len (x / 65536 / 256) : Nat) : Int))) = s + (len x : Nat) := by
        rw [w64 (n := s + 16) (by omega) (by omega), w64 (n := s + 16 + 8) (by omega) (by omega), w64 (n := ((len (x / 65536 / 256) : Nat) : Int)) (by omega) (by omega), w64 (by omega) (by omega)]
        simp only [Nat.reducePow] at l1 l2
        omega
      rw [e3]; exact Ev.now _
    · have l3 := len_small (n := x / 65536) (by omega)
      refine Ev.in h2 ?_
      rw [mod256 _ (by omega)]
      refine Ev.ip (by omega) ?_
      refine Ev.ip (by omega) ?_
      rw [tab_bt _ (by omega) (by omega), Int.toNat_natCast]
      have e3 : wrap64 ((wrap64 (s + 16)) + (wrap64 ((len (x / 65536) : Nat) : Int))) = s + (len x : Nat) := by
        rw [w64 (n := s + 16) (by omega) (by omega), w64 (n := ((len (x / 65536) : Nat) : Int)) (by omega) (by omega), w64 (by omega) (by omega)]
        simp only [Nat.reducePow] at l1
        omega
      rw [e3]; exact Ev.now _
  · refine Ev.in h1 ?_
    by_cases h2 : (x : Int) ≥ 256
    · have e2 : (x : Int) / 256 = ((x / 256 : Nat) : Int) := by omega
      have l2 := len_shift x 8 (by omega)
      have l3 := len_small (n := x / 256) (by omega)
      refine Ev.ip h2 ?_
      rw [e2, mod256 _ (by omega)]
      refine Ev.ip (by omega) ?_
      refine Ev.ip (by omega) ?_
      rw [tab_bt _ (by omega) (by omega), Int.toNat_natCast]
      have e3 : wrap64 ((wrap64 (s + 8)) + (wrap64 ((len (x / 256) : Nat) : Int))) = s + (len x : Nat) := by
        rw [w64 (n := s + 8) (by omega) (by omega), w64 (n := ((len (x / 256) : Nat) : Int)) (by omega) (by omega), w64 (by omega) (by omega)]
        simp only [Nat.reducePow] at l2
        omega
      rw [e3]; exact Ev.now _
    · have l3 := len_small (n := x) (by omega)
      refine Ev.in h2 ?_
      rw [mod256 _ (by omega)]
      refine Ev.ip (by omega) ?_
      refine Ev.ip (by omega) ?_
      rw [tab_bt _ (by omega) (by omega), Int.toNat_natCast]
      have e3 : wrap64 (s + (wrap64 ((len x : Nat) : Int))) = s + (len x : Nat) := by
        rw [w64 (n := ((len x : Nat) : Int)) (by omega) (by omega), w64 (by omega) (by omega)]
      rw [e3]; exact Ev.now _
theorem len64_ev (x : Nat) (hx : x < 18446744073709551616) : Ev (fun k => bits_Len64.f k (x : Int)) (len x : Nat) := by
  unfold bits_Len64.f
  by_cases h : (x : Int) ≥ 4294967296
  · have e : (x : Int) / 4294967296 = ((x / 4294967296 : Nat) : Int) := by omega
    have l := len_shift x 32 (by omega)
    refine Ev.ip h ?_
    rw [e]
    have := len_j0 (x / 4294967296) 32 (by omega) (by omega) (by omega)
    have e2 : (32 : Int) + (len (x / 4294967296) : Nat) = (len x : Nat) := by
      simp only [Nat.reducePow] at l
      omega
    rw [e2] at this; exact this
  · refine Ev.in h ?_
    have := len_j0 x 0 (by omega) (by omega) (by omega)
    rw [Int.zero_add] at this; exact this
theorem size_ev (x : W) : Ev (fun k => word_Size.f k (hi x) (lo x)) (len x.toNat : Nat) := by
  unfold word_Size.f
  have hh := hiN_lt x
  have hl := loN_lt x
  have ht := toNat_eq x
  by_cases h : hi x = 0
  · refine Ev.ip h ?_
    have e : x.toNat = loN x := by unfold hi at h; omega
    rw [e]
    exact Ev.bind (len64_ev (loN x) (by omega)) (Ev.now _)
  · refine Ev.in h ?_
    have l := len_shift x.toNat 64 (by unfold hi at h; omega)
    have e : x.toNat / 2 ^ 64 = hiN x := rfl
    rw [e] at l
    have l2 := (len_le (hiN x) 64).2 (by omega)
    refine Ev.bind (len64_ev (hiN x) (by omega)) ?_
    have e2 : wrap64 (64 + (len (hiN x) : Nat)) = ((len x.toNat : Nat) : Int) := by rw [w64 (by omega) (by omega)]; omega
    rw [e2]; exact Ev.now _
/-! ### word.Of -/
/-- The number of bytes, the first one the highest. -/
def ofB (l : List UInt8) : W := l.foldl (fun w b => (w <<< 8) ||| BitVec.ofNat 128 b.toNat) 0#128
theorem len_data (s : ByteArray) : s.data.toList.length = s.size := by simp
theorem bt_nat (s : ByteArray) (i : Nat) (h : i < s.size) : bt s (i : Int) = ((s[i]).toNat : Int) := by
  unfold bt; simp [h]
theorem drop_at (s : ByteArray) (i : Nat) (h : i < s.size) : s.data.toList.drop i = s[i] :: s.data.toList.drop (i + 1) := by
  rw [List.drop_eq_getElem_cons (by rw [len_data]; exact h)]; rfl
theorem of_l0 (s : ByteArray) (hs : s.size ≤ 16) (d : Nat) : ∀ (i : Nat) (w : W), s.size - i = d → i ≤ s.size →
    Ev (fun k => word_Of.l0 k s (s.size : Int) (i : Int) (hi w) (lo w)) (hi ((s.data.toList.drop i).foldl (fun w b => (w <<< 8) ||| BitVec.ofNat 128 b.toNat) w), lo ((s.data.toList.drop i).foldl (fun w b => (w <<< 8) ||| BitVec.ofNat 128 b.toNat) w), 0) := by
  induction d with
  | zero =>
    intro i w hd h1
    rw [List.drop_of_length_le (by rw [len_data]; omega)]
    refine Ev.step (f := _) (fun k => by rw [word_Of.l0]) ?_
    exact Ev.in (by omega) (Ev.now _)
  | succ d ih =>
    intro i w hd h1
    have h : i < s.size := by omega
    have hb := (s[i]).toNat_lt
    have e1 : wrap64 ((i : Int) + 1) = ((i + 1 : Nat) : Int) := by rw [w64 (by omega) (by omega)]; omega
    rw [drop_at s i h, List.foldl_cons]
    refine Ev.step (f := _) (fun k => by rw [word_Of.l0]) ?_
    refine Ev.ip (by omega) ?_
    refine Ev.pb (left_ev w 8 (by omega) (by omega)) ?_
    refine Ev.ip (by omega) ?_
    refine Ev.ip (by omega) ?_
    rw [bt_nat s i h, u64w (by omega) (by omega)]
    refine Ev.pb (new_ev _ (by omega) (by omega)) ?_
    refine Ev.pb (or_ev _ _) ?_
    rw [e1]
    exact ih (i + 1) _ (by omega) (by omega)
theorem of_ev (s : ByteArray) (hs : s.size ≤ 16) : Ev (fun k => word_Of.f k s) (hi (ofB s.data.toList), lo (ofB s.data.toList), 0) := by
  unfold word_Of.f
  refine Ev.in (by omega) ?_
  have := of_l0 s hs s.size 0 0#128 (by omega) (by omega)
  rw [List.drop_zero, zero_hi, zero_lo] at this
  exact this
theorem of_long (s : ByteArray) (hs : 16 < s.size) : Ev (fun k => word_Of.f k s) (0, 0, 5) := by
  unfold word_Of.f
  exact Ev.ip (by omega) (Ev.now _)

/-! ### the examples -/
theorem awake_ev : Ev (fun k => turnoutlaw01_awake.f k) true := by
  unfold turnoutlaw01_awake.f
  have n1 : word_New.f 1 = some (hi 1#128, lo 1#128) := rfl
  have n2 : word_New.f 18446744073709551615 = some (hi 18446744073709551615#128, lo 18446744073709551615#128) := by decide
  have n3 : word_New.f 24930 = some (hi 24930#128, lo 24930#128) := by decide
  refine Ev.pb n1 ?_
  refine Ev.bind (of_ev ⟨#[97, 98]⟩ (by decide)) ?_
  refine Ev.bind (of_long ⟨#[49, 50, 51, 52, 53, 54, 55, 56, 57, 48, 49, 50, 51, 52, 53, 54, 55]⟩ (by decide)) ?_
  refine Ev.pb n2 ?_
  refine Ev.pb (add_ev _ _) ?_
  refine Ev.ip (by decide) ?_
  refine Ev.pb (a := (hi (0#128 - 1#128), lo (0#128 - 1#128))) (by have := sub_ev 0#128 1#128; rwa [zero_hi, zero_lo] at this) ?_
  refine Ev.ip (by decide) ?_
  refine Ev.pb (left_ev _ _ (by decide) (by decide)) ?_
  refine Ev.ip (by decide) ?_
  have r1 : word_Right.f 9223372036854775808 0 127 = some (hi (170141183460469231731687303715884105728#128 >>> 127), lo (170141183460469231731687303715884105728#128 >>> 127)) := by
    have := right_ev 170141183460469231731687303715884105728#128 127 (by decide) (by decide)
    have e1 : hi 170141183460469231731687303715884105728#128 = 9223372036854775808 := by decide
    have e2 : lo 170141183460469231731687303715884105728#128 = 0 := by decide
    rw [e1, e2] at this
    exact this
  refine Ev.pb r1 ?_
  refine Ev.ip (by decide) ?_
  refine Ev.pb (mask_ev _) ?_
  refine Ev.ip (by decide) ?_
  have s0 := size_ev 0#128
  rw [zero_hi, zero_lo] at s0
  refine Ev.bind s0 ?_
  refine Ev.ip (by decide) ?_
  refine Ev.pb (mask_ev _) ?_
  refine Ev.bind (size_ev _) ?_
  refine Ev.ip (by decide +kernel) ?_
  refine Ev.ip rfl ?_
  refine Ev.pb n3 ?_
  refine Ev.ip (by decide) ?_
  exact Ev.now _
theorem awake_only : ∀ k r, turnoutlaw01_awake.f k = some r → r = true := by
  intro k r h
  obtain ⟨K, hK⟩ := awake_ev
  have := at_rounds (turnoutlaw01_awake.mono) (Nat.le_max_left k K) h
  have h2 := hK (max k K) (Nat.le_max_right k K)
  exact Option.some.inj (this.symm.trans h2)
end Go.Proofs.Ytmplgmlfpfopbaa.MWordK
