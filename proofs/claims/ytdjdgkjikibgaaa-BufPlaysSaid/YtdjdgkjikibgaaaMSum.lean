/- What sum's functions (and the reference's) come to: representatives of sums of words. Plain lemmas, used by the claims of layer 3. -/
import Derived.Test.YtdjdgkjikibgaaaPBufx5
import Derived.Laws.BitsAllLaws
import Derived.Laws.Bits64
set_option linter.unusedVariables false
namespace Go.Proofs.Ytdjdgkjikibgaaa.MSum
open Go.RowKit Go.Proofs.Ytdjdgkjikibgaaa.PBuf Go.Proofs.YtdjdgkjikibgaaaW.PrintWords Go.Proofs.YtdjdgkjikibgaaaW.PrintLast

theorem bounds_u16 {n : Int} (h : (Lit.int .u16 n).wf = true) : 0 ≤ n ∧ n ≤ 65535 := by
  simp [Lit.wf, IntKind.min, IntKind.max, IntKind.signed, IntKind.bits] at h
  omega
theorem bounds_i64 {n : Int} (h : (Lit.int .i64 n).wf = true) : -9223372036854775808 ≤ n ∧ n ≤ 9223372036854775807 := by
  simp [Lit.wf, IntKind.min, IntKind.max, IntKind.signed, IntKind.bits] at h
  omega
/-- The number from 0 to 65535 that stands for a sum: 0 for 0 alone. -/
def rep (n : Int) : Int := if n = 0 then 0 else (n - 1) % 65535 + 1
theorem rep_zero : rep 0 = 0 := rfl
theorem rep_small {n : Int} (h0 : 0 ≤ n) (h1 : n ≤ 65535) : rep n = n := by unfold rep; split <;> omega
theorem rep_range {n : Int} (_h0 : 0 ≤ n) : 0 ≤ rep n ∧ rep n ≤ 65535 := by unfold rep; split <;> omega
theorem rep_add {a b : Int} (h0 : 0 ≤ a) (h1 : 0 ≤ b) : rep (rep a + b) = rep (a + b) := by
  unfold rep; split <;> split <;> (try split) <;> omega
theorem rep_add' {a b : Int} (h0 : 0 ≤ a) (h1 : 0 ≤ b) : rep (a + rep b) = rep (a + b) := by
  rw [Int.add_comm, rep_add h1 h0, Int.add_comm]
theorem rep_congr {a b : Int} (hz : a = 0 ↔ b = 0) (hm : a % 65535 = b % 65535) : rep a = rep b := by
  unfold rep; split <;> split <;> omega
theorem rep_eq_zero {n : Int} (h0 : 0 ≤ n) : rep n = 0 ↔ n = 0 := by unfold rep; split <;> omega
theorem rep_step {x : Int} (h : 65535 < x) : rep (x % 65536 + x / 65536) = rep x := by
  apply rep_congr <;> omega

/-! ### bits -/
theorem and_all16 {x : Int} (h0 : 0 ≤ x) (h1 : x < 18446744073709551616) : bits .and .u64 x 65535 = x % 65536 := by
  rw [u64_and x 65535 h0 h1 (by omega) (by omega)]
  show ((x.toNat &&& 65535 : Nat) : Int) = _
  rw [nat_mask16]; omega
theorem nat_not16 (a : Nat) (h : a ≤ 65535) : 65535 ^^^ a = 65535 - a := by
  have e : 65535 - a = 2 ^ 16 - (a + 1) := by omega
  apply Nat.eq_of_testBit_eq
  intro i
  rw [e, Nat.testBit_two_pow_sub_succ (by omega), Nat.testBit_xor]
  have e2 : Nat.testBit 65535 i = decide (i < 16) := Nat.testBit_two_pow_sub_one 16 i
  rw [e2]
  by_cases hi : i < 16
  · simp [hi]
  · have : a.testBit i = false := Nat.testBit_lt_two_pow (Nat.lt_of_lt_of_le (by omega : a < 2 ^ 16) (Nat.pow_le_pow_right (by omega) (by omega)))
    simp [hi, this]
theorem not16 {x : Int} (h0 : 0 ≤ x) (h1 : x ≤ 65535) : bits .xor .u16 65535 x = 65535 - x := by
  rw [u16_xor 65535 x (by omega) (by omega) h0 (by omega)]
  show ((65535 ^^^ x.toNat : Nat) : Int) = _
  rw [nat_not16 _ (by omega)]; omega

/-! ### fold -/
theorem fold_le {x : Int} (h0 : 0 ≤ x) (h : x ≤ 65535) (k : Nat) : sum_fold.l0 (k + 1) x = some x := by
  simp only [sum_fold.l0]; rw [if_neg (by omega), IntKind.wrap_u16]; congr 1; omega
theorem fold_gt {x : Int} (h : 65535 < x) (h1 : x < 18446744073709551616) (k : Nat) : sum_fold.l0 (k + 1) x = sum_fold.l0 k (x % 65536 + x / 65536) := by
  simp only [sum_fold.l0]; rw [if_pos (by omega), and_all16 (by omega) h1, IntKind.wrap_u64]; congr 1; omega
theorem fold_l (d : Nat) : ∀ (x : Int), 0 ≤ x → x < 18446744073709551616 → x.toNat ≤ d → Ev (fun k => sum_fold.l0 k x) (rep x) := by
  induction d with
  | zero => intro x h0 h1 hd; rw [rep_small h0 (by omega)]; exact Ev.step (f := fun _ => some x) (fun k => fold_le h0 (by omega) k) (Ev.now _)
  | succ d ih =>
    intro x h0 h1 hd
    by_cases h : x ≤ 65535
    · rw [rep_small h0 h]; exact Ev.step (f := fun _ => some x) (fun k => fold_le h0 h k) (Ev.now _)
    · rw [← rep_step (by omega)]
      exact Ev.step (fun k => fold_gt (by omega) h1 k) (ih _ (by omega) (by omega) (by omega))
theorem fold_ev {x : Int} (h0 : 0 ≤ x) (h1 : x < 18446744073709551616) : Ev (fun k => sum_fold.f k x) (rep x) := fold_l x.toNat x h0 h1 (Nat.le_refl _)

/-! ### weights -/
/-- The sum of bytes, each second one (the first one, if 'high') 256 times. -/
def W : Bool → List UInt8 → Int
  | _, [] => 0
  | true, x :: xs => 256 * (x.toNat : Int) + W false xs
  | false, x :: xs => (x.toNat : Int) + W true xs
theorem W_range (l : List UInt8) : ∀ h, 0 ≤ W h l ∧ W h l ≤ 65280 * l.length := by
  induction l with
  | nil => intro h; simp [W]
  | cons x xs ih =>
    intro h
    have hx : x.toNat < 256 := x.toNat_lt
    cases h
    · have := ih true; simp only [W, List.length_cons]; omega
    · have := ih false; simp only [W, List.length_cons]; omega
/-- What 'high' is behind a text. -/
def hi : Bool → List UInt8 → Bool
  | h, [] => h
  | h, _ :: xs => hi (!h) xs
theorem W_append (l m : List UInt8) : ∀ h, W h (l ++ m) = W h l + W (hi h l) m := by
  induction l with
  | nil => intro h; simp [W, hi]
  | cons x xs ih => intro h; cases h <;> simp only [List.cons_append, W, hi, ih, Bool.not_true, Bool.not_false] <;> omega
theorem hi_append (l m : List UInt8) : ∀ h, hi h (l ++ m) = hi (hi h l) m := by
  induction l with
  | nil => intro h; rfl
  | cons x xs ih => intro h; exact ih _
theorem hi_even (l : List UInt8) : ∀ h, hi h l = (if l.length % 2 = 0 then h else !h) := by
  induction l with
  | nil => intro h; rfl
  | cons x xs ih =>
    intro h
    simp only [hi, ih, List.length_cons]
    by_cases e : xs.length % 2 = 0
    · rw [if_pos e, if_neg (by omega)]
    · rw [if_neg e, if_pos (by omega)]; simp
/-- The bytes of texts, one behind the other. -/
def cat (l : List ByteArray) : List UInt8 := (l.map fun s => s.data.toList).flatten
theorem cat_nil : cat [] = [] := rfl
theorem cat_cons (s : ByteArray) (l : List ByteArray) : cat (s :: l) = s.data.toList ++ cat l := rfl
theorem len_data (s : ByteArray) : s.data.toList.length = s.size := by simp
theorem drop_at (s : ByteArray) (i : Nat) (h : i < s.size) : s.data.toList.drop i = s[i] :: s.data.toList.drop (i + 1) := by
  rw [List.drop_eq_getElem_cons (by rw [len_data]; exact h)]; rfl
theorem bt_nat (s : ByteArray) (i : Nat) (h : i < s.size) : bt s (i : Int) = ((s[i]).toNat : Int) := by
  unfold bt; simp [h]
theorem u64w {n : Int} (h0 : 0 ≤ n) (h1 : n < 18446744073709551616) : IntKind.u64.wrap n = n := by rw [IntKind.wrap_u64]; omega
theorem u16w {n : Int} (h0 : 0 ≤ n) (h1 : n < 65536) : IntKind.u16.wrap n = n := by rw [IntKind.wrap_u16]; omega
theorem w64 {n : Int} (h0 : -9223372036854775808 ≤ n) (h1 : n ≤ 9223372036854775807) : wrap64 n = n := by unfold wrap64; omega

/-! ### Sum -/
/-- The inner loop. -/
theorem sum_l1 (s : ByteArray) (hs : s.size ≤ 281474976710656) (L : List ByteArray) (len j : Int) (r : Int) (d : Nat) : ∀ (i : Nat) (n : Int) (h : Bool), i ≤ s.size → s.size - i = d → 0 ≤ n → n ≤ 65535 + 65280 * i →
    Ev (fun k => sum_Sum.l0 k (rep (n + W h (s.data.toList.drop i))) (hi h (s.data.toList.drop i)) L len (wrap64 (j + 1))) r →
    Ev (fun k => sum_Sum.l1 k n h s L len j (s.size : Int) (i : Int)) r := by
  induction d with
  | zero =>
    intro i n h h1 hd h0 hn k
    obtain rfl : i = s.size := by omega
    rw [List.drop_of_length_le (by rw [len_data]; omega)] at k
    simp only [W, hi, Int.add_zero] at k
    refine Ev.step (f := fun k => (sum_fold.f k n).bind fun t103 => (sum_Sum.l0 k (IntKind.u64.wrap (t103)) h L len (wrap64 (j + 1)))) (fun k => by simp only [sum_Sum.l1]; rw [if_neg (by omega)]) ?_
    refine Ev.bind (fold_ev h0 (by omega)) ?_
    have := rep_range h0
    rw [u64w (by omega) (by omega)]; exact k
  | succ d ih =>
    intro i n h h1 hd h0 hn k
    have hi' : i < s.size := by omega
    have hb : s[i].toNat < 256 := s[i].toNat_lt
    rw [drop_at s i hi'] at k
    have e1 : wrap64 ((i : Int) + 1) = ((i + 1 : Nat) : Int) := by rw [w64 (by omega) (by omega)]; omega
    cases h with
    | true =>
      refine Ev.step (f := fun k => sum_Sum.l1 k (n + 256 * (s[i].toNat : Int)) false s L len j (s.size : Int) ((i + 1 : Nat) : Int)) (fun k => ?_) (ih (i + 1) (n + 256 * (s[i].toNat : Int)) false (by omega) (by omega) (by omega) (by omega) ?_)
      · simp only [sum_Sum.l1]
        rw [if_pos (by omega), if_pos (by omega), if_pos (by omega), bt_nat s i hi', e1]
        simp only [if_true, Bool.not_true]
        rw [u64w (n := (s[i].toNat : Int)) (by omega) (by omega), u64w (n := (s[i].toNat : Int) * 256) (by omega) (by omega), u64w (by omega) (by omega), Int.mul_comm]
      · simp only [W, hi, Bool.not_true] at k
        rw [Int.add_assoc]; exact k
    | false =>
      refine Ev.step (f := fun k => sum_Sum.l1 k (n + (s[i].toNat : Int)) true s L len j (s.size : Int) ((i + 1 : Nat) : Int)) (fun k => ?_) (ih (i + 1) (n + (s[i].toNat : Int)) true (by omega) (by omega) (by omega) (by omega) ?_)
      · simp only [sum_Sum.l1]
        rw [if_pos (by omega), if_pos (by omega), if_pos (by omega), bt_nat s i hi', e1]
        simp only [Bool.false_eq_true, if_false, Bool.not_false]
        rw [u64w (n := (s[i].toNat : Int)) (by omega) (by omega), u64w (by omega) (by omega)]
      · simp only [W, hi, Bool.not_false] at k
        rw [Int.add_assoc]; exact k
theorem rdOf_nat {α : Type} (z : α) (L : List α) (j : Nat) (h : j < L.length) : rdOf z L (j : Int) = L[j] := by
  unfold rdOf; simp [h]
theorem sum_l0 (L : List ByteArray) (hL : ∀ s ∈ L, s.size ≤ 281474976710656) (hl : L.length ≤ 4611686018427387904) (d : Nat) : ∀ (j : Nat) (n : Int) (h : Bool), j ≤ L.length → L.length - j = d → 0 ≤ n → n ≤ 65535 →
    Ev (fun k => sum_Sum.l0 k n h L (L.length : Int) (j : Int)) (rep (n + W h (cat (L.drop j)))) := by
  induction d with
  | zero =>
    intro j n h h1 hd h0 hn
    obtain rfl : j = L.length := by omega
    rw [List.drop_of_length_le (Nat.le_refl _), cat_nil]
    simp only [W, Int.add_zero]
    refine Ev.step (f := fun k => (sum_fold.f k n).bind fun t101 => (some t101)) (fun k => by simp only [sum_Sum.l0]; rw [if_neg (by omega)]) ?_
    exact Ev.bind (fold_ev h0 (by omega)) (Ev.now _)
  | succ d ih =>
    intro j n h h1 hd h0 hn
    have hj : j < L.length := by omega
    rw [List.drop_eq_getElem_cons hj, cat_cons, W_append]
    have hr := W_range L[j].data.toList h
    have hr2 := W_range (cat (L.drop (j + 1))) (hi h L[j].data.toList)
    have hm := rep_range (n := n + W h L[j].data.toList) (by omega)
    have := ih (j + 1) (rep (n + W h L[j].data.toList)) (hi h L[j].data.toList) (by omega) (by omega) hm.1 hm.2
    rw [rep_add (by omega) hr2.1, Int.add_assoc] at this
    refine Ev.step (f := fun k => sum_Sum.l1 k n h L[j] L (L.length : Int) (j : Int) (L[j].size : Int) ((0 : Nat) : Int)) (fun k => ?_) (sum_l1 _ (hL _ (List.getElem_mem hj)) _ _ _ _ _ 0 n h (by omega) rfl h0 (by omega) ?_)
    · simp only [sum_Sum.l0]
      rw [if_pos (by omega), if_pos (by omega), if_pos (by omega), rdOf_nat _ _ _ hj]
      rfl
    · rw [List.drop_zero, w64 (by omega) (by omega)]; exact this
theorem sum_ev (L : List ByteArray) (hL : ∀ s ∈ L, s.size ≤ 281474976710656) (hl : L.length ≤ 4611686018427387904) : Ev (fun k => sum_Sum.f k L) (rep (W true (cat L))) := by
  have := sum_l0 L hL hl L.length 0 0 true (by omega) (by omega) (by omega) (by omega)
  rw [List.drop_zero, Int.zero_add] at this; exact this
theorem sum_add {a b : Int} (ha : 0 ≤ a) (ha' : a ≤ 65535) (hb : 0 ≤ b) (hb' : b ≤ 65535) : Ev (fun k => sum_Add.f k a b) (rep (a + b)) := by
  refine Ev.bind (a := rep (a + b)) ?_ (Ev.now _)
  rw [u64w ha (by omega), u64w hb (by omega), u64w (by omega) (by omega)]
  exact fold_ev (by omega) (by omega)
theorem cat_one (s : ByteArray) : cat [s] = s.data.toList := by simp [cat]
theorem sum_one (s : ByteArray) (hs : s.size ≤ 281474976710656) : Ev (fun k => sum_Sum.f k [s]) (rep (W true s.data.toList)) := by
  have := sum_ev [s] (by simpa using hs) (by simp)
  rwa [cat_one] at this
/-- Two texts, one behind the other, the first one of an even length. -/
theorem W_even (l m : List UInt8) (h : l.length % 2 = 0) (b : Bool) : W b (l ++ m) = W b l + W b m := by
  rw [W_append, hi_even, if_pos h]
theorem W_two (x y : UInt8) : W true [x, y] = 256 * (x.toNat : Int) + (y.toNat : Int) := by simp [W]
theorem W_mid (l m : List UInt8) (x y : UInt8) (h : l.length % 2 = 0) : W true (l ++ [x, y] ++ m) = W true l + (256 * (x.toNat : Int) + (y.toNat : Int)) + W true m := by
  rw [W_even _ _ (by simp; omega), W_even _ _ h, W_two]

end Go.Proofs.Ytdjdgkjikibgaaa.MSum
