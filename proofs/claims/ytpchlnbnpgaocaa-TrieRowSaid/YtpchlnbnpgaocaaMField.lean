/- What field.Get and its document's answer come to: the number that some bits of a text are. -/
import Derived.Test.YtpchlnbnpgaocaaMWord
set_option linter.unusedVariables false
set_option linter.unusedSimpArgs false
namespace Go.Proofs.Ytpchlnbnpgaocaa.MField
open Go.RowKit Go.Proofs.Ytpchlnbnpgaocaa.PTrie Go.Proofs.Ytpchlnbnpgaocaa.MBits Go.Proofs.Ytpchlnbnpgaocaa.MWord Go.Proofs.YtpchlnbnpgaocaaW.PrintWords Go.Proofs.YtpchlnbnpgaocaaW.PrintLast Go.Proofs.YtpchlnbnpgaocaaW.PrintMore

/-! ### bits of a text -/
def bN (s : ByteArray) (i : Nat) : Nat := (bt s i).toNat
theorem bN_lt (s : ByteArray) (i : Nat) : bN s i < 256 := by unfold bN; have := bt_range s i; omega
theorem bN_bt (s : ByteArray) (i : Nat) : bt s i = (bN s i : Int) := by unfold bN; have := bt_range s i; omega
def bitAt (s : ByteArray) (p : Nat) : Nat := bN s (p / 8) / 2 ^ (7 - p % 8) % 2
theorem bitAt_lt (s : ByteArray) (p : Nat) : bitAt s p < 2 := by unfold bitAt; omega
def num (s : ByteArray) (o : Nat) : Nat → Nat
  | 0 => 0
  | n + 1 => 2 * num s o n + bitAt s (o + n)
theorem num_lt (s : ByteArray) (o n : Nat) : num s o n < 2 ^ n := by
  induction n with
  | zero => exact Nat.one_pos
  | succ n ih => unfold num; have := bitAt_lt s (o + n); rw [Nat.pow_succ]; omega
theorem num_add (s : ByteArray) (o a b : Nat) : num s o (a + b) = num s o a * 2 ^ b + num s (o + a) b := by
  induction b with
  | zero => simp [num]
  | succ b ih =>
    show 2 * num s o (a + b) + bitAt s (o + (a + b)) = num s o a * 2 ^ (b + 1) + (2 * num s (o + a) b + bitAt s (o + a + b))
    rw [ih, show o + (a + b) = o + a + b by omega, Nat.pow_succ]
    have : num s o a * (2 ^ b * 2) = 2 * (num s o a * 2 ^ b) := by rw [← Nat.mul_assoc]; omega
    omega
theorem num_byte (s : ByteArray) (i : Nat) : ∀ k, k ≤ 8 → num s (8 * i) k = bN s i / 2 ^ (8 - k) := by
  intro k
  induction k with
  | zero => intro _; unfold num; have := bN_lt s i; omega
  | succ k ih =>
    intro hk
    unfold num
    rw [ih (by omega)]
    unfold bitAt
    rw [show (8 * i + k) / 8 = i by omega, show (8 * i + k) % 8 = k by omega, show 8 - (k + 1) = 7 - k by omega, show 8 - k = (7 - k) + 1 by omega, Nat.pow_succ, ← Nat.div_div_eq_div_mul]
    omega

/-! ### words -/
theorem push (v m c : Nat) (hc : c < 2 ^ m) : (BitVec.ofNat 128 v <<< m) ||| BitVec.ofNat 128 c = BitVec.ofNat 128 (v * 2 ^ m + c) := by
  rw [← Nat.shiftLeft_eq, Nat.shiftLeft_add_eq_or_of_lt hc]
  apply BitVec.eq_of_getLsbD_eq
  intro i hi
  simp only [BitVec.getLsbD_or, BitVec.getLsbD_shiftLeft, BitVec.getLsbD_ofNat, Nat.testBit_or, Nat.testBit_shiftLeft, hi, decide_true, Bool.true_and]
  by_cases h : i < m
  · simp [h, Nat.not_le.2 h]
  · have h' : m ≤ i := by omega
    simp [h, h', show i - m < 128 by omega]
theorem and_mask (v n : Nat) (hn : n ≤ 128) : BitVec.ofNat 128 v &&& mask (n : Int) = BitVec.ofNat 128 (v % 2 ^ n) := by
  apply BitVec.eq_of_getLsbD_eq
  intro i hi
  unfold mask
  rw [BitVec.getLsbD_and, BitVec.getLsbD_ushiftRight, BitVec.getLsbD_allOnes, BitVec.getLsbD_ofNat, BitVec.getLsbD_ofNat, Nat.testBit_mod_two_pow, Int.toNat_natCast]
  by_cases h : i < n
  · simp [h, hi]; omega
  · simp [h, hi]; omega
theorem shr8 (a n : Nat) (h : n < 8) : shr .u8 (a : Int) (n : Int) = ((a / 2 ^ n : Nat) : Int) := by
  unfold shr
  rw [Int.toNat_natCast]
  have : IntKind.u8.bits = 8 := rfl
  rw [this, Nat.min_eq_left (by omega)]
  simp
theorem hi_v (v : Nat) (h : v < 2 ^ 128) : hi (BitVec.ofNat 128 v) = ((v / 2 ^ 64 : Nat) : Int) := by unfold hi; rw [hiN_mk _ h]
theorem lo_v (v : Nat) (h : v < 2 ^ 128) : lo (BitVec.ofNat 128 v) = ((v % 2 ^ 64 : Nat) : Int) := by unfold lo; rw [loN_mk _ h]

/-! ### may -/
def may (s : ByteArray) (o n : Int) : Int := if n < 1 ∨ n > 128 ∨ o < 0 then 1 else if o > 8 * (s.size : Int) - n then 4 else 0
theorem may_j {s : ByteArray} {o n : Int} (hs : s.size ≤ 140737488351232) (x : Bool) (hx : x = decide (n < 1 ∨ n > 128 ∨ o < 0)) :
    Ev (fun k => field_may.j0 k s o n x) (may s o n) := by
  refine Ev.step (f := _) (fun k => by rw [field_may.j0]) ?_
  unfold may
  by_cases h : n < 1 ∨ n > 128 ∨ o < 0
  · rw [if_pos h]
    exact Ev.ip (by rw [hx]; exact decide_eq_true h) (Ev.now _)
  · rw [if_neg h]
    refine Ev.in (by rw [hx, decide_eq_false h]; decide) ?_
    rw [w64 (n := 8 * (s.size : Int)) (by omega) (by omega), w64 (by omega) (by omega)]
    by_cases h2 : o > 8 * (s.size : Int) - n
    · rw [if_pos h2, if_pos h2]; exact Ev.now _
    · rw [if_neg h2, if_neg h2]; exact Ev.now _
theorem may_ev (s : ByteArray) (o n : Int) (hs : s.size ≤ 140737488351232) : Ev (fun k => field_may.f k s o n) (may s o n) := by
  unfold field_may.f
  by_cases h1 : n < 1
  · refine Ev.ip h1 (may_j hs _ (by simp [h1]))
  · refine Ev.in h1 ?_
    by_cases h2 : n > 128
    · exact Ev.ip h2 (may_j hs _ (by simp [h2]))
    · exact Ev.in h2 (may_j hs _ (by simp [h1, h2]))
theorem get_l (s : ByteArray) (o n c b : Nat) (hn : 1 ≤ n) (hn' : n ≤ 128) (hs : o + n ≤ 8 * s.size) (hs' : s.size ≤ 140737488351232)
    (hc : o / 8 + c + 1 = (o + n + 7) / 8) (hb : 8 * (o / 8 + c + 1) = o + n + b) : ∀ d i, i + d = c →
    Ev (fun k => field_Get.l0 k s o n ((o / 8 : Nat) : Int) ((o / 8 + c + 1 : Nat) : Int) (c : Int) (i : Int) (hi (BitVec.ofNat 128 (num s (8 * (o / 8)) (8 * i)))) (lo (BitVec.ofNat 128 (num s (8 * (o / 8)) (8 * i))))) (hi (BitVec.ofNat 128 (num s o n)), lo (BitVec.ofNat 128 (num s o n)), 0) := by
  intro d
  induction d with
  | zero =>
    intro i hi'
    obtain rfl : i = c := by omega
    refine Ev.step (f := _) (fun k => by rw [field_Get.l0]) ?_
    refine Ev.in (by omega) ?_
    have e1 : wrap64 ((wrap64 ((wrap64 (((o / 8 + i + 1 : Nat) : Int) * 8)) - (o : Int))) - (n : Int)) = (b : Int) := by
      rw [w64 (n := ((o / 8 + i + 1 : Nat) : Int) * 8) (by omega) (by omega), w64 (n := ((o / 8 + i + 1 : Nat) : Int) * 8 - (o : Int)) (by omega) (by omega), w64 (by omega) (by omega)]; omega
    have e2 : wrap64 (8 - (b : Int)) = ((8 - b : Nat) : Int) := by rw [w64 (by omega) (by omega)]; omega
    have e3 : wrap64 (((o / 8 + i + 1 : Nat) : Int) - 1) = ((o / 8 + i : Nat) : Int) := by rw [w64 (by omega) (by omega)]; omega
    have hby := bN_lt s (o / 8 + i)
    have hdv : 0 ≤ ((bN s (o / 8 + i) / 2 ^ b : Nat) : Int) := Int.natCast_nonneg _
    have e4 : IntKind.u64.wrap (shr .u8 (bt s ((o / 8 + i : Nat) : Int)) (b : Int)) = ((bN s (o / 8 + i) / 2 ^ b : Nat) : Int) := by
      have : bN s (o / 8 + i) / 2 ^ b ≤ bN s (o / 8 + i) := Nat.div_le_self _ _
      rw [bN_bt, shr8 _ _ (by omega)]
      generalize bN s (o / 8 + i) / 2 ^ b = q at this
      rw [u64w (by omega) (by omega)]
    rw [e1, e2, e3, e4]
    have hw := left_ev (BitVec.ofNat 128 (num s (8 * (o / 8)) (8 * i))) ((8 - b : Nat) : Int) (by omega) (by omega)
    refine Ev.pb hw ?_
    refine Ev.ip (by omega) ?_
    refine Ev.ip (by omega) ?_
    refine Ev.ip (by omega) ?_
    have : bN s (o / 8 + i) / 2 ^ b ≤ bN s (o / 8 + i) := Nat.div_le_self _ _
    have hnew := new_ev ((bN s (o / 8 + i) / 2 ^ b : Nat) : Int) (Int.natCast_nonneg _) (Int.lt_of_le_of_lt (Int.ofNat_le.2 this) (by omega))
    refine Ev.pb hnew ?_
    refine Ev.pb (or_ev _ _) ?_
    refine Ev.pb (cut_ev _ _) ?_
    have hlast := num_byte s (o / 8 + i) (8 - b) (by omega)
    rw [show 8 - (8 - b) = b by omega] at hlast
    rw [Int.toNat_natCast, Int.toNat_natCast, ← hlast, push _ _ _ (num_lt _ _ _), show 8 * (o / 8 + i) = 8 * (o / 8) + 8 * i by omega, ← num_add, and_mask _ _ hn']
    have hsplit : 8 * i + (8 - b) = (o - 8 * (o / 8)) + n := by omega
    rw [hsplit, num_add, show 8 * (o / 8) + (o - 8 * (o / 8)) = o by omega, Nat.mul_comm, Nat.mul_add_mod, Nat.mod_eq_of_lt (num_lt s o n)]
    exact Ev.now _
  | succ d ih =>
    intro i hi'
    refine Ev.step (f := _) (fun k => by rw [field_Get.l0]) ?_
    refine Ev.ip (by omega) ?_
    have e1 : wrap64 (((o / 8 : Nat) : Int) + (i : Int)) = ((o / 8 + i : Nat) : Int) := by rw [w64 (by omega) (by omega)]; omega
    have e2 : wrap64 ((i : Int) + 1) = ((i + 1 : Nat) : Int) := by rw [w64 (by omega) (by omega)]; omega
    have hby := bN_lt s (o / 8 + i)
    have e3 : IntKind.u64.wrap (bt s ((o / 8 + i : Nat) : Int)) = ((bN s (o / 8 + i) : Nat) : Int) := by rw [bN_bt, u64w (by omega) (by omega)]
    rw [e1, e2, e3]
    have hw := left_ev (BitVec.ofNat 128 (num s (8 * (o / 8)) (8 * i))) 8 (by omega) (by omega)
    rw [show (8 : Int).toNat = 8 from rfl] at hw
    have hpos : 0 ≤ ((o / 8 + i : Nat) : Int) := Int.natCast_nonneg _
    have hlt : ((o / 8 + i : Nat) : Int) < (s.size : Int) := Int.ofNat_lt.2 (by omega)
    refine Ev.pb hw ?_
    refine Ev.ip hpos ?_
    refine Ev.ip hlt ?_
    have hnew := new_ev ((bN s (o / 8 + i) : Nat) : Int) (by omega) (by omega)
    refine Ev.pb hnew ?_
    refine Ev.pb (or_ev _ _) ?_
    have hlast := num_byte s (o / 8 + i) 8 (by omega)
    rw [show 8 - 8 = 0 from rfl, Nat.pow_zero, Nat.div_one] at hlast
    rw [Int.toNat_natCast, ← hlast, push _ _ _ (num_lt _ _ _), show 8 * (o / 8 + i) = 8 * (o / 8) + 8 * i by omega, ← num_add, show 8 * i + 8 = 8 * (i + 1) by omega]
    exact ih (i + 1) (by omega)
theorem get_ok (s : ByteArray) (o n : Nat) (hn : 1 ≤ n) (hn' : n ≤ 128) (hs : o + n ≤ 8 * s.size) (hs' : s.size ≤ 140737488351232) :
    Ev (fun k => field_Get.f k s o n) (hi (BitVec.ofNat 128 (num s o n)), lo (BitVec.ofNat 128 (num s o n)), 0) := by
  unfold field_Get.f
  have hm : may s o n = 0 := by unfold may; rw [if_neg (by omega), if_neg (by omega)]
  have := may_ev s o n hs'
  rw [hm] at this
  refine Ev.bind this ?_
  refine Ev.ip rfl ?_
  have e1 : wrap64 (Int.tdiv (o : Int) 8) = ((o / 8 : Nat) : Int) := by rw [Int.tdiv_eq_ediv_of_nonneg (by omega), w64 (by omega) (by omega)]; omega
  have e2 : wrap64 (Int.tdiv (wrap64 ((wrap64 ((wrap64 ((o : Int) + n)) + 8)) - 1)) 8) = (((o + n + 7) / 8 : Nat) : Int) := by
    rw [w64 (n := (o : Int) + n) (by omega) (by omega), w64 (n := (o : Int) + n + 8) (by omega) (by omega), w64 (n := (o : Int) + n + 8 - 1) (by omega) (by omega), Int.tdiv_eq_ediv_of_nonneg (by omega), w64 (by omega) (by omega)]; omega
  obtain ⟨c, hc⟩ : ∃ c, o / 8 + c + 1 = (o + n + 7) / 8 := ⟨(o + n + 7) / 8 - o / 8 - 1, by omega⟩
  have e3 : wrap64 ((wrap64 ((((o + n + 7) / 8 : Nat) : Int) - ((o / 8 : Nat) : Int))) - 1) = (c : Int) := by
    rw [w64 (n := (((o + n + 7) / 8 : Nat) : Int) - ((o / 8 : Nat) : Int)) (by omega) (by omega), w64 (by omega) (by omega)]; omega
  rw [e1, e2, e3, ← hc]
  have := get_l s o n c (8 * (o / 8 + c + 1) - (o + n)) hn hn' hs hs' hc (by omega) c 0 (by omega)
  have z1 : hi (BitVec.ofNat 128 (num s (8 * (o / 8)) (8 * 0))) = 0 := zero_hi
  have z2 : lo (BitVec.ofNat 128 (num s (8 * (o / 8)) (8 * 0))) = 0 := zero_lo
  rw [z1, z2] at this
  exact this
theorem get_bad (s : ByteArray) (o n : Int) (hs' : s.size ≤ 140737488351232) (h : may s o n ≠ 0) : Ev (fun k => field_Get.f k s o n) (0, 0, may s o n) := by
  unfold field_Get.f
  refine Ev.bind (may_ev s o n hs') ?_
  exact Ev.in h (Ev.now _)
theorem may_zero {s : ByteArray} {o n : Int} (h : may s o n = 0) : ∃ o' n' : Nat, o = o' ∧ n = n' ∧ 1 ≤ n' ∧ n' ≤ 128 ∧ o' + n' ≤ 8 * s.size := by
  unfold may at h
  split at h
  · exact absurd h (by decide)
  · split at h
    · exact absurd h (by decide)
    · exact ⟨o.toNat, n.toNat, by omega, by omega, by omega, by omega, by omega⟩


end Go.Proofs.Ytpchlnbnpgaocaa.MField
