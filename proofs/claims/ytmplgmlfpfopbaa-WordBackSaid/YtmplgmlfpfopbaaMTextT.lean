/- What Text and Of come to, of the program and of the reference. Plain lemmas. -/
import Derived.Test.YtmplgmlfpfopbaaMRefT
import Derived.Test.YtmplgmlfpfopbaaMText
import Derived.Test.YtmplgmlfpfopbaaPWordTx6
set_option linter.unusedVariables false
set_option linter.unusedSimpArgs false
namespace Go.Proofs.Ytmplgmlfpfopbaa.MWordT
open Go.RowKit Go.Proofs.Ytmplgmlfpfopbaa.PWordT Go.Proofs.Ytmplgmlfpfopbaa.MBits Go.Proofs.Ytmplgmlfpfopbaa.MTab Go.Proofs.Ytmplgmlfpfopbaa.MText Go.Proofs.YtmplgmlfpfopbaaW.PrintWords Go.Proofs.YtmplgmlfpfopbaaW.PrintLast Go.Proofs.YtmplgmlfpfopbaaW.PrintMore

theorem row_ev (x : W) : ∀ n, n ≤ 16 → word_Text.row (hi x) (lo x) n = some ((List.range n).map fun i => (byteN x.toNat i : Int)) := by
  intro n
  induction n with
  | zero => intro _; rfl
  | succ n ih =>
    intro h
    unfold word_Text.row
    have e : (128 : Int) - 8 * ((n : Int) + 1) = ((120 - 8 * n : Nat) : Int) := by omega
    rw [ih (by omega), e, Option.bind_some, right_ev x _ (by omega) (by omega), Option.bind_some, Int.toNat_natCast]
    simp only
    rw [lo_byte x n (by omega), List.range_succ, List.map_append]; rfl
theorem text_ev (x : W) : word_Text.f (hi x) (lo x) = some (tx x) := by
  unfold word_Text.f
  rw [row_ev x 16 (Nat.le_refl _), Option.bind_some]
  congr 1

/-! ### numbers out of bytes -/
theorem ofB_snoc (l : List UInt8) (b : UInt8) : ofB (l ++ [b]) = (ofB l <<< 8) ||| BitVec.ofNat 128 b.toNat := by
  unfold ofB; rw [List.foldl_append]; rfl
theorem ofB_nat (l : List UInt8) : (ofB l).toNat = natOf l % 2 ^ 128 := by
  have key : ∀ m : List UInt8, (ofB m.reverse).toNat = natOf m.reverse % 2 ^ 128 := by
    intro m
    induction m with
    | nil => rfl
    | cons b m ih =>
      have hb := b.toNat_lt
      rw [List.reverse_cons, ofB_snoc, natOf_snoc, BitVec.toNat_or, BitVec.toNat_shiftLeft, ih, Nat.shiftLeft_eq, BitVec.toNat_ofNat, Nat.mod_eq_of_lt (a := b.toNat) (by omega)]
      rw [nat_join 8 _ _ (by show _ % 256 = 0; omega) (by show _ < 256; omega)]
      omega
  have := key l.reverse
  rwa [List.reverse_reverse] at this
theorem ofB_tx (x : W) : ofB (tx x).data.toList = x := by
  apply BitVec.eq_of_toNat_eq
  rw [ofB_nat, tx_data, natOf_all _ x.isLt, Nat.mod_eq_of_lt x.isLt]

/-! ### the reference's Of -/
def bitsNat (l : List Bool) : Nat := l.foldl (fun n b => n * 2 + (if b then 1 else 0)) 0
theorem bitsNat_snoc (l : List Bool) (b : Bool) : bitsNat (l ++ [b]) = bitsNat l * 2 + (if b then 1 else 0) := by
  unfold bitsNat; rw [List.foldl_append]; rfl
theorem wl_nat (l : List Bool) : (wl l).toNat = bitsNat l % 2 ^ 128 := by
  have key : ∀ m : List Bool, (wl m.reverse).toNat = bitsNat m.reverse % 2 ^ 128 := by
    intro m
    induction m with
    | nil => rfl
    | cons b m ih => rw [List.reverse_cons, wl_snoc, bitsNat_snoc, step_toNat, ih]; omega
  have := key l.reverse
  rwa [List.reverse_reverse] at this
/-- The bit at a place of a text. -/
def sbit (s : ByteArray) (i : Nat) : Bool := decide ((bt s ((i / 8 : Nat) : Int)).toNat / 2 ^ (7 - i % 8) % 2 = 1)
theorem byte_bits (n b : Nat) (hb : b < 256) : ((((((((n * 2 + b / 128 % 2) * 2 + b / 64 % 2) * 2 + b / 32 % 2) * 2 + b / 16 % 2) * 2 + b / 8 % 2) * 2 + b / 4 % 2) * 2 + b / 2 % 2) * 2 + b % 2) = n * 256 + b := by omega
theorem ite_bit (n : Nat) : (if decide (n % 2 = 1) = true then 1 else 0) = n % 2 := by
  rcases Nat.mod_two_eq_zero_or_one n with h | h <;> simp [h]
theorem bits_bytes (s : ByteArray) : ∀ j, j ≤ s.size → bitsNat ((List.range (8 * j)).map (sbit s)) = natOf (s.data.toList.take j) := by
  intro j
  induction j with
  | zero => intro _; rfl
  | succ j ih =>
    intro h
    have hj : j < s.size := by omega
    have hb := (s[j]).toNat_lt
    have e : 8 * (j + 1) = 8 * j + 1 + 1 + 1 + 1 + 1 + 1 + 1 + 1 := by omega
    have hbit : ∀ q, q < 8 → (if sbit s (8 * j + q) = true then 1 else 0) = (s[j]).toNat / 2 ^ (7 - q) % 2 := by
      intro q hq
      unfold sbit
      have e1 : (8 * j + q) / 8 = j := by omega
      have e2 : (8 * j + q) % 8 = q := by omega
      rw [e1, e2, bt_nat s j hj, Int.toNat_natCast, ite_bit]
    have b0 := hbit 0 (by omega); have b1 := hbit 1 (by omega); have b2 := hbit 2 (by omega); have b3 := hbit 3 (by omega)
    have b4 := hbit 4 (by omega); have b5 := hbit 5 (by omega); have b6 := hbit 6 (by omega); have b7 := hbit 7 (by omega)
    rw [e]
    simp only [List.range_succ, List.map_append, List.map_cons, List.map_nil, bitsNat_snoc]
    rw [ih (by omega)]
    simp only [Nat.add_zero, Nat.add_assoc, Nat.reduceAdd, Nat.reduceSub, Nat.reducePow, Nat.div_one, Nat.sub_zero] at b0 b1 b2 b3 b4 b5 b6 b7 ⊢
    rw [b0, b1, b2, b3, b4, b5, b6, b7, List.take_succ_eq_append_getElem (by rw [len_data]; exact hj), natOf_snoc]
    exact byte_bits _ _ hb
theorem wl_bytes (s : ByteArray) : wl ((List.range (8 * s.size)).map (sbit s)) = ofB s.data.toList := by
  apply BitVec.eq_of_toNat_eq
  rw [wl_nat, ofB_nat, bits_bytes s s.size (Nat.le_refl _), List.take_of_length_le (by rw [len_data]; exact Nat.le_refl _)]
theorem rof_l0 (s : ByteArray) (hs : s.size ≤ 16) (d : Nat) : ∀ (i : Nat), i + d = 8 * s.size →
    Ev (fun k => turnoutref01_Of.l0 k s (((List.range i).map (sbit s)).map b2i) (i : Int)) (hi (ofB s.data.toList), lo (ofB s.data.toList), 0) := by
  induction d with
  | zero =>
    intro i h
    obtain rfl : i = 8 * s.size := by omega
    refine Ev.step (f := _) (fun k => by rw [turnoutref01_Of.l0]) ?_
    refine Ev.in (by rw [w64 (by omega) (by omega)]; omega) ?_
    have := word_l0 ((List.range (8 * s.size)).map (sbit s)) (by simp; omega) (8 * s.size) 0 0#128 (by simp) rfl
    rw [zero_hi, zero_lo, wl_bytes] at this
    exact Ev.bind this (Ev.now _)
  | succ d ih =>
    intro i h
    refine Ev.step (f := _) (fun k => by rw [turnoutref01_Of.l0]) ?_
    have e1 : wrap64 (Int.tdiv (i : Int) 8) = ((i / 8 : Nat) : Int) := by
      rw [Int.tdiv_eq_ediv_of_nonneg (by omega), w64 (by omega) (by omega)]; omega
    have e2 : IntKind.u64.wrap (wrap64 (7 - (Int.tmod (i : Int) 8))) = ((7 - i % 8 : Nat) : Int) := by
      rw [Int.tmod_eq_emod_of_nonneg (by omega), w64 (by omega) (by omega), u64w (by omega) (by omega)]; omega
    have e3 : wrap64 ((i : Int) + 1) = ((i + 1 : Nat) : Int) := by rw [w64 (by omega) (by omega)]; omega
    have hb := bt_range s ((i / 8 : Nat) : Int)
    have e4 : Int.tmod (shr .u8 (bt s ((i / 8 : Nat) : Int)) ((7 - i % 8 : Nat) : Int)) 2 = b2i (sbit s i) := by
      unfold shr sbit b2i
      have hm : min ((7 - i % 8 : Nat) : Int).toNat IntKind.u8.bits = 7 - i % 8 := by rw [Int.toNat_natCast]; exact Nat.min_eq_left (by show _ ≤ 8; omega)
      obtain ⟨n, hn⟩ := Int.eq_ofNat_of_zero_le hb.1
      rw [hm, hn, Int.tmod_eq_emod_of_nonneg (Int.ediv_nonneg (by omega) (Int.pow_nonneg (by decide))), Int.toNat_natCast]
      have e5 : ((n : Int) / 2 ^ (7 - i % 8)) % 2 = ((n / 2 ^ (7 - i % 8) % 2 : Nat) : Int) := by
        rw [Int.natCast_emod, Int.natCast_ediv, Int.natCast_pow]; rfl
      rw [e5]
      rcases Nat.mod_two_eq_zero_or_one (n / 2 ^ (7 - i % 8)) with h | h <;> simp [h]
    rw [e1, e2, e3, e4]
    refine Ev.ip (by rw [w64 (by omega) (by omega)]; omega) ?_
    refine Ev.ip (by omega) ?_
    refine Ev.ip (by omega) ?_
    refine Ev.ip (by omega) ?_
    refine Ev.ip (by simp; omega) ?_
    have := ih (i + 1) (by omega)
    rw [List.range_succ, List.map_append, List.map_append] at this
    exact this
theorem rof_ev (s : ByteArray) (hs : s.size ≤ 16) : Ev (fun k => turnoutref01_Of.f k s) (hi (ofB s.data.toList), lo (ofB s.data.toList), 0) := by
  unfold turnoutref01_Of.f
  refine Ev.in (by omega) ?_
  exact rof_l0 s hs (8 * s.size) 0 (by omega)
theorem rof_long (s : ByteArray) (hs : 16 < s.size) : Ev (fun k => turnoutref01_Of.f k s) (0, 0, 5) := by
  unfold turnoutref01_Of.f
  exact Ev.ip (by omega) (Ev.now _)

/-! ### the reference's Text -/
def t16 (f : Nat → Int) : List Int := (List.range 16).map f
theorem t16_len (f : Nat → Int) : (t16 f).length = 16 := by simp [t16]
theorem t16_get (f : Nat → Int) (j : Nat) (h : j < 16) : (t16 f)[j]? = some (f j) := by unfold t16; simp [h]
theorem rd_t16 (f : Nat → Int) (j : Nat) (h : j < 16) : rd (t16 f) (j : Int) = f j := by
  unfold rd; rw [List.getD_eq_getElem?_getD, Int.toNat_natCast, t16_get f j h]; rfl
theorem t16_set (f : Nat → Int) (j : Nat) (v : Int) : (t16 f).set j v = t16 (fun i => if i = j then v else f i) := by
  apply List.ext_getElem?
  intro i
  rw [List.getElem?_set]
  by_cases hi : i < 16
  · rw [t16_get _ i hi, t16_get _ i hi, t16_len]
    by_cases e : j = i
    · subst e; simp [hi]
    · have : i ≠ j := fun h => e h.symm
      simp [e, this]
  · have h1 : ∀ f, (t16 f)[i]? = none := fun f => List.getElem?_eq_none (by rw [t16_len]; omega)
    rw [h1, h1, t16_len]
    by_cases e : j = i
    · subst e; simp [hi]
    · simp [e]
theorem t16_congr {f g : Nat → Int} (h : ∀ i, i < 16 → f i = g i) : t16 f = t16 g := by
  unfold t16; exact List.map_congr_left fun i hi => h i (List.mem_range.1 hi)
/-- What byte j is when i bits have come. -/
def part (n i j : Nat) : Nat := (n / 2 ^ (128 - min i (8 * (j + 1)))) % 2 ^ (min i (8 * (j + 1)) - 8 * j)
theorem part_step (n i : Nat) (hi : i < 128) : part n (i + 1) (i / 8) = part n i (i / 8) * 2 + n / 2 ^ (127 - i) % 2 := by
  unfold part
  have e1 : min (i + 1) (8 * (i / 8 + 1)) = i + 1 := by omega
  have e2 : min i (8 * (i / 8 + 1)) = i := by omega
  have e3 : 128 - (i + 1) = 127 - i := by omega
  have e4 : 128 - i = (127 - i) + 1 := by omega
  have e5 : i + 1 - 8 * (i / 8) = 1 + (i - 8 * (i / 8)) := by omega
  have e6 : 2 ^ (1 + (i - 8 * (i / 8))) = 2 * 2 ^ (i - 8 * (i / 8)) := by rw [Nat.pow_add]
  have e7 : 2 ^ (127 - i + 1) = 2 ^ (127 - i) * 2 := Nat.pow_succ _ _
  rw [e1, e2, e3, e4, e5, e6, e7, ← Nat.div_div_eq_div_mul, Nat.mod_mul]; omega
theorem part_other (n i j : Nat) (h : j ≠ i / 8) : part n (i + 1) j = part n i j := by
  unfold part
  by_cases hj : j < i / 8
  · have e1 : min (i + 1) (8 * (j + 1)) = 8 * (j + 1) := by omega
    have e2 : min i (8 * (j + 1)) = 8 * (j + 1) := by omega
    rw [e1, e2]
  · have e1 : min (i + 1) (8 * (j + 1)) - 8 * j = 0 := by omega
    have e2 : min i (8 * (j + 1)) - 8 * j = 0 := by omega
    rw [e1, e2, Nat.pow_zero, Nat.mod_one, Nat.mod_one]
theorem part_lt (n i : Nat) (hi : i < 128) : part n i (i / 8) < 128 := by
  unfold part
  have e2 : min i (8 * (i / 8 + 1)) = i := by omega
  rw [e2]
  have h1 : 2 ^ (i - 8 * (i / 8)) ≤ 2 ^ 7 := Nat.pow_le_pow_right (by omega) (by omega)
  have h2 := Nat.mod_lt (n / 2 ^ (128 - i)) (show 0 < 2 ^ (i - 8 * (i / 8)) from Nat.pos_of_ne_zero (by simp))
  omega
theorem rtext_l0 (x : W) (d : Nat) : ∀ (i : Nat), i + d = 128 →
    Ev (fun k => turnoutref01_Text.l0 k (bl fun i => x.getLsbD i) (t16 fun j => (part x.toNat i j : Int)) (i : Int)) (tx x) := by
  induction d with
  | zero =>
    intro i h
    obtain rfl : i = 128 := by omega
    refine Ev.step (f := _) (fun k => by rw [turnoutref01_Text.l0]) ?_
    refine Ev.in (by omega) ?_
    have e : strOfNums (t16 fun j => (part x.toNat 128 j : Int)) = tx x := by
      have e1 : (t16 fun j => (part x.toNat 128 j : Int)) = t16 fun j => (byteN x.toNat j : Int) := by
        apply t16_congr
        intro j hj
        unfold part byteN
        have e2 : min 128 (8 * (j + 1)) = 8 * (j + 1) := by omega
        have e3 : 8 * (j + 1) - 8 * j = 8 := by omega
        have e4 : 128 - 8 * (j + 1) = 120 - 8 * j := by omega
        rw [e2, e3, e4]
      rw [e1]
      have := str_bytes ((List.range 16).map fun i => byteN x.toNat i) (by intro n hn; obtain ⟨i, _, rfl⟩ := List.mem_map.1 hn; exact byteN_lt _ _)
      rw [List.map_map, List.map_map] at this
      exact this
    rw [e]; exact Ev.now _
  | succ d ih =>
    intro i h
    refine Ev.step (f := _) (fun k => by rw [turnoutref01_Text.l0]) ?_
    have e1 : wrap64 (Int.tdiv (i : Int) 8) = ((i / 8 : Nat) : Int) := by
      rw [Int.tdiv_eq_ediv_of_nonneg (by omega), w64 (by omega) (by omega)]; omega
    have e3 : wrap64 ((i : Int) + 1) = ((i + 1 : Nat) : Int) := by rw [w64 (by omega) (by omega)]; omega
    have l1 : ∀ g, (bl g).length = 128 := fun g => tab_len _
    have r1 : ∀ g, rd (bl g) (i : Int) = b2i (g (127 - i)) := fun g => rd_tab _ i (by omega)
    rw [e1, e3, l1, t16_len, r1, rd_t16 _ _ (by omega), Int.toNat_natCast, t16_set]
    refine Ev.ip (by omega) ?_
    refine Ev.ip (by omega) ?_
    refine Ev.ip (by omega) ?_
    refine Ev.ip (by omega) ?_
    refine Ev.ip (by omega) ?_
    have hbit : b2i (x.getLsbD (127 - i)) = ((x.toNat / 2 ^ (127 - i) % 2 : Nat) : Int) := by
      have : x.getLsbD (127 - i) = decide (x.toNat / 2 ^ (127 - i) % 2 = 1) := by
        show x.toNat.testBit _ = _
        rw [Nat.testBit_eq_decide_div_mod_eq]
      rw [this]; unfold b2i
      rcases Nat.mod_two_eq_zero_or_one (x.toNat / 2 ^ (127 - i)) with h | h <;> simp [h]
    have hstep := part_step x.toNat i (by omega)
    have hlt := part_lt x.toNat i (by omega)
    have e5 : (t16 fun j => if j = i / 8 then (((part x.toNat i (i / 8) : Int) * 2) % 256 + b2i (x.getLsbD (127 - i))) % 256 else (part x.toNat i j : Int)) = t16 fun j => (part x.toNat (i + 1) j : Int) := by
      apply t16_congr
      intro j hj
      by_cases ej : j = i / 8
      · subst ej
        rw [if_pos rfl, hbit, hstep]; omega
      · rw [if_neg ej, part_other _ _ _ ej]
    rw [e5]
    exact ih (i + 1) (by omega)
theorem rtext_ev (x : W) : Ev (fun k => turnoutref01_Text.f k (hi x) (lo x)) (tx x) := by
  unfold turnoutref01_Text.f
  refine Ev.bind (bits_ev x) ?_
  refine Ev.ip (by omega) ?_
  have e : List.replicate 16 (0 : Int) = t16 fun j => (part x.toNat 0 j : Int) := by
    have : (t16 fun j => (part x.toNat 0 j : Int)) = t16 fun _ => 0 := by
      apply t16_congr; intro j hj
      unfold part
      have e2 : min 0 (8 * (j + 1)) - 8 * j = 0 := by omega
      rw [e2, Nat.pow_zero, Nat.mod_one]; rfl
    rw [this]; unfold t16; rw [List.map_const', List.length_range]
  rw [e]
  exact rtext_l0 x 128 0 (by omega)
end Go.Proofs.Ytmplgmlfpfopbaa.MWordT
