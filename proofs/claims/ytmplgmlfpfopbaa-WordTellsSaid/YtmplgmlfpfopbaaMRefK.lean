/- What the reference's functions of layer 1 come to. Plain lemmas. -/
import Derived.Test.YtmplgmlfpfopbaaMTab
import Derived.Test.YtmplgmlfpfopbaaPWordKx6
import Derived.Test.YtmplgmlfpfopbaaPWordKx9
import Derived.Test.YtmplgmlfpfopbaaPWordKx10
import Derived.Test.YtmplgmlfpfopbaaMLenK
set_option linter.unusedVariables false
set_option linter.unusedSimpArgs false
namespace Go.Proofs.Ytmplgmlfpfopbaa.MWordK
open Go.RowKit Go.Proofs.Ytmplgmlfpfopbaa.PWordK Go.Proofs.Ytmplgmlfpfopbaa.MBits Go.Proofs.Ytmplgmlfpfopbaa.MTab Go.Proofs.YtmplgmlfpfopbaaW.PrintWords Go.Proofs.YtmplgmlfpfopbaaW.PrintLast Go.Proofs.YtmplgmlfpfopbaaW.PrintMore

theorem bits_l0 (x : W) (d : Nat) : ∀ (i : Nat) (f : Nat → Int), i + d = 64 → (∀ j, j < 128 → (63 < j + i ∧ j ≤ 63 ∨ 127 < j + i) → f j = b2i (x.getLsbD (127 - j))) →
    Ev (fun k => turnoutref01_Bits.l0 k (tab f) (i : Int) (hi x) (lo x)) (bl fun i => x.getLsbD i) := by
  induction d with
  | zero =>
    intro i f h hf
    obtain rfl : i = 64 := by omega
    have e : tab f = bl fun i => x.getLsbD i := tab_congr fun j hj => hf j hj (by omega)
    rw [e]
    refine Ev.step (f := _) (fun k => by rw [turnoutref01_Bits.l0]) ?_
    exact Ev.in (by omega) (Ev.now _)
  | succ d ih =>
    intro i f h hf
    refine Ev.step (f := _) (fun k => by rw [turnoutref01_Bits.l0]) ?_
    have e1 : wrap64 (63 - (i : Int)) = ((63 - i : Nat) : Int) := by rw [w64 (by omega) (by omega)]; omega
    have e2 : wrap64 (127 - (i : Int)) = ((127 - i : Nat) : Int) := by rw [w64 (by omega) (by omega)]; omega
    have e3 : wrap64 ((i : Int) + 1) = ((i + 1 : Nat) : Int) := by rw [w64 (by omega) (by omega)]; omega
    have e4 : IntKind.u64.wrap (i : Int) = (i : Int) := u64w (by omega) (by omega)
    have hb := hi_b x
    have lb := lo_b x
    have s1 : Int.tmod (shr .u64 (hi x) (i : Int)) 2 % 256 = b2i (x.getLsbD (i + 64)) := by
      rw [← getLsb_hi x i (by omega)]
      unfold shr
      have : min (i : Int).toNat IntKind.u64.bits = i := by rw [Int.toNat_natCast]; exact Nat.min_eq_left (by show i ≤ 64; omega)
      rw [this, Int.tmod_eq_emod_of_nonneg (Int.ediv_nonneg hb.1 (Int.pow_nonneg (by decide)))]
      omega
    have s2 : Int.tmod (shr .u64 (lo x) (i : Int)) 2 % 256 = b2i (x.getLsbD i) := by
      rw [← getLsb_lo x i (by omega)]
      unfold shr
      have : min (i : Int).toNat IntKind.u64.bits = i := by rw [Int.toNat_natCast]; exact Nat.min_eq_left (by show i ≤ 64; omega)
      rw [this, Int.tmod_eq_emod_of_nonneg (Int.ediv_nonneg lb.1 (Int.pow_nonneg (by decide)))]
      omega
    rw [e1, e2, e3, e4, s1, s2, tab_len, Int.toNat_natCast, Int.toNat_natCast, tab_set, tab_set]
    refine Ev.ip (by omega) ?_
    refine Ev.ip (by omega) ?_
    refine Ev.ip (by omega) ?_
    refine Ev.ip (by omega) ?_
    refine Ev.ip (by omega) ?_
    refine Ev.ip (by omega) ?_
    refine ih (i + 1) _ (by omega) fun j hj hd => ?_
    by_cases h1 : j = 127 - i
    · rw [if_pos h1, h1]
      congr 2; omega
    · rw [if_neg h1]
      by_cases h2 : j = 63 - i
      · rw [if_pos h2, h2]
        congr 2; omega
      · rw [if_neg h2]
        exact hf j hj (by omega)
theorem bits_ev (x : W) : Ev (fun k => turnoutref01_Bits.f k (hi x) (lo x)) (bl fun i => x.getLsbD i) := by
  unfold turnoutref01_Bits.f
  refine Ev.ip (by omega) ?_
  rw [tab_zero]
  exact bits_l0 x 64 0 _ (by omega) fun j hj h => by omega

theorem word_l0 (l : List Bool) (hl : l.length ≤ 4611686018427387904) (d : Nat) : ∀ (i : Nat) (w : W), i + d = l.length → w = wl (l.take i) →
    Ev (fun k => turnoutref01_Word.l0 k (l.map b2i) (i : Int) (hi w) (lo w)) (hi (wl l), lo (wl l)) := by
  induction d with
  | zero =>
    intro i w h hw
    rw [List.take_of_length_le (by omega)] at hw
    subst hw
    refine Ev.step (f := _) (fun k => by rw [turnoutref01_Word.l0]) ?_
    exact Ev.in (by rw [List.length_map]; omega) (Ev.now _)
  | succ d ih =>
    intro i w h hw
    refine Ev.step (f := _) (fun k => by rw [turnoutref01_Word.l0]) ?_
    have hi' : i < l.length := by omega
    refine Ev.ip (by rw [List.length_map]; omega) ?_
    refine Ev.ip (by omega) ?_
    have e3 : wrap64 ((i : Int) + 1) = ((i + 1 : Nat) : Int) := by rw [w64 (by omega) (by omega)]; omega
    have e4 : rd (l.map b2i) (i : Int) = b2i l[i] := by
      unfold rd; rw [List.getD_eq_getElem?_getD, Int.toNat_natCast, List.getElem?_map, List.getElem?_eq_getElem hi']; rfl
    have hb := hi_b w
    have lb := lo_b w
    have rb := b2i_range l[i]
    have e5 : IntKind.u64.wrap ((IntKind.u64.wrap (hi w * 2)) + (IntKind.u64.wrap (Int.tdiv (lo w) 9223372036854775808))) = hi ((w <<< 1) ||| (if l[i] then 1#128 else 0#128)) := by
      rw [step_hi, Int.tdiv_eq_ediv_of_nonneg lb.1, IntKind.wrap_u64, IntKind.wrap_u64, u64w (n := lo w / 9223372036854775808) (by omega) (by omega)]
    have e6 : IntKind.u64.wrap ((IntKind.u64.wrap (lo w * 2)) + (IntKind.u64.wrap (b2i l[i]))) = lo ((w <<< 1) ||| (if l[i] then 1#128 else 0#128)) := by
      rw [step_lo, IntKind.wrap_u64, IntKind.wrap_u64, u64w (n := b2i l[i]) (by omega) (by omega)]
    rw [e3, e4, e5, e6]
    refine ih (i + 1) _ (by omega) ?_
    rw [List.take_succ_eq_append_getElem hi', wl_snoc, ← hw]
theorem word_ev (g : Nat → Bool) : Ev (fun k => turnoutref01_Word.f k (bl g)) (hi (wf g), lo (wf g)) := by
  unfold turnoutref01_Word.f
  have := word_l0 ((List.range 128).map fun j => g (127 - j)) (by simp) 128 0 0#128 (by simp) rfl
  rw [List.map_map, zero_hi, zero_lo] at this
  exact this


theorem bl_len (g : Nat → Bool) : (bl g).length = 128 := tab_len _
theorem bl_getD (g : Nat → Bool) (i : Nat) (h : i < 128) : (bl g).getD i 0 = b2i (g (127 - i)) := by
  unfold bl; rw [List.getD_eq_getElem?_getD, tab_get _ i h]; rfl
theorem b2i_01 (b : Bool) : b2i b = 0 ∨ b2i b = 1 := by cases b <;> simp [b2i]

/-! ### each -/
theorem each_ev (t : List Int) (op : Bool → Bool → Bool) (ht : ∀ a b, tabOf t (b2i a) (b2i b) = b2i (op a b)) (x y z : W) (hz : ∀ i, i < 128 → op (x.getLsbD i) (y.getLsbD i) = z.getLsbD i) :
    Ev (fun k => turnoutref01_And.eachF t k (hi x) (lo x) (hi y) (lo y)) (hi z, lo z) := by
  unfold turnoutref01_And.eachF
  refine Ev.bind (bits_ev x) ?_
  refine Ev.bind (bits_ev y) ?_
  have hall : ((List.range 128).all fun i => ((bl fun i => x.getLsbD i).getD i 0 == 0 || (bl fun i => x.getLsbD i).getD i 0 == 1) && ((bl fun i => y.getLsbD i).getD i 0 == 0 || (bl fun i => y.getLsbD i).getD i 0 == 1)) = true := by
    rw [List.all_eq_true]
    intro i hi
    have hi := List.mem_range.1 hi
    rw [bl_getD _ _ hi, bl_getD _ _ hi]
    rcases b2i_01 (x.getLsbD (127 - i)) with h1 | h1 <;> rcases b2i_01 (y.getLsbD (127 - i)) with h2 | h2 <;> rw [h1, h2] <;> rfl
  refine Ev.ip ⟨bl_len _, bl_len _, hall⟩ ?_
  have e : eachRow t (bl fun i => x.getLsbD i) (bl fun i => y.getLsbD i) = bl fun i => op (x.getLsbD i) (y.getLsbD i) := by
    unfold eachRow
    show _ = tab _
    unfold tab
    refine List.map_congr_left (fun i hi => ?_)
    have hi := List.mem_range.1 hi
    rw [bl_getD _ _ hi, bl_getD _ _ hi, ht]
  rw [e]
  have := word_ev fun i => op (x.getLsbD i) (y.getLsbD i)
  rwa [wf_eq hz] at this
theorem rand_ev (x y : W) : Ev (fun k => turnoutref01_And.f k (hi x) (lo x) (hi y) (lo y)) (hi (x &&& y), lo (x &&& y)) :=
  each_ev _ (fun a b => a && b) (by intro a b; cases a <;> cases b <;> rfl) x y _ (fun i _ => by rw [BitVec.getLsbD_and])
theorem ror_ev (x y : W) : Ev (fun k => turnoutref01_Or.f k (hi x) (lo x) (hi y) (lo y)) (hi (x ||| y), lo (x ||| y)) :=
  each_ev _ (fun a b => a || b) (by intro a b; cases a <;> cases b <;> rfl) x y _ (fun i _ => by rw [BitVec.getLsbD_or])
theorem rxor_ev (x y : W) : Ev (fun k => turnoutref01_Xor.f k (hi x) (lo x) (hi y) (lo y)) (hi (x ^^^ y), lo (x ^^^ y)) :=
  each_ev _ (fun a b => a ^^ b) (by intro a b; cases a <;> cases b <;> rfl) x y _ (fun i _ => by rw [BitVec.getLsbD_xor])
theorem rnot_ev (x : W) : Ev (fun k => turnoutref01_Not.f k (hi x) (lo x)) (hi (~~~x), lo (~~~x)) :=
  each_ev _ (fun a b => !a) (by intro a b; cases a <;> cases b <;> rfl) x x _ (fun i h => by rw [BitVec.getLsbD_not]; simp [h])

/-! ### shifts -/
theorem rleft_l (x : W) (n : Int) (h0 : -9223372036854775808 ≤ n) (h1 : n ≤ 9223372036854775807) (d : Nat) : ∀ (i : Nat) (f : Nat → Int), i + d = 128 → (∀ j, j < 128 → f j = if j < i then b2i ((x <<< n.toNat).getLsbD (127 - j)) else 0) →
    Ev (fun k => turnoutref01_Left.l0 k n (bl fun i => x.getLsbD i) (tab f) (i : Int)) (hi (x <<< n.toNat), lo (x <<< n.toNat)) := by
  induction d with
  | zero =>
    intro i f h hf
    obtain rfl : i = 128 := by omega
    have e : tab f = bl fun i => (x <<< n.toNat).getLsbD i := tab_congr fun j hj => by rw [hf j hj, if_pos hj]
    rw [e]
    refine Ev.step (f := _) (fun k => by rw [turnoutref01_Left.l0]) ?_
    refine Ev.in (by omega) ?_
    have := word_ev fun i => (x <<< n.toNat).getLsbD i
    rw [wf_of] at this
    exact Ev.bind this (Ev.now _)
  | succ d ih =>
    intro i f h hf
    have e3 : wrap64 ((i : Int) + 1) = ((i + 1 : Nat) : Int) := by rw [w64 (by omega) (by omega)]; omega
    have hx := x.isLt
    refine Ev.step (f := _) (fun k => by rw [turnoutref01_Left.l0]) ?_
    refine Ev.ip (by omega) ?_
    by_cases hn : n < 0
    · refine Ev.ip hn ?_
      refine Ev.ip (by omega) ?_
      refine Ev.ip (by rw [bl_len]; omega) ?_
      refine Ev.ip (by rw [tab_len]; omega) ?_
      have hz : n.toNat = 0 := by omega
      have r1 : rd (bl fun i => x.getLsbD i) (i : Int) = b2i (x.getLsbD (127 - i)) := rd_tab _ i (by omega)
      rw [e3, r1, Int.toNat_natCast, tab_set]
      refine ih (i + 1) _ (by omega) (fun j hj => ?_)
      by_cases e : j = i
      · subst e; rw [if_pos rfl, if_pos (by omega), hz, BitVec.shiftLeft_zero]
      · rw [if_neg e, hf j hj]
        by_cases e2 : j < i
        · rw [if_pos e2, if_pos (by omega)]
        · rw [if_neg e2, if_neg (by omega)]
    · refine Ev.in hn ?_
      obtain ⟨m, rfl⟩ := Int.eq_ofNat_of_zero_le (show 0 ≤ n by omega)
      have e1 : wrap64 (128 - (i : Int)) = ((128 - i : Nat) : Int) := by rw [w64 (by omega) (by omega)]; omega
      rw [e1]
      by_cases hm : m < 128 - i
      · refine Ev.ip (by omega) ?_
        have e2 : wrap64 ((i : Int) + (m : Int)) = ((i + m : Nat) : Int) := by rw [w64 (by omega) (by omega)]; omega
        rw [e2]
        refine Ev.ip (by omega) ?_
        refine Ev.ip (by rw [bl_len]; omega) ?_
        refine Ev.ip (by omega) ?_
        refine Ev.ip (by rw [tab_len]; omega) ?_
        have r1 : rd (bl fun i => x.getLsbD i) ((i + m : Nat) : Int) = b2i (x.getLsbD (127 - (i + m))) := rd_tab _ (i + m) (by omega)
        rw [e3, r1, Int.toNat_natCast, Int.toNat_natCast, tab_set]
        refine ih (i + 1) _ (by omega) (fun j hj => ?_)
        by_cases e : j = i
        · subst e
          rw [if_pos rfl, if_pos (by omega), Int.toNat_natCast, BitVec.getLsbD_shiftLeft]
          have c1 : 127 - j < 128 := by omega
          have c2 : ¬ 127 - j < m := by omega
          have c3 : 127 - j - m = 127 - (j + m) := by omega
          simp [c1, c2, c3]
        · rw [if_neg e, hf j hj]
          by_cases e2 : j < i
          · rw [if_pos e2, if_pos (by omega)]
          · rw [if_neg e2, if_neg (by omega)]
      · refine Ev.in (by omega) ?_
        rw [e3]
        refine ih (i + 1) f (by omega) (fun j hj => ?_)
        rw [hf j hj]
        by_cases e2 : j < i
        · rw [if_pos e2, if_pos (by omega)]
        · rw [if_neg e2]
          by_cases e4 : j < i + 1
          · rw [if_pos e4, Int.toNat_natCast, BitVec.getLsbD_shiftLeft]
            have c2 : 127 - j < m := by omega
            simp [c2, b2i]
          · rw [if_neg e4]
theorem rleft_ev (x : W) (n : Int) (h0 : -9223372036854775808 ≤ n) (h1 : n ≤ 9223372036854775807) : Ev (fun k => turnoutref01_Left.f k (hi x) (lo x) n) (hi (x <<< n.toNat), lo (x <<< n.toNat)) := by
  unfold turnoutref01_Left.f
  refine Ev.bind (bits_ev x) ?_
  refine Ev.ip (by omega) ?_
  rw [tab_zero]
  exact rleft_l x n h0 h1 128 0 _ (by omega) (fun j hj => by rw [if_neg (by omega)])
theorem rright_l (x : W) (n : Int) (h0 : -9223372036854775808 ≤ n) (h1 : n ≤ 9223372036854775807) (d : Nat) : ∀ (i : Nat) (f : Nat → Int), i + d = 128 → (∀ j, j < 128 → f j = if j < i then b2i ((x >>> n.toNat).getLsbD (127 - j)) else 0) →
    Ev (fun k => turnoutref01_Right.l0 k n (bl fun i => x.getLsbD i) (tab f) (i : Int)) (hi (x >>> n.toNat), lo (x >>> n.toNat)) := by
  induction d with
  | zero =>
    intro i f h hf
    obtain rfl : i = 128 := by omega
    have e : tab f = bl fun i => (x >>> n.toNat).getLsbD i := tab_congr fun j hj => by rw [hf j hj, if_pos hj]
    rw [e]
    refine Ev.step (f := _) (fun k => by rw [turnoutref01_Right.l0]) ?_
    refine Ev.in (by omega) ?_
    have := word_ev fun i => (x >>> n.toNat).getLsbD i
    rw [wf_of] at this
    exact Ev.bind this (Ev.now _)
  | succ d ih =>
    intro i f h hf
    have e3 : wrap64 ((i : Int) + 1) = ((i + 1 : Nat) : Int) := by rw [w64 (by omega) (by omega)]; omega
    refine Ev.step (f := _) (fun k => by rw [turnoutref01_Right.l0]) ?_
    refine Ev.ip (by omega) ?_
    by_cases hn : n < 0
    · refine Ev.ip hn ?_
      refine Ev.ip (by omega) ?_
      refine Ev.ip (by rw [bl_len]; omega) ?_
      refine Ev.ip (by rw [tab_len]; omega) ?_
      have hz : n.toNat = 0 := by omega
      have r1 : rd (bl fun i => x.getLsbD i) (i : Int) = b2i (x.getLsbD (127 - i)) := rd_tab _ i (by omega)
      rw [e3, r1, Int.toNat_natCast, tab_set]
      refine ih (i + 1) _ (by omega) (fun j hj => ?_)
      by_cases e : j = i
      · subst e; rw [if_pos rfl, if_pos (by omega), hz, BitVec.ushiftRight_zero]
      · rw [if_neg e, hf j hj]
        by_cases e2 : j < i
        · rw [if_pos e2, if_pos (by omega)]
        · rw [if_neg e2, if_neg (by omega)]
    · refine Ev.in hn ?_
      obtain ⟨m, rfl⟩ := Int.eq_ofNat_of_zero_le (show 0 ≤ n by omega)
      by_cases hm : m ≤ i
      · refine Ev.ip (by omega) ?_
        have e2 : wrap64 ((i : Int) - (m : Int)) = ((i - m : Nat) : Int) := by rw [w64 (by omega) (by omega)]; omega
        rw [e2]
        refine Ev.ip (by omega) ?_
        refine Ev.ip (by rw [bl_len]; omega) ?_
        refine Ev.ip (by omega) ?_
        refine Ev.ip (by rw [tab_len]; omega) ?_
        have r1 : rd (bl fun i => x.getLsbD i) ((i - m : Nat) : Int) = b2i (x.getLsbD (127 - (i - m))) := rd_tab _ (i - m) (by omega)
        rw [e3, r1, Int.toNat_natCast, Int.toNat_natCast, tab_set]
        refine ih (i + 1) _ (by omega) (fun j hj => ?_)
        by_cases e : j = i
        · subst e
          rw [if_pos rfl, if_pos (by omega), Int.toNat_natCast, BitVec.getLsbD_ushiftRight]
          congr 2; omega
        · rw [if_neg e, hf j hj]
          by_cases e2 : j < i
          · rw [if_pos e2, if_pos (by omega)]
          · rw [if_neg e2, if_neg (by omega)]
      · refine Ev.in (by omega) ?_
        rw [e3]
        refine ih (i + 1) f (by omega) (fun j hj => ?_)
        rw [hf j hj]
        by_cases e2 : j < i
        · rw [if_pos e2, if_pos (by omega)]
        · rw [if_neg e2]
          by_cases e4 : j < i + 1
          · rw [if_pos e4, Int.toNat_natCast, BitVec.getLsbD_ushiftRight, BitVec.getLsbD_of_ge _ _ (by omega)]; rfl
          · rw [if_neg e4]
theorem rright_ev (x : W) (n : Int) (h0 : -9223372036854775808 ≤ n) (h1 : n ≤ 9223372036854775807) : Ev (fun k => turnoutref01_Right.f k (hi x) (lo x) n) (hi (x >>> n.toNat), lo (x >>> n.toNat)) := by
  unfold turnoutref01_Right.f
  refine Ev.bind (bits_ev x) ?_
  refine Ev.ip (by omega) ?_
  rw [tab_zero]
  exact rright_l x n h0 h1 128 0 _ (by omega) (fun j hj => by rw [if_neg (by omega)])

/-! ### Mask, Cut -/
theorem mask_bit (n : Int) (i : Nat) (h : i < 128) : (mask n).getLsbD i = decide ((i : Int) < n) := by
  unfold mask
  rw [BitVec.getLsbD_ushiftRight, BitVec.getLsbD_allOnes, decide_eq_decide]
  omega
theorem rmask_l (n : Int) (d : Nat) : ∀ (i : Nat) (f : Nat → Int), i + d = 128 → (∀ j, j < 128 → f j = if 127 < j + i then b2i ((mask n).getLsbD (127 - j)) else 0) →
    Ev (fun k => turnoutref01_Mask.l0 k n (tab f) (i : Int)) (hi (mask n), lo (mask n)) := by
  induction d with
  | zero =>
    intro i f h hf
    obtain rfl : i = 128 := by omega
    have e : tab f = bl fun i => (mask n).getLsbD i := tab_congr fun j hj => by rw [hf j hj, if_pos (by omega)]
    rw [e]
    refine Ev.step (f := _) (fun k => by rw [turnoutref01_Mask.l0]) ?_
    refine Ev.in (by omega) ?_
    have := word_ev fun i => (mask n).getLsbD i
    rw [wf_of] at this
    exact Ev.bind this (Ev.now _)
  | succ d ih =>
    intro i f h hf
    have e1 : wrap64 (127 - (i : Int)) = ((127 - i : Nat) : Int) := by rw [w64 (by omega) (by omega)]; omega
    have e3 : wrap64 ((i : Int) + 1) = ((i + 1 : Nat) : Int) := by rw [w64 (by omega) (by omega)]; omega
    refine Ev.step (f := _) (fun k => by rw [turnoutref01_Mask.l0]) ?_
    refine Ev.ip (by omega) ?_
    rw [e1, e3]
    by_cases hn : (i : Int) < n
    · refine Ev.ip hn ?_
      refine Ev.ip (by omega) ?_
      refine Ev.ip (by rw [tab_len]; omega) ?_
      rw [Int.toNat_natCast, tab_set]
      refine ih (i + 1) _ (by omega) (fun j hj => ?_)
      by_cases e : j = 127 - i
      · rw [if_pos e, if_pos (by omega), mask_bit _ _ (by omega), show 127 - j = i by omega, decide_eq_true hn]; rfl
      · rw [if_neg e, hf j hj]
        by_cases e2 : 127 < j + i
        · rw [if_pos e2, if_pos (by omega)]
        · rw [if_neg e2, if_neg (by omega)]
    · refine Ev.in hn ?_
      refine ih (i + 1) f (by omega) (fun j hj => ?_)
      rw [hf j hj]
      by_cases e2 : 127 < j + i
      · rw [if_pos e2, if_pos (by omega)]
      · rw [if_neg e2]
        by_cases e4 : 127 < j + (i + 1)
        · rw [if_pos e4, mask_bit _ _ (by omega), show 127 - j = i by omega, decide_eq_false hn]; rfl
        · rw [if_neg e4]
theorem rmask_ev (n : Int) : Ev (fun k => turnoutref01_Mask.f k n) (hi (mask n), lo (mask n)) := by
  unfold turnoutref01_Mask.f
  refine Ev.ip (by omega) ?_
  rw [tab_zero]
  exact rmask_l n 128 0 _ (by omega) (fun j hj => by rw [if_neg (by omega)])
theorem rcut_ev (x : W) (n : Int) : Ev (fun k => turnoutref01_Cut.f k (hi x) (lo x) n) (hi (x &&& mask n), lo (x &&& mask n)) := by
  unfold turnoutref01_Cut.f
  refine Ev.bind (rmask_ev n) ?_
  exact Ev.bind (rand_ev x (mask n)) (Ev.now _)

/-! ### Size, Compare -/
theorem rsize_l (x : W) (d : Nat) : ∀ (i : Nat), i + d = 128 → (∀ j, j < i → x.getLsbD (127 - j) = false) →
    Ev (fun k => turnoutref01_Size.l0 k (bl fun i => x.getLsbD i) (i : Int)) (len x.toNat : Nat) := by
  induction d with
  | zero =>
    intro i h hf
    have : x.toNat < 2 ^ 0 := Nat.lt_pow_two_of_testBit _ (fun j hj => by
      by_cases hj2 : j < 128
      · have := hf (127 - j) (by omega)
        rw [show 127 - (127 - j) = j by omega] at this
        exact this
      · exact Nat.testBit_lt_two_pow (Nat.lt_of_lt_of_le x.isLt (Nat.pow_le_pow_right (by omega) (by omega))))
    have hl := (len_le x.toNat 0).2 this
    refine Ev.step (f := _) (fun k => by rw [turnoutref01_Size.l0]) ?_
    have e : ((len x.toNat : Nat) : Int) = 0 := by omega
    rw [e]
    exact Ev.in (by omega) (Ev.now _)
  | succ d ih =>
    intro i h hf
    refine Ev.step (f := _) (fun k => by rw [turnoutref01_Size.l0]) ?_
    refine Ev.ip (by omega) ?_
    refine Ev.ip (by omega) ?_
    refine Ev.ip (by rw [bl_len]; omega) ?_
    have r1 : rd (bl fun i => x.getLsbD i) (i : Int) = b2i (x.getLsbD (127 - i)) := rd_tab _ i (by omega)
    have e3 : wrap64 ((i : Int) + 1) = ((i + 1 : Nat) : Int) := by rw [w64 (by omega) (by omega)]; omega
    rw [r1, e3]
    by_cases hb : x.getLsbD (127 - i) = true
    · refine Ev.ip (by rw [hb]; rfl) ?_
      have h1 : x.toNat < 2 ^ (128 - i) := Nat.lt_pow_two_of_testBit _ (fun j hj => by
        by_cases hj2 : j < 128
        · have := hf (127 - j) (by omega)
          rw [show 127 - (127 - j) = j by omega] at this
          exact this
        · exact Nat.testBit_lt_two_pow (Nat.lt_of_lt_of_le x.isLt (Nat.pow_le_pow_right (by omega) (by omega))))
      have h2 : ¬ x.toNat < 2 ^ (127 - i) := fun hlt => by
        have := Nat.testBit_lt_two_pow hlt
        rw [show x.toNat.testBit (127 - i) = x.getLsbD (127 - i) from rfl, hb] at this
        cases this
      have l1 := (len_le x.toNat (128 - i)).2 h1
      have l2 : ¬ len x.toNat ≤ 127 - i := fun h => h2 ((len_le x.toNat (127 - i)).1 h)
      have e : wrap64 (128 - (i : Int)) = ((len x.toNat : Nat) : Int) := by rw [w64 (by omega) (by omega)]; omega
      rw [e]
      exact Ev.now _
    · refine Ev.in (by rw [Bool.eq_false_iff.2 hb]; decide) ?_
      refine ih (i + 1) (by omega) (fun j hj => ?_)
      by_cases e : j = i
      · subst e; exact Bool.eq_false_iff.2 hb
      · exact hf j (by omega)
theorem rsize_ev (x : W) : Ev (fun k => turnoutref01_Size.f k (hi x) (lo x)) (len x.toNat : Nat) := by
  unfold turnoutref01_Size.f
  refine Ev.bind (bits_ev x) ?_
  exact rsize_l x 128 0 (by omega) (fun j hj => by omega)
def cmp (x y : W) : Int := if x.toNat = y.toNat then 0 else if x.toNat < y.toNat then -1 else 1
theorem lt_of_bit {x y : Nat} (p : Nat) (hx : x.testBit p = false) (hy : y.testBit p = true) (h : ∀ j, p < j → x.testBit j = y.testBit j) : x < y := by
  have e : x / 2 ^ (p + 1) = y / 2 ^ (p + 1) := by
    apply Nat.eq_of_testBit_eq
    intro j
    rw [← Nat.shiftRight_eq_div_pow, ← Nat.shiftRight_eq_div_pow, Nat.testBit_shiftRight, Nat.testBit_shiftRight]
    exact h _ (by omega)
  rw [Nat.testBit_eq_decide_div_mod_eq, decide_eq_false_iff_not] at hx
  rw [Nat.testBit_eq_decide_div_mod_eq, decide_eq_true_eq] at hy
  rw [Nat.pow_succ, ← Nat.div_div_eq_div_mul, ← Nat.div_div_eq_div_mul] at e
  exact Nat.lt_of_div_lt_div (c := 2 ^ p) (by omega)
theorem cmp_lt (x y : W) (i : Nat) (hi : i < 128) (h : ∀ j, j < i → x.getLsbD (127 - j) = y.getLsbD (127 - j)) (hx : x.getLsbD (127 - i) = false) (hy : y.getLsbD (127 - i) = true) : x.toNat < y.toNat := by
  refine lt_of_bit (127 - i) hx hy (fun j hj => ?_)
  by_cases hj2 : j < 128
  · have := h (127 - j) (by omega)
    rw [show 127 - (127 - j) = j by omega] at this
    exact this
  · rw [Nat.testBit_lt_two_pow (Nat.lt_of_lt_of_le x.isLt (Nat.pow_le_pow_right (by omega) (by omega))), Nat.testBit_lt_two_pow (Nat.lt_of_lt_of_le y.isLt (Nat.pow_le_pow_right (by omega) (by omega)))]
theorem rcmp_l (x y : W) (d : Nat) : ∀ (i : Nat), i + d = 128 → (∀ j, j < i → x.getLsbD (127 - j) = y.getLsbD (127 - j)) →
    Ev (fun k => turnoutref01_Compare.l0 k (bl fun i => x.getLsbD i) (bl fun i => y.getLsbD i) (i : Int)) (cmp x y) := by
  induction d with
  | zero =>
    intro i h hf
    have e : x = y := BitVec.eq_of_getLsbD_eq (fun j hj => by
      have := hf (127 - j) (by omega)
      rwa [show 127 - (127 - j) = j by omega] at this)
    subst e
    refine Ev.step (f := _) (fun k => by rw [turnoutref01_Compare.l0]) ?_
    have e : cmp x x = 0 := by unfold cmp; rw [if_pos rfl]
    rw [e]
    exact Ev.in (by omega) (Ev.now _)
  | succ d ih =>
    intro i h hf
    refine Ev.step (f := _) (fun k => by rw [turnoutref01_Compare.l0]) ?_
    refine Ev.ip (by omega) ?_
    refine Ev.ip (by omega) ?_
    refine Ev.ip (by rw [bl_len]; omega) ?_
    refine Ev.ip (by rw [bl_len]; omega) ?_
    have r1 : rd (bl fun i => x.getLsbD i) (i : Int) = b2i (x.getLsbD (127 - i)) := rd_tab _ i (by omega)
    have r2 : rd (bl fun i => y.getLsbD i) (i : Int) = b2i (y.getLsbD (127 - i)) := rd_tab _ i (by omega)
    have e3 : wrap64 ((i : Int) + 1) = ((i + 1 : Nat) : Int) := by rw [w64 (by omega) (by omega)]; omega
    rw [r1, r2, e3]
    cases hx : x.getLsbD (127 - i) <;> cases hy : y.getLsbD (127 - i)
    · refine Ev.in (by decide) (Ev.in (by decide) ?_)
      refine ih (i + 1) (by omega) (fun j hj => ?_)
      by_cases e : j = i
      · subst e; rw [hx, hy]
      · exact hf j (by omega)
    · have := cmp_lt x y i (by omega) hf hx hy
      have e : cmp x y = -1 := by unfold cmp; rw [if_neg (by omega), if_pos this]
      rw [e]
      exact Ev.ip (by decide) (Ev.now _)
    · have := cmp_lt y x i (by omega) (fun j hj => (hf j hj).symm) hy hx
      have e : cmp x y = 1 := by unfold cmp; rw [if_neg (by omega), if_neg (by omega)]
      rw [e]
      exact Ev.in (by decide) (Ev.ip (by decide) (Ev.now _))
    · refine Ev.in (by decide) (Ev.in (by decide) ?_)
      refine ih (i + 1) (by omega) (fun j hj => ?_)
      by_cases e : j = i
      · subst e; rw [hx, hy]
      · exact hf j (by omega)
theorem rcmp_ev (x y : W) : Ev (fun k => turnoutref01_Compare.f k (hi x) (lo x) (hi y) (lo y)) (cmp x y) := by
  unfold turnoutref01_Compare.f
  refine Ev.bind (bits_ev x) ?_
  refine Ev.bind (bits_ev y) ?_
  exact rcmp_l x y 128 0 (by omega) (fun j hj => by omega)
end Go.Proofs.Ytmplgmlfpfopbaa.MWordK
