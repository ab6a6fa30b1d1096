/- What the reference's functions of layer 1 come to. Plain lemmas. -/
import Derived.Test.YtmplgmlfpfopbaaMTab
import Derived.Test.YtmplgmlfpfopbaaMLen
set_option linter.unusedVariables false
set_option linter.unusedSimpArgs false
namespace Go.Proofs.Ytmplgmlfpfopbaa.MWord
open Go.RowKit Go.Proofs.Ytmplgmlfpfopbaa.PWord Go.Proofs.Ytmplgmlfpfopbaa.MBits Go.Proofs.Ytmplgmlfpfopbaa.MTab Go.Proofs.YtmplgmlfpfopbaaW.PrintWords Go.Proofs.YtmplgmlfpfopbaaW.PrintLast Go.Proofs.YtmplgmlfpfopbaaW.PrintMore

theorem bits_l0 (x : W) (d : Nat) : ∀ (i : Nat) (f : Nat → Int), i + d = 64 → (∀ j, j < 128 → (63 < j + i ∧ j ≤ 63 ∨ 127 < j + i) → f j = b2i (x.getLsbD (127 - j))) →
    Ev (fun k => turnoutref01_Bits.l0 k (tab f) (i : Int) (hi x) (lo x)) (bl fun i => x.getLsbD i) := by
  induction d with
  | zero =>
    intro i f h hf
    obtain rfl : i = 64 := by omega
    have e : tab f = bl fun i => x.getLsbD i := tab_congr fun j hj => hf j hj (by omega)
    rw [e]
    refine Ev.step (f := _) (fun k => by rw [turnoutref01_Bits.l0]) ?_
    exact Ev.in (by omega) (Ev.now _)
  | succ d ih =>
    intro i f h hf
    refine Ev.step (f := _) (fun k => by rw [turnoutref01_Bits.l0]) ?_
    have e1 : wrap64 (63 - (i : Int)) = ((63 - i : Nat) : Int) := by rw [w64 (by omega) (by omega)]; omega
    have e2 : wrap64 (127 - (i : Int)) = ((127 - i : Nat) : Int) := by rw [w64 (by omega) (by omega)]; omega
    have e3 : wrap64 ((i : Int) + 1) = ((i + 1 : Nat) : Int) := by rw [w64 (by omega) (by omega)]; omega
    have e4 : IntKind.u64.wrap (i : Int) = (i : Int) := u64w (by omega) (by omega)
    have hb := hi_b x
    have lb := lo_b x
    have s1 : Int.tmod (shr .u64 (hi x) (i : Int)) 2 % 256 = b2i (x.getLsbD (i + 64)) := by
      rw [← getLsb_hi x i (by omega)]
      unfold shr
      have : min (i : Int).toNat IntKind.u64.bits = i := by rw [Int.toNat_natCast]; exact Nat.min_eq_left (by show i ≤ 64; omega)
      rw [this, Int.tmod_eq_emod_of_nonneg (Int.ediv_nonneg hb.1 (Int.pow_nonneg (by decide)))]
      omega
    have s2 : Int.tmod (shr .u64 (lo x) (i : Int)) 2 % 256 = b2i (x.getLsbD i) := by
      rw [← getLsb_lo x i (by omega)]
      unfold shr
      have : min (i : Int).toNat IntKind.u64.bits = i := by rw [Int.toNat_natCast]; exact Nat.min_eq_left (by show i ≤ 64; omega)
      rw [this, Int.tmod_eq_emod_of_nonneg (Int.ediv_nonneg lb.1 (Int.pow_nonneg (by decide)))]
      omega
    rw [e1, e2, e3, e4, s1, s2, tab_len, Int.toNat_natCast, Int.toNat_natCast, tab_set, tab_set]
    refine Ev.ip (by omega) ?_
    refine Ev.ip (by omega) ?_
    refine Ev.ip (by omega) ?_
    refine Ev.ip (by omega) ?_
    refine Ev.ip (by omega) ?_
    refine Ev.ip (by omega) ?_
    refine ih (i + 1) _ (by omega) fun j hj hd => ?_
    by_cases h1 : j = 127 - i
    · rw [if_pos h1, h1]
      congr 2; omega
    · rw [if_neg h1]
      by_cases h2 : j = 63 - i
      · rw [if_pos h2, h2]
        congr 2; omega
      · rw [if_neg h2]
        exact hf j hj (by omega)
theorem bits_ev (x : W) : Ev (fun k => turnoutref01_Bits.f k (hi x) (lo x)) (bl fun i => x.getLsbD i) := by
  unfold turnoutref01_Bits.f
  refine Ev.ip (by omega) ?_
  rw [tab_zero]
  exact bits_l0 x 64 0 _ (by omega) fun j hj h => by omega

theorem word_l0 (l : List Bool) (hl : l.length ≤ 4611686018427387904) (d : Nat) : ∀ (i : Nat) (w : W), i + d = l.length → w = wl (l.take i) →
    Ev (fun k => turnoutref01_Word.l0 k (l.map b2i) (i : Int) (hi w) (lo w)) (hi (wl l), lo (wl l)) := by
  induction d with
  | zero =>
    intro i w h hw
    rw [List.take_of_length_le (by omega)] at hw
    subst hw
    refine Ev.step (f := _) (fun k => by rw [turnoutref01_Word.l0]) ?_
    exact Ev.in (by rw [List.length_map]; omega) (Ev.now _)
  | succ d ih =>
    intro i w h hw
    refine Ev.step (f := _) (fun k => by rw [turnoutref01_Word.l0]) ?_
    have hi' : i < l.length := by omega
    refine Ev.ip (by rw [List.length_map]; omega) ?_
    refine Ev.ip (by omega) ?_
    have e3 : wrap64 ((i : Int) + 1) = ((i + 1 : Nat) : Int) := by rw [w64 (by omega) (by omega)]; omega
    have e4 : rd (l.map b2i) (i : Int) = b2i l[i] := by
      unfold rd; rw [List.getD_eq_getElem?_getD, Int.toNat_natCast, List.getElem?_map, List.getElem?_eq_getElem hi']; rfl
    have hb := hi_b w
    have lb := lo_b w
    have rb := b2i_range l[i]
    have e5 : IntKind.u64.wrap ((IntKind.u64.wrap (hi w * 2)) + (IntKind.u64.wrap (Int.tdiv (lo w) 9223372036854775808))) = hi ((w <<< 1) ||| (if l[i] then 1#128 else 0#128)) := by
      rw [step_hi, Int.tdiv_eq_ediv_of_nonneg lb.1, IntKind.wrap_u64, IntKind.wrap_u64, u64w (n := lo w / 9223372036854775808) (by omega) (by omega)]
    have e6 : IntKind.u64.wrap ((IntKind.u64.wrap (lo w * 2)) + (IntKind.u64.wrap (b2i l[i]))) = lo ((w <<< 1) ||| (if l[i] then 1#128 else 0#128)) := by
      rw [step_lo, IntKind.wrap_u64, IntKind.wrap_u64, u64w (n := b2i l[i]) (by omega) (by omega)]
    rw [e3, e4, e5, e6]
    refine ih (i + 1) _ (by omega) ?_
    rw [List.take_succ_eq_append_getElem hi', wl_snoc, ← hw]
theorem word_ev (g : Nat → Bool) : Ev (fun k => turnoutref01_Word.f k (bl g)) (hi (wf g), lo (wf g)) := by
  unfold turnoutref01_Word.f
  have := word_l0 ((List.range 128).map fun j => g (127 - j)) (by simp) 128 0 0#128 (by simp) rfl
  rw [List.map_map, zero_hi, zero_lo] at this
  exact this

theorem radd_l0 (x y : W) (d : Nat) : ∀ (i : Int) (f : Nat → Int) (c : Int), i + 1 = d → d ≤ 128 → c = b2i (BitVec.carry (128 - d) x y false) → (∀ j, j < 128 → d ≤ j → f j = b2i ((x + y).getLsbD (127 - j))) →
    Ev (fun k => turnoutref01_Add.l0 k (bl fun i => x.getLsbD i) (bl fun i => y.getLsbD i) (tab f) c i) (hi (x + y), lo (x + y)) := by
  induction d with
  | zero =>
    intro i f c h hd hc hf
    have e : tab f = bl fun i => (x + y).getLsbD i := tab_congr fun j hj => hf j hj (by omega)
    rw [e]
    refine Ev.step (f := _) (fun k => by rw [turnoutref01_Add.l0]) ?_
    refine Ev.in (by omega) ?_
    have := word_ev fun i => (x + y).getLsbD i
    rw [wf_of] at this
    exact Ev.bind this (Ev.now _)
  | succ d ih =>
    intro i f c h hd hc hf
    obtain rfl : i = (d : Int) := by omega
    refine Ev.step (f := _) (fun k => by rw [turnoutref01_Add.l0]) ?_
    have e1 : wrap64 ((d : Int) - 1) = (d : Int) - 1 := w64 (by omega) (by omega)
    have l1 : ∀ g, (bl g).length = 128 := fun g => tab_len _
    have r1 : ∀ g, rd (bl g) (d : Int) = b2i (g (127 - d)) := fun g => rd_tab _ d (by omega)
    rw [l1, l1, tab_len, r1, r1, e1, Int.toNat_natCast]
    have b1 := b2i_range (x.getLsbD (127 - d)); have b2 := b2i_range (y.getLsbD (127 - d)); have b3 := b2i_range (BitVec.carry (128 - (d + 1)) x y false)
    refine Ev.ip (by omega) ?_
    refine Ev.ip (by omega) ?_
    refine Ev.ip (by omega) ?_
    refine Ev.ip (by omega) ?_
    refine Ev.pb rfl ?_
    rw [tab_set]
    refine Ev.ip (by omega) ?_
    have e2 : 128 - (d + 1) = 127 - d := by omega
    rw [e2] at hc b3
    have hs := BitVec.getLsbD_add (i := 127 - d) (by omega) x y
    have hcar := BitVec.carry_succ (127 - d) x y false
    have e3 : 127 - d + 1 = 128 - d := by omega
    rw [e3] at hcar
    refine ih ((d : Int) - 1) _ _ (by omega) (by omega) ?_ fun j hj hd' => ?_
    · rw [hcar, hc]
      cases x.getLsbD (127 - d) <;> cases y.getLsbD (127 - d) <;> cases BitVec.carry (127 - d) x y false <;> decide
    · by_cases ej : j = d
      · subst ej
        rw [if_pos rfl, hs, hc]
        cases x.getLsbD (127 - j) <;> cases y.getLsbD (127 - j) <;> cases BitVec.carry (127 - j) x y false <;> decide
      · rw [if_neg ej]; exact hf j hj (by omega)
theorem radd_ev (x y : W) : Ev (fun k => turnoutref01_Add.f k (hi x) (lo x) (hi y) (lo y)) (hi (x + y), lo (x + y)) := by
  unfold turnoutref01_Add.f
  refine Ev.bind (bits_ev x) ?_
  refine Ev.bind (bits_ev y) ?_
  refine Ev.ip (by omega) ?_
  rw [tab_zero]
  exact radd_l0 x y 128 127 _ 0 (by omega) (by omega) (by rw [Nat.sub_self, BitVec.carry_zero]; rfl) fun j hj h => by omega

theorem rsub_l0 (x y : W) (d : Nat) : ∀ (i : Int) (f : Nat → Int) (c : Int), i + 1 = d → d ≤ 128 → c = 1 - b2i (BitVec.carry (128 - d) x (~~~y) true) → (∀ j, j < 128 → d ≤ j → f j = b2i ((x - y).getLsbD (127 - j))) →
    Ev (fun k => turnoutref01_Sub.l0 k (bl fun i => x.getLsbD i) (bl fun i => y.getLsbD i) (tab f) c i) (hi (x - y), lo (x - y)) := by
  induction d with
  | zero =>
    intro i f c h hd hc hf
    have e : tab f = bl fun i => (x - y).getLsbD i := tab_congr fun j hj => hf j hj (by omega)
    rw [e]
    refine Ev.step (f := _) (fun k => by rw [turnoutref01_Sub.l0]) ?_
    refine Ev.in (by omega) ?_
    have := word_ev fun i => (x - y).getLsbD i
    rw [wf_of] at this
    exact Ev.bind this (Ev.now _)
  | succ d ih =>
    intro i f c h hd hc hf
    obtain rfl : i = (d : Int) := by omega
    refine Ev.step (f := _) (fun k => by rw [turnoutref01_Sub.l0]) ?_
    have e1 : wrap64 ((d : Int) - 1) = (d : Int) - 1 := w64 (by omega) (by omega)
    have l1 : ∀ g, (bl g).length = 128 := fun g => tab_len _
    have r1 : ∀ g, rd (bl g) (d : Int) = b2i (g (127 - d)) := fun g => rd_tab _ d (by omega)
    rw [l1, l1, tab_len, r1, r1, e1, Int.toNat_natCast]
    have b1 := b2i_range (x.getLsbD (127 - d)); have b2 := b2i_range (y.getLsbD (127 - d)); have b3 := b2i_range (BitVec.carry (128 - (d + 1)) x (~~~y) true)
    refine Ev.ip (by omega) ?_
    refine Ev.ip (by omega) ?_
    refine Ev.ip (by omega) ?_
    refine Ev.ip (by omega) ?_
    refine Ev.pb rfl ?_
    rw [tab_set]
    refine Ev.ip (by omega) ?_
    have e2 : 128 - (d + 1) = 127 - d := by omega
    rw [e2] at hc b3
    have hs := BitVec.getLsbD_add_add_bool (i := 127 - d) (by omega) x (~~~y) true
    have esub : x + ~~~y + BitVec.setWidth 128 (BitVec.ofBool true) = x - y := by
      rw [BitVec.sub_eq_add_neg, BitVec.neg_eq_not_add, BitVec.add_assoc]; rfl
    rw [esub] at hs
    have hcar := BitVec.carry_succ (127 - d) x (~~~y) true
    have e3 : 127 - d + 1 = 128 - d := by omega
    rw [e3] at hcar
    have hn : (~~~y).getLsbD (127 - d) = !y.getLsbD (127 - d) := by rw [BitVec.getLsbD_not]; simp; omega
    rw [hn] at hs hcar
    refine ih ((d : Int) - 1) _ _ (by omega) (by omega) ?_ fun j hj hd' => ?_
    · rw [hcar, hc]
      cases x.getLsbD (127 - d) <;> cases y.getLsbD (127 - d) <;> cases BitVec.carry (127 - d) x (~~~y) true <;> decide
    · by_cases ej : j = d
      · subst ej
        rw [if_pos rfl, hs, hc]
        cases x.getLsbD (127 - j) <;> cases y.getLsbD (127 - j) <;> cases BitVec.carry (127 - j) x (~~~y) true <;> decide
      · rw [if_neg ej]; exact hf j hj (by omega)
theorem rsub_ev (x y : W) : Ev (fun k => turnoutref01_Sub.f k (hi x) (lo x) (hi y) (lo y)) (hi (x - y), lo (x - y)) := by
  unfold turnoutref01_Sub.f
  refine Ev.bind (bits_ev x) ?_
  refine Ev.bind (bits_ev y) ?_
  refine Ev.ip (by omega) ?_
  rw [tab_zero]
  exact rsub_l0 x y 128 127 _ 0 (by omega) (by omega) (by rw [Nat.sub_self, BitVec.carry_zero]; rfl) fun j hj h => by omega
end Go.Proofs.Ytmplgmlfpfopbaa.MWord
