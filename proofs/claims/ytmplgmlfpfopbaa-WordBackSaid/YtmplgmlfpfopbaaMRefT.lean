/- What the reference's functions of layer 1 come to. Plain lemmas. -/
import Derived.Test.YtmplgmlfpfopbaaMTab
import Derived.Test.YtmplgmlfpfopbaaMLenT
import Derived.Test.YtmplgmlfpfopbaaPWordTx5
set_option linter.unusedVariables false
set_option linter.unusedSimpArgs false
namespace Go.Proofs.Ytmplgmlfpfopbaa.MWordT
open Go.RowKit Go.Proofs.Ytmplgmlfpfopbaa.PWordT Go.Proofs.Ytmplgmlfpfopbaa.MBits Go.Proofs.Ytmplgmlfpfopbaa.MTab Go.Proofs.YtmplgmlfpfopbaaW.PrintWords Go.Proofs.YtmplgmlfpfopbaaW.PrintLast Go.Proofs.YtmplgmlfpfopbaaW.PrintMore

theorem bits_l0 (x : W) (d : Nat) : ∀ (i : Nat) (f : Nat → Int), i + d = 64 → (∀ j, j < 128 → (63 < j + i ∧ j ≤ 63 ∨ 127 < j + i) → f j = b2i (x.getLsbD (127 - j))) →
    Ev (fun k => turnoutref01_Bits.l0 k (tab f) (i : Int) (hi x) (lo x)) (bl fun i => x.getLsbD i) := by
  induction d with
  | zero =>
    intro i f h hf
    obtain rfl : i = 64 := by omega
    have e : tab f = bl fun i => x.getLsbD i := tab_congr fun j hj => hf j hj (by omega)
    rw [e]
    refine Ev.step (f := _) (fun k => by rw [turnoutref01_Bits.l0]) ?_
    exact Ev.in (by omega) (Ev.now _)
  | succ d ih =>
    intro i f h hf
    refine Ev.step (f := _) (fun k => by rw [turnoutref01_Bits.l0]) ?_
    have e1 : wrap64 (63 - (i : Int)) = ((63 - i : Nat) : Int) := by rw [w64 (by omega) (by omega)]; omega
    have e2 : wrap64 (127 - (i : Int)) = ((127 - i : Nat) : Int) := by rw [w64 (by omega) (by omega)]; omega
    have e3 : wrap64 ((i : Int) + 1) = ((i + 1 : Nat) : Int) := by rw [w64 (by omega) (by omega)]; omega
    have e4 : IntKind.u64.wrap (i : Int) = (i : Int) := u64w (by omega) (by omega)
    have hb := hi_b x
    have lb := lo_b x
    have s1 : Int.tmod (shr .u64 (hi x) (i : Int)) 2 % 256 = b2i (x.getLsbD (i + 64)) := by
      rw [← getLsb_hi x i (by omega)]
      unfold shr
      have : min (i : Int).toNat IntKind.u64.bits = i := by rw [Int.toNat_natCast]; exact Nat.min_eq_left (by show i ≤ 64; omega)
      rw [this, Int.tmod_eq_emod_of_nonneg (Int.ediv_nonneg hb.1 (Int.pow_nonneg (by decide)))]
      omega
    have s2 : Int.tmod (shr .u64 (lo x) (i : Int)) 2 % 256 = b2i (x.getLsbD i) := by
      rw [← getLsb_lo x i (by omega)]
      unfold shr
      have : min (i : Int).toNat IntKind.u64.bits = i := by rw [Int.toNat_natCast]; exact Nat.min_eq_left (by show i ≤ 64; omega)
      rw [this, Int.tmod_eq_emod_of_nonneg (Int.ediv_nonneg lb.1 (Int.pow_nonneg (by decide)))]
      omega
    rw [e1, e2, e3, e4, s1, s2, tab_len, Int.toNat_natCast, Int.toNat_natCast, tab_set, tab_set]
    refine Ev.ip (by omega) ?_
    refine Ev.ip (by omega) ?_
    refine Ev.ip (by omega) ?_
    refine Ev.ip (by omega) ?_
    refine Ev.ip (by omega) ?_
    refine Ev.ip (by omega) ?_
    refine ih (i + 1) _ (by omega) fun j hj hd => ?_
    by_cases h1 : j = 127 - i
    · rw [if_pos h1, h1]
      congr 2; omega
    · rw [if_neg h1]
      by_cases h2 : j = 63 - i
      · rw [if_pos h2, h2]
        congr 2; omega
      · rw [if_neg h2]
        exact hf j hj (by omega)
theorem bits_ev (x : W) : Ev (fun k => turnoutref01_Bits.f k (hi x) (lo x)) (bl fun i => x.getLsbD i) := by
  unfold turnoutref01_Bits.f
  refine Ev.ip (by omega) ?_
  rw [tab_zero]
  exact bits_l0 x 64 0 _ (by omega) fun j hj h => by omega

theorem word_l0 (l : List Bool) (hl : l.length ≤ 4611686018427387904) (d : Nat) : ∀ (i : Nat) (w : W), i + d = l.length → w = wl (l.take i) →
    Ev (fun k => turnoutref01_Word.l0 k (l.map b2i) (i : Int) (hi w) (lo w)) (hi (wl l), lo (wl l)) := by
  induction d with
  | zero =>
    intro i w h hw
    rw [List.take_of_length_le (by omega)] at hw
    subst hw
    refine Ev.step (f := _) (fun k => by rw [turnoutref01_Word.l0]) ?_
    exact Ev.in (by rw [List.length_map]; omega) (Ev.now _)
  | succ d ih =>
    intro i w h hw
    refine Ev.step (f := _) (fun k => by rw [turnoutref01_Word.l0]) ?_
    have hi' : i < l.length := by omega
    refine Ev.ip (by rw [List.length_map]; omega) ?_
    refine Ev.ip (by omega) ?_
    have e3 : wrap64 ((i : Int) + 1) = ((i + 1 : Nat) : Int) := by rw [w64 (by omega) (by omega)]; omega
    have e4 : rd (l.map b2i) (i : Int) = b2i l[i] := by
      unfold rd; rw [List.getD_eq_getElem?_getD, Int.toNat_natCast, List.getElem?_map, List.getElem?_eq_getElem hi']; rfl
    have hb := hi_b w
    have lb := lo_b w
    have rb := b2i_range l[i]
    have e5 : IntKind.u64.wrap ((IntKind.u64.wrap (hi w * 2)) + (IntKind.u64.wrap (Int.tdiv (lo w) 9223372036854775808))) = hi ((w <<< 1) ||| (if l[i] then 1#128 else 0#128)) := by
      rw [step_hi, Int.tdiv_eq_ediv_of_nonneg lb.1, IntKind.wrap_u64, IntKind.wrap_u64, u64w (n := lo w / 9223372036854775808) (by omega) (by omega)]
    have e6 : IntKind.u64.wrap ((IntKind.u64.wrap (lo w * 2)) + (IntKind.u64.wrap (b2i l[i]))) = lo ((w <<< 1) ||| (if l[i] then 1#128 else 0#128)) := by
      rw [step_lo, IntKind.wrap_u64, IntKind.wrap_u64, u64w (n := b2i l[i]) (by omega) (by omega)]
    rw [e3, e4, e5, e6]
    refine ih (i + 1) _ (by omega) ?_
    rw [List.take_succ_eq_append_getElem hi', wl_snoc, ← hw]
theorem word_ev (g : Nat → Bool) : Ev (fun k => turnoutref01_Word.f k (bl g)) (hi (wf g), lo (wf g)) := by
  unfold turnoutref01_Word.f
  have := word_l0 ((List.range 128).map fun j => g (127 - j)) (by simp) 128 0 0#128 (by simp) rfl
  rw [List.map_map, zero_hi, zero_lo] at this
  exact this

end Go.Proofs.Ytmplgmlfpfopbaa.MWordT
