-- Written by wip/turnprint.py, a program of this session (the kit's print, turned).
import Derived.Test.YtgpahhobifdapaaPFieldx0
import Derived.Test.YtgpahhobifdapaaPFieldx4
import Derived.Test.YtgpahhobifdapaaPFieldx5
import Derived.Test.YtgpahhobifdapaaPFieldx8
import Derived.Test.YtgpahhobifdapaaPFieldx9
namespace Go.Proofs.Ytgpahhobifdapaa.PField
open Go.RowKit Go.Proofs.YtgpahhobifdapaaW.PrintWords Go.Proofs.YtgpahhobifdapaaW.PrintLast Go.Proofs.YtgpahhobifdapaaW.PrintMore
attribute [local go_sem] max2_int min2_int max_two min_two max_three min_three max_four min_four   -- for this text's walks alone
set_option linter.unusedVariables false
set_option linter.unusedSimpArgs false

attribute [local go_sem high] xorA_u8 xorA_u16 xorA_u32 xorA_u64
/-! ### turnoutlaw02_FieldTells: function 8 -/
def turnoutlaw02_FieldTells.j0 : Nat → ByteArray → ByteArray → Int → Int → Bool → Int → Int → Int → Int → Option (Bool)
  | 0, _, _, _, _, _, _, _, _, _ => none
  | k + 1, x0, x1, x2, x3, x28, x274000, x274001, x275000, x275001 => if x28 = true then ((turnoutlaw02_awake.f k).bind fun t275 => (some t275)) else ((field_Text.f x274000 x274001 x3).bind fun bt276 => ((turnoutref02_Text.f k x274000 x274001 x3).bind fun bt278 => ((field_Match.f k x0 x2 x3 x274000 x274001 x275000 x275001).bind fun bt280 => ((turnoutref02_Match.f k x0 x2 x3 x274000 x274001 x275000 x275001).bind fun bt282 => (if bt276.1.toList = bt278.1.toList then (if bt276.2 = bt278.2 then (if (bt280.1 == bt282.1) = true then (if bt280.2 = bt282.2 then ((field_Bytes.f x3).bind fun t284 => ((turnoutref02_Bytes.f x3).bind fun t285 => (if t284 = t285 then ((field_Prefix.f k x0 x1).bind fun t286 => ((turnoutref02_Prefix.f k x0 x1).bind fun t287 => (if t286 = t287 then ((turnoutlaw02_awake.f k).bind fun t288 => (some t288)) else (some false)))) else (some false)))) else (some false)) else (some false)) else (some false)) else (some false))))))
def turnoutlaw02_FieldTells.f (k : Nat) (a0 : ByteArray) (a1 : ByteArray) (a2 : Int) (a3 : Int) (a4_0 : Int) (a4_1 : Int) (a5_0 : Int) (a5_1 : Int) : Option (Bool) := if (a0.size : Int) > 3000 then (turnoutlaw02_FieldTells.j0 k a0 a1 a2 a3 true a4_0 a4_1 a5_0 a5_1) else (turnoutlaw02_FieldTells.j0 k a0 a1 a2 a3 (decide ((a1.size : Int) > 3000)) a4_0 a4_1 a5_0 a5_1)
theorem turnoutlaw02_FieldTells.mono_l : ∀ k, (∀ y0 y1 y2 y3 y4 y5 y6 y7 y8, LeO (turnoutlaw02_FieldTells.j0 k y0 y1 y2 y3 y4 y5 y6 y7 y8) (turnoutlaw02_FieldTells.j0 (k + 1) y0 y1 y2 y3 y4 y5 y6 y7 y8))
  | 0 => fun _ _ _ _ _ _ _ _ _ r h => by simp [turnoutlaw02_FieldTells.j0] at h
  | k + 1 => by
   have ih0 := turnoutlaw02_FieldTells.mono_l k
   ·
    intro y0 y1 y2 y3 y4 y5 y6 y7 y8
    unfold turnoutlaw02_FieldTells.j0
    repeat' first
    | (with_reducible exact ih0 _ _ _ _ _ _ _ _ _)
    | (with_reducible exact field_Match.mono _ _ _ _ _ _ _ _)
    | (with_reducible exact field_Prefix.mono _ _ _)
    | (with_reducible exact turnoutlaw02_awake.mono _)
    | (with_reducible exact turnoutref02_Match.mono _ _ _ _ _ _ _ _)
    | (with_reducible exact turnoutref02_Prefix.mono _ _ _)
    | (with_reducible exact turnoutref02_Text.mono _ _ _ _)
    | (with_reducible exact LeO.refl _)
    | (with_reducible exact LeO.none _)
    | (with_reducible refine LeO.ite ?_ ?_)
    | (with_reducible refine LeO.bind ?_ (fun _ => ?_))
    | exact ih0 _ _ _ _ _ _ _ _ _
    | exact field_Match.mono _ _ _ _ _ _ _ _
    | exact field_Prefix.mono _ _ _
    | exact turnoutlaw02_awake.mono _
    | exact turnoutref02_Match.mono _ _ _ _ _ _ _ _
    | exact turnoutref02_Prefix.mono _ _ _
    | exact turnoutref02_Text.mono _ _ _ _
    | exact LeO.none _
    | refine LeO.ite ?_ ?_
    | refine LeO.bind ?_ (fun _ => ?_)
theorem turnoutlaw02_FieldTells.mono : ∀ a0 a1 a2 a3 a4 a5 a6 a7 k, LeO (turnoutlaw02_FieldTells.f k a0 a1 a2 a3 a4 a5 a6 a7) (turnoutlaw02_FieldTells.f (k + 1) a0 a1 a2 a3 a4 a5 a6 a7) := by
  intro a0 a1 a2 a3 a4 a5 a6 a7 k
  have ih0 := turnoutlaw02_FieldTells.mono_l k
  unfold turnoutlaw02_FieldTells.f
  repeat' first
    | (with_reducible exact ih0 _ _ _ _ _ _ _ _ _)
    | (with_reducible exact field_Match.mono _ _ _ _ _ _ _ _)
    | (with_reducible exact field_Prefix.mono _ _ _)
    | (with_reducible exact turnoutlaw02_awake.mono _)
    | (with_reducible exact turnoutref02_Match.mono _ _ _ _ _ _ _ _)
    | (with_reducible exact turnoutref02_Prefix.mono _ _ _)
    | (with_reducible exact turnoutref02_Text.mono _ _ _ _)
    | (with_reducible exact LeO.refl _)
    | (with_reducible exact LeO.none _)
    | (with_reducible refine LeO.ite ?_ ?_)
    | (with_reducible refine LeO.bind ?_ (fun _ => ?_))
    | exact ih0 _ _ _ _ _ _ _ _ _
    | exact field_Match.mono _ _ _ _ _ _ _ _
    | exact field_Prefix.mono _ _ _
    | exact turnoutlaw02_awake.mono _
    | exact turnoutref02_Match.mono _ _ _ _ _ _ _ _
    | exact turnoutref02_Prefix.mono _ _ _
    | exact turnoutref02_Text.mono _ _ _ _
    | exact LeO.none _
    | refine LeO.ite ?_ ?_
    | refine LeO.bind ?_ (fun _ => ?_)
set_option maxHeartbeats 8000000 in
set_option maxRecDepth 100000 in
theorem turnoutlaw02_FieldTells.calls (k : Nat) (a0 : ByteArray) (a1 : ByteArray) (a2 : Int) (a3 : Int) (a4_0 : Int) (a4_1 : Int) (a5_0 : Int) (a5_1 : Int) (r : Bool) (w : World) (h : turnoutlaw02_FieldTells.f k a0 a1 a2 a3 a4_0 a4_1 a5_0 a5_1 = some r) (hr_ : Aside0 (r = true)) (HAW12 : Aside0 (∀ k r, turnoutlaw02_awake.f k = some r → r = true)) :
   Calls Try.prog 8 #[.string a0, .string a1, .int .i64 a2, .int .i64 a3, .agg #[.int .u64 a4_0, .int .u64 a4_1], .agg #[.int .u64 a5_0, .int .u64 a5_1]] w fun e w' => e = .returned (.bool r) ∧ Below w.heap.size w w' := by
  have hu25 := Try.underlying25
  have HB := Aside0.mk (Below.refl w.heap.size w)
  have H : (if (a0.size : Int) > 3000 then (turnoutlaw02_FieldTells.j0 k a0 a1 a2 a3 true a4_0 a4_1 a5_0 a5_1) else (turnoutlaw02_FieldTells.j0 k a0 a1 a2 a3 (decide ((a1.size : Int) > 3000)) a4_0 a4_1 a5_0 a5_1)) = some r := h
  clear h
  have HC7 := Aside0.mk H
  clear H
  go_enter Try.func8, Try.ntmps8
  go_upto_region 1 with (first | ((with_reducible refine gate_dst (N := 10) rfl ?_); (try (refine gate_guard (by rfl) ?_; dsimp only)); refine box_event ?hg (N := 10) ?hd (cs := #[.int .u64 a4_0, .int .u64 a4_1]) (t := 25) ?hr ?_; (case hd => rfl); (case hg => rfl); (case hr => first | (go_simp; done) | (go_simp; rfl)); intro gb273 hg w8 hbox hb; have BK273 := Aside0.mk (hbox); have GW273 := Aside0.mk ((by rw [hg]; exact (below_size (by repeat (first | (with_reducible first | exact HB.out | apply below_alloc | apply pw_below_drewN | apply below_drew1) | exact HB.out))) : w.heap.size ≤ gb273)); have GE273 := Aside0.mk ((by rw [hg]; exact (below_size (by repeat (first | (with_reducible first | exact HB.out | apply below_alloc | apply pw_below_drewN | apply below_drew1) | exact HB.out))) : w.heap.size ≤ gb273)); replace HB := Aside0.mk (below_step (by repeat (first | (with_reducible first | exact HB.out | apply below_alloc | apply pw_below_drewN | apply below_drew1) | exact HB.out)) hb); clear hb hbox hg) | ((with_reducible refine gate_dst (N := 11) rfl ?_); (try (refine gate_guard (by rfl) ?_; dsimp only)); refine box_event ?hg (N := 11) ?hd (cs := #[.int .u64 a5_0, .int .u64 a5_1]) (t := 25) ?hr ?_; (case hd => rfl); (case hg => rfl); (case hr => first | (go_simp; done) | (go_simp; rfl)); intro gb274 hg w9 hbox hb; have BK274 := Aside0.mk (hbox); have GW274 := Aside0.mk ((by rw [hg]; exact (below_size (by repeat (first | (with_reducible first | exact HB.out | apply below_alloc | apply pw_below_drewN | apply below_drew1 | refine below_set ?_ GE273.out) | exact HB.out))) : w.heap.size ≤ gb274)); have GE274 := Aside0.mk ((by rw [hg]; exact (below_size (by repeat (first | (with_reducible first | exact HB.out | apply below_alloc | apply pw_below_drewN | apply below_drew1 | refine below_set ?_ GE273.out) | exact HB.out))) : w.heap.size ≤ gb274)); replace HB := Aside0.mk (below_step (by repeat (first | (with_reducible first | exact HB.out | apply below_alloc | apply pw_below_drewN | apply below_drew1 | refine below_set ?_ GE273.out) | exact HB.out)) hb); have NB273_274 := Aside0.mk ((by rw [hg]; exact Nat.ne_of_lt (blk_lt (bkA BK273.out)) : gb273 ≠ gb274)); have NB274_273 := Aside0.mk ((by rw [hg]; exact Nat.ne_of_gt (blk_lt (bkA BK273.out)) : gb274 ≠ gb273)); replace BK273 := Aside0.mk (blk_below (bkA BK273.out) hb); clear hb hbox hg))
  (try simp only [Act.put, List.setIfInBounds_toArray, List.set_cons_zero, List.set_cons_succ])
  go_cut [28] (fun v28 wc => ∃ (kq : Nat) (x28_6 : Bool), v28 = .bool x28_6 ∧ Aside0 (turnoutlaw02_FieldTells.j0 kq a0 a1 a2 a3 x28_6 a4_0 a4_1 a5_0 a5_1 = some r) ∧ Aside0 (kq ≤ k) ∧ Aside0 (wc.heap[gb273]? = some (.cells #[.int .u64 a4_0, .int .u64 a4_1] 25 (0, 0))) ∧ Aside0 (wc.heap[gb274]? = some (.cells #[.int .u64 a5_0, .int .u64 a5_1] 25 (0, 0))) ∧ Aside0 (Below w.heap.size w wc))
  case first =>
   have H := HC7.out
   clear HC7
   by_cases c10 : (a0.size : Int) > 3000
   ·
    rw [if_pos c10] at H
    have c10b0 : decide (3000 < (a0.size : Int)) = true := decide_eq_true c10
    have c10b1 : decide (3000 < a0.size) = true := decide_eq_true (by omega)
    clear c10
    (first | rw [c10b0] | (simp only [i64_w, i32_w]; rw [c10b0]) | skip)
    have H' := Aside0.mk H
    clear H
    go_wp2
    go_meet
    case rel => exact ⟨_, (true), (by first | rfl | (simp; done) | (simp [*]; done)), H', ⟨by first | omega | exact Nat.le_refl _⟩, ⟨by (with_reducible repeat (first | refine blk_drewN ?_ _ | refine blk_drew ?_ | refine blk_alloc ?_ _)); exact BK273.out⟩, ⟨by (with_reducible repeat (first | refine blk_drewN ?_ _ | refine blk_drew ?_ | refine blk_alloc ?_ _)); exact BK274.out⟩, ⟨by repeat (first | (with_reducible first | exact HB.out | apply below_alloc | apply pw_below_drewN | apply below_drew1 | refine below_set ?_ GE273.out | refine below_set ?_ GE274.out) | exact HB.out)⟩⟩
   ·
    rw [if_neg c10] at H
    have c10b0 : decide (3000 < (a0.size : Int)) = false := decide_eq_false c10
    have c10b1 : decide (3000 < a0.size) = false := decide_eq_false (by omega)
    clear c10
    (first | rw [c10b0] | (simp only [i64_w, i32_w]; rw [c10b0]) | skip)
    have H' := Aside0.mk H
    clear H
    go_wp2
    go_meet
    case rel => exact ⟨_, (decide ((a1.size : Int) > 3000)), (by first | rfl | (simp; done) | (simp [*]; done)), H', ⟨by first | omega | exact Nat.le_refl _⟩, ⟨by (with_reducible repeat (first | refine blk_drewN ?_ _ | refine blk_drew ?_ | refine blk_alloc ?_ _)); exact BK273.out⟩, ⟨by (with_reducible repeat (first | refine blk_drewN ?_ _ | refine blk_drew ?_ | refine blk_alloc ?_ _)); exact BK274.out⟩, ⟨by repeat (first | (with_reducible first | exact HB.out | apply below_alloc | apply pw_below_drewN | apply below_drew1 | refine below_set ?_ GE273.out | refine below_set ?_ GE274.out) | exact HB.out)⟩⟩
  case rest =>
   clear HC7
   try clear c1
   try clear p2
   try clear c8
   try clear c10
   try clear c10b0
   try clear c10b1
   obtain ⟨kq, x28_6, rfl, HA, HJ6, BK273, BK274, HB⟩ := hcut
   cases kq with
   | zero => exact absurd HA.out (by simp [turnoutlaw02_FieldTells.j0])
   | succ kj6 =>
    have H := HA.out
    clear HA
    simp only [turnoutlaw02_FieldTells.j0] at H
    by_cases c11 : x28_6 = true
    ·
     subst c11
     have H1 : ((turnoutlaw02_awake.f kj6).bind fun t275 => (some t275)) = some r := by rw [if_pos rfl] at H; exact H
     clear H; have H := H1; clear H1
     replace H := Option.bind_eq_some_iff.mp H
     obtain ⟨t275, A120, H⟩ := H
     replace H : (some t275) = some r := H
     have A12 := Aside0.mk A120
     clear A120
     obtain rfl := Option.some.inj H
     go_wp2_with (first | ((with_reducible refine gate_callee (f := 12) rfl ?_); refine goesL_ (some 29) rfl rfl Try.func12 (by kernel_rfl) rfl #[] rfl (by (try simp only [List.map_toArray, List.map_cons, List.map_nil]); first | done | rfl | (simp only [List.length_drop, List.length_take]; rfl)) ?_; (with_reducible refine (turnoutlaw02_awake.calls kj6  t275 _ A12.out ⟨HAW12.out _ _ A12.out⟩).mono ?_); rintro e w13 ⟨rfl, hb⟩; refine ⟨_, rfl, ?_⟩; replace BK273 := Aside0.mk (blk_below (bkA BK273.out) hb); replace BK274 := Aside0.mk (blk_below (bkA BK274.out) hb); replace HB := Aside0.mk (below_step (by repeat (first | (with_reducible first | exact HB.out | apply below_alloc | apply pw_below_drewN | apply below_drew1 | refine below_set ?_ GE273.out | refine below_set ?_ GE274.out) | exact HB.out)) hb); (try clear hb); (try clear hb2); (try clear hk); (try clear hi)))
     go_ret
     exact ⟨by first | rfl | (simp [errW_none, errW_some] <;> rfl) | (simp [*, errW_none, errW_some] <;> rfl), by repeat (first | (with_reducible first | exact HB.out | apply below_alloc | apply pw_below_drewN | apply below_drew1 | refine below_set ?_ GE273.out | refine below_set ?_ GE274.out) | exact HB.out)⟩
    ·
     replace c11 := Bool.eq_false_iff.mpr c11
     subst c11
     have H1 : ((field_Text.f a4_0 a4_1 a3).bind fun bt276 => ((turnoutref02_Text.f kj6 a4_0 a4_1 a3).bind fun bt278 => ((field_Match.f kj6 a0 a2 a3 a4_0 a4_1 a5_0 a5_1).bind fun bt280 => ((turnoutref02_Match.f kj6 a0 a2 a3 a4_0 a4_1 a5_0 a5_1).bind fun bt282 => (if bt276.1.toList = bt278.1.toList then (if bt276.2 = bt278.2 then (if (bt280.1 == bt282.1) = true then (if bt280.2 = bt282.2 then ((field_Bytes.f a3).bind fun t284 => ((turnoutref02_Bytes.f a3).bind fun t285 => (if t284 = t285 then ((field_Prefix.f kj6 a0 a1).bind fun t286 => ((turnoutref02_Prefix.f kj6 a0 a1).bind fun t287 => (if t286 = t287 then ((turnoutlaw02_awake.f kj6).bind fun t288 => (some t288)) else (some false)))) else (some false)))) else (some false)) else (some false)) else (some false)) else (some false)))))) = some r := by rw [if_neg (show ¬ (false = true) by decide)] at H; exact H
     clear H; have H := H1; clear H1
     replace H := Option.bind_eq_some_iff.mp H
     obtain ⟨⟨t276, t277⟩, A140, H⟩ := H
     replace H : ((turnoutref02_Text.f kj6 a4_0 a4_1 a3).bind fun bt278 => ((field_Match.f kj6 a0 a2 a3 a4_0 a4_1 a5_0 a5_1).bind fun bt280 => ((turnoutref02_Match.f kj6 a0 a2 a3 a4_0 a4_1 a5_0 a5_1).bind fun bt282 => (if t276.toList = bt278.1.toList then (if t277 = bt278.2 then (if (bt280.1 == bt282.1) = true then (if bt280.2 = bt282.2 then ((field_Bytes.f a3).bind fun t284 => ((turnoutref02_Bytes.f a3).bind fun t285 => (if t284 = t285 then ((field_Prefix.f kj6 a0 a1).bind fun t286 => ((turnoutref02_Prefix.f kj6 a0 a1).bind fun t287 => (if t286 = t287 then ((turnoutlaw02_awake.f kj6).bind fun t288 => (some t288)) else (some false)))) else (some false)))) else (some false)) else (some false)) else (some false)) else (some false))))) = some r := H
     have A14 := Aside0.mk A140
     clear A140
     replace H := Option.bind_eq_some_iff.mp H
     obtain ⟨⟨t278, t279⟩, A150, H⟩ := H
     replace H : ((field_Match.f kj6 a0 a2 a3 a4_0 a4_1 a5_0 a5_1).bind fun bt280 => ((turnoutref02_Match.f kj6 a0 a2 a3 a4_0 a4_1 a5_0 a5_1).bind fun bt282 => (if t276.toList = t278.toList then (if t277 = t279 then (if (bt280.1 == bt282.1) = true then (if bt280.2 = bt282.2 then ((field_Bytes.f a3).bind fun t284 => ((turnoutref02_Bytes.f a3).bind fun t285 => (if t284 = t285 then ((field_Prefix.f kj6 a0 a1).bind fun t286 => ((turnoutref02_Prefix.f kj6 a0 a1).bind fun t287 => (if t286 = t287 then ((turnoutlaw02_awake.f kj6).bind fun t288 => (some t288)) else (some false)))) else (some false)))) else (some false)) else (some false)) else (some false)) else (some false)))) = some r := H
     have A15 := Aside0.mk A150
     clear A150
     replace H := Option.bind_eq_some_iff.mp H
     obtain ⟨⟨t280, t281⟩, A160, H⟩ := H
     replace H : ((turnoutref02_Match.f kj6 a0 a2 a3 a4_0 a4_1 a5_0 a5_1).bind fun bt282 => (if t276.toList = t278.toList then (if t277 = t279 then (if (t280 == bt282.1) = true then (if t281 = bt282.2 then ((field_Bytes.f a3).bind fun t284 => ((turnoutref02_Bytes.f a3).bind fun t285 => (if t284 = t285 then ((field_Prefix.f kj6 a0 a1).bind fun t286 => ((turnoutref02_Prefix.f kj6 a0 a1).bind fun t287 => (if t286 = t287 then ((turnoutlaw02_awake.f kj6).bind fun t288 => (some t288)) else (some false)))) else (some false)))) else (some false)) else (some false)) else (some false)) else (some false))) = some r := H
     have A16 := Aside0.mk A160
     clear A160
     replace H := Option.bind_eq_some_iff.mp H
     obtain ⟨⟨t282, t283⟩, A170, H⟩ := H
     replace H : (if t276.toList = t278.toList then (if t277 = t279 then (if (t280 == t282) = true then (if t281 = t283 then ((field_Bytes.f a3).bind fun t284 => ((turnoutref02_Bytes.f a3).bind fun t285 => (if t284 = t285 then ((field_Prefix.f kj6 a0 a1).bind fun t286 => ((turnoutref02_Prefix.f kj6 a0 a1).bind fun t287 => (if t286 = t287 then ((turnoutlaw02_awake.f kj6).bind fun t288 => (some t288)) else (some false)))) else (some false)))) else (some false)) else (some false)) else (some false)) else (some false)) = some r := H
     have A17 := Aside0.mk A170
     clear A170
     by_cases c18 : t276.toList = t278.toList
     ·
      rw [if_pos c18] at H
      have c18b0 : (t276.toList == t278.toList) = true := beq_iff_eq.mpr c18
      have c18b1 : (t276.toList != t278.toList) = false := bne_eq_false_iff_eq.mpr c18
      clear c18
      by_cases c19 : t277 = t279
      ·
       rw [if_pos c19] at H
       have c19b0 : (t277 == t279) = true := beq_iff_eq.mpr c19
       have c19b1 : (t277 != t279) = false := bne_eq_false_iff_eq.mpr c19
       clear c19
       by_cases c20 : (t280 == t282) = true
       ·
        rw [if_pos c20] at H
        have c20b0 : (t280 == t282) = true := c20
        (try (have c20b1 : decide (t280 = t282) = true := by simpa using c20))
        (try (have c20b2 : (t280 == t282) = true := by simpa using c20))
        clear c20
        by_cases c21 : t281 = t283
        ·
         rw [if_pos c21] at H
         have c21b0 : (t281 == t283) = true := beq_iff_eq.mpr c21
         have c21b1 : (t281 != t283) = false := bne_eq_false_iff_eq.mpr c21
         clear c21
         replace H := Option.bind_eq_some_iff.mp H
         obtain ⟨t284, A220, H⟩ := H
         replace H : ((turnoutref02_Bytes.f a3).bind fun t285 => (if t284 = t285 then ((field_Prefix.f kj6 a0 a1).bind fun t286 => ((turnoutref02_Prefix.f kj6 a0 a1).bind fun t287 => (if t286 = t287 then ((turnoutlaw02_awake.f kj6).bind fun t288 => (some t288)) else (some false)))) else (some false))) = some r := H
         have A22 := Aside0.mk A220
         clear A220
         replace H := Option.bind_eq_some_iff.mp H
         obtain ⟨t285, A230, H⟩ := H
         replace H : (if t284 = t285 then ((field_Prefix.f kj6 a0 a1).bind fun t286 => ((turnoutref02_Prefix.f kj6 a0 a1).bind fun t287 => (if t286 = t287 then ((turnoutlaw02_awake.f kj6).bind fun t288 => (some t288)) else (some false)))) else (some false)) = some r := H
         have A23 := Aside0.mk A230
         clear A230
         by_cases c24 : t284 = t285
         ·
          rw [if_pos c24] at H
          have c24b0 : (t284 == t285) = true := beq_iff_eq.mpr c24
          have c24b1 : (t284 != t285) = false := bne_eq_false_iff_eq.mpr c24
          clear c24
          replace H := Option.bind_eq_some_iff.mp H
          obtain ⟨t286, A250, H⟩ := H
          replace H : ((turnoutref02_Prefix.f kj6 a0 a1).bind fun t287 => (if t286 = t287 then ((turnoutlaw02_awake.f kj6).bind fun t288 => (some t288)) else (some false))) = some r := H
          have A25 := Aside0.mk A250
          clear A250
          replace H := Option.bind_eq_some_iff.mp H
          obtain ⟨t287, A260, H⟩ := H
          replace H : (if t286 = t287 then ((turnoutlaw02_awake.f kj6).bind fun t288 => (some t288)) else (some false)) = some r := H
          have A26 := Aside0.mk A260
          clear A260
          by_cases c27 : t286 = t287
          ·
           rw [if_pos c27] at H
           have c27b0 : (t286 == t287) = true := beq_iff_eq.mpr c27
           have c27b1 : (t286 != t287) = false := bne_eq_false_iff_eq.mpr c27
           clear c27
           replace H := Option.bind_eq_some_iff.mp H
           obtain ⟨t288, A280, H⟩ := H
           replace H : (some t288) = some r := H
           have A28 := Aside0.mk A280
           clear A280
           obtain rfl := Option.some.inj H
           have hnb29 := NB273_274.out
           have hnc29 := NB274_273.out
           have hcz30_0 : wc.cell? ⟨gb273, 0, none⟩ = some (.int .u64 a4_0) := (blk_cell BK273.out 0).trans rfl
           have hcz30_1 : wc.cell? ⟨gb273, 1, none⟩ = some (.int .u64 a4_1) := (blk_cell BK273.out 1).trans rfl
           have hfz30_0 := blk_frozen BK273.out 0
           have hfz30_1 := blk_frozen BK273.out 1
           go_wp2_with (first | ((with_reducible refine gate_callee (f := 21) rfl ?_); refine goesL_ (some 33) rfl rfl Try.func21 (by kernel_rfl) rfl #[.agg #[.int .u64 a4_0, .int .u64 a4_1], .int .i64 a3] rfl (by (try simp only [List.map_toArray, List.map_cons, List.map_nil]); first | done | rfl | (simp only [List.length_drop, List.length_take]; rfl)) ?_; (with_reducible refine (field_Text.calls a4_0 a4_1 a3 t276 t277 _ A14.out).mono ?_); rintro e w31 ⟨rfl, hb⟩; refine ⟨_, rfl, ?_⟩; replace BK273 := Aside0.mk (blk_below (bkA BK273.out) hb); replace BK274 := Aside0.mk (blk_below (bkA BK274.out) hb); replace HB := Aside0.mk (below_step (by repeat (first | (with_reducible first | exact HB.out | apply below_alloc | apply pw_below_drewN | apply below_drew1 | refine below_set ?_ GE273.out | refine below_set ?_ GE274.out) | exact HB.out)) hb); (try clear hb); (try clear hb2); (try clear hk); (try clear hi); have hcz32_0 : w31.cell? ⟨gb273, 0, none⟩ = some (.int .u64 a4_0) := (blk_cell BK273.out 0).trans rfl; have hcz32_1 : w31.cell? ⟨gb273, 1, none⟩ = some (.int .u64 a4_1) := (blk_cell BK273.out 1).trans rfl; have hfz32_0 := blk_frozen BK273.out 0; have hfz32_1 := blk_frozen BK273.out 1) | ((with_reducible refine gate_callee (f := 22) rfl ?_); refine goesL_ (some 39) rfl rfl Try.func22 (by kernel_rfl) rfl #[.agg #[.int .u64 a4_0, .int .u64 a4_1], .int .i64 a3] rfl (by (try simp only [List.map_toArray, List.map_cons, List.map_nil]); first | done | rfl | (simp only [List.length_drop, List.length_take]; rfl)) ?_; (with_reducible refine (turnoutref02_Text.calls kj6 a4_0 a4_1 a3 t278 t279 _ A15.out).mono ?_); rintro e w33 ⟨rfl, hb⟩; refine ⟨_, rfl, ?_⟩; replace BK273 := Aside0.mk (blk_below (bkA BK273.out) hb); replace BK274 := Aside0.mk (blk_below (bkA BK274.out) hb); replace HB := Aside0.mk (below_step (by repeat (first | (with_reducible first | exact HB.out | apply below_alloc | apply pw_below_drewN | apply below_drew1 | refine below_set ?_ GE273.out | refine below_set ?_ GE274.out) | exact HB.out)) hb); (try clear hb); (try clear hb2); (try clear hk); (try clear hi); have hcz34_0 : w33.cell? ⟨gb273, 0, none⟩ = some (.int .u64 a4_0) := (blk_cell BK273.out 0).trans rfl; have hcz34_1 : w33.cell? ⟨gb273, 1, none⟩ = some (.int .u64 a4_1) := (blk_cell BK273.out 1).trans rfl; have hfz34_0 := blk_frozen BK273.out 0; have hfz34_1 := blk_frozen BK273.out 1; have hcz35_0 : w33.cell? ⟨gb274, 0, none⟩ = some (.int .u64 a5_0) := (blk_cell BK274.out 0).trans rfl; have hcz35_1 : w33.cell? ⟨gb274, 1, none⟩ = some (.int .u64 a5_1) := (blk_cell BK274.out 1).trans rfl; have hfz35_0 := blk_frozen BK274.out 0; have hfz35_1 := blk_frozen BK274.out 1) | ((with_reducible refine gate_callee (f := 23) rfl ?_); refine goesL_ (some 48) rfl rfl Try.func23 (by kernel_rfl) rfl #[.string a0, .int .i64 a2, .int .i64 a3, .agg #[.int .u64 a4_0, .int .u64 a4_1], .agg #[.int .u64 a5_0, .int .u64 a5_1]] rfl (by (try simp only [List.map_toArray, List.map_cons, List.map_nil]); first | done | rfl | (simp only [List.length_drop, List.length_take]; rfl)) ?_; (with_reducible refine (field_Match.calls kj6 a0 a2 a3 a4_0 a4_1 a5_0 a5_1 t280 t281 _ A16.out).mono ?_); rintro e w36 ⟨rfl, hb⟩; refine ⟨_, rfl, ?_⟩; replace BK273 := Aside0.mk (blk_below (bkA BK273.out) hb); replace BK274 := Aside0.mk (blk_below (bkA BK274.out) hb); replace HB := Aside0.mk (below_step (by repeat (first | (with_reducible first | exact HB.out | apply below_alloc | apply pw_below_drewN | apply below_drew1 | refine below_set ?_ GE273.out | refine below_set ?_ GE274.out) | exact HB.out)) hb); (try clear hb); (try clear hb2); (try clear hk); (try clear hi); have hcz37_0 : w36.cell? ⟨gb273, 0, none⟩ = some (.int .u64 a4_0) := (blk_cell BK273.out 0).trans rfl; have hcz37_1 : w36.cell? ⟨gb273, 1, none⟩ = some (.int .u64 a4_1) := (blk_cell BK273.out 1).trans rfl; have hfz37_0 := blk_frozen BK273.out 0; have hfz37_1 := blk_frozen BK273.out 1; have hcz38_0 : w36.cell? ⟨gb274, 0, none⟩ = some (.int .u64 a5_0) := (blk_cell BK274.out 0).trans rfl; have hcz38_1 : w36.cell? ⟨gb274, 1, none⟩ = some (.int .u64 a5_1) := (blk_cell BK274.out 1).trans rfl; have hfz38_0 := blk_frozen BK274.out 0; have hfz38_1 := blk_frozen BK274.out 1) | ((with_reducible refine gate_callee (f := 24) rfl ?_); refine goesL_ (some 57) rfl rfl Try.func24 (by kernel_rfl) rfl #[.string a0, .int .i64 a2, .int .i64 a3, .agg #[.int .u64 a4_0, .int .u64 a4_1], .agg #[.int .u64 a5_0, .int .u64 a5_1]] rfl (by (try simp only [List.map_toArray, List.map_cons, List.map_nil]); first | done | rfl | (simp only [List.length_drop, List.length_take]; rfl)) ?_; (with_reducible refine (turnoutref02_Match.calls kj6 a0 a2 a3 a4_0 a4_1 a5_0 a5_1 t282 t283 _ A17.out).mono ?_); rintro e w39 ⟨rfl, hb⟩; refine ⟨_, rfl, ?_⟩; replace BK273 := Aside0.mk (blk_below (bkA BK273.out) hb); replace BK274 := Aside0.mk (blk_below (bkA BK274.out) hb); replace HB := Aside0.mk (below_step (by repeat (first | (with_reducible first | exact HB.out | apply below_alloc | apply pw_below_drewN | apply below_drew1 | refine below_set ?_ GE273.out | refine below_set ?_ GE274.out) | exact HB.out)) hb); (try clear hb); (try clear hb2); (try clear hk); (try clear hi)) | (go_at_call 25; (with_reducible refine (field_Bytes.calls a3 t284 _ A22.out).mono ?_); rintro e w' ⟨rfl, ⟨nd, rfl⟩⟩) | (go_at_call 26; (with_reducible refine (turnoutref02_Bytes.calls a3 t285 _ A23.out).mono ?_); rintro e w' ⟨rfl, ⟨nd, rfl⟩⟩) | (go_at_call 20; (with_reducible refine (field_Prefix.calls kj6 a0 a1 t286 _ A25.out).mono ?_); rintro e w' ⟨rfl, ⟨nd, rfl⟩⟩) | (go_at_call 27; (with_reducible refine (turnoutref02_Prefix.calls kj6 a0 a1 t287 _ A26.out).mono ?_); rintro e w' ⟨rfl, ⟨nd, rfl⟩⟩) | (go_at_call 12; (with_reducible refine (turnoutlaw02_awake.calls kj6  t288 _ A28.out ⟨HAW12.out _ _ A28.out⟩).mono ?_); rintro e w40 ⟨rfl, hb⟩; replace BK273 := Aside0.mk (blk_below (bkA BK273.out) hb); replace BK274 := Aside0.mk (blk_below (bkA BK274.out) hb); replace HB := Aside0.mk (below_step (by repeat (first | (with_reducible first | exact HB.out | apply below_alloc | apply pw_below_drewN | apply below_drew1 | refine below_set ?_ GE273.out | refine below_set ?_ GE274.out) | exact HB.out)) hb); (try clear hb); (try clear hb2); (try clear hk); (try clear hi)))
           go_ret
           exact ⟨by first | rfl | (simp [errW_none, errW_some] <;> rfl) | (simp [*, errW_none, errW_some] <;> rfl), by repeat (first | (with_reducible first | exact HB.out | apply below_alloc | apply pw_below_drewN | apply below_drew1 | refine below_set ?_ GE273.out | refine below_set ?_ GE274.out) | exact HB.out)⟩
          ·
           rw [if_neg c27] at H
           have c27b0 : (t286 == t287) = false := beq_eq_false_iff_ne.mpr c27
           have c27b1 : (t286 != t287) = true := bne_iff_ne.mpr c27
           exact absurd ((Option.some.inj H).trans hr_.out) (by decide)
         ·
          rw [if_neg c24] at H
          have c24b0 : (t284 == t285) = false := beq_eq_false_iff_ne.mpr c24
          have c24b1 : (t284 != t285) = true := bne_iff_ne.mpr c24
          exact absurd ((Option.some.inj H).trans hr_.out) (by decide)
        ·
         rw [if_neg c21] at H
         have c21b0 : (t281 == t283) = false := beq_eq_false_iff_ne.mpr c21
         have c21b1 : (t281 != t283) = true := bne_iff_ne.mpr c21
         exact absurd ((Option.some.inj H).trans hr_.out) (by decide)
       ·
        rw [if_neg c20] at H
        have c20b0 : (t280 == t282) = false := by simpa using c20
        (try (have c20b1 : decide (t280 = t282) = false := by simpa using c20))
        (try (have c20b2 : (t280 == t282) = false := by simpa using c20))
        (try (have c20b3 : ¬ (t280 = t282) := by simpa using c20))
        clear c20
        exact absurd ((Option.some.inj H).trans hr_.out) (by decide)
      ·
       rw [if_neg c19] at H
       have c19b0 : (t277 == t279) = false := beq_eq_false_iff_ne.mpr c19
       have c19b1 : (t277 != t279) = true := bne_iff_ne.mpr c19
       exact absurd ((Option.some.inj H).trans hr_.out) (by decide)
     ·
      rw [if_neg c18] at H
      have c18b0 : (t276.toList == t278.toList) = false := beq_eq_false_iff_ne.mpr c18
      have c18b1 : (t276.toList != t278.toList) = true := bne_iff_ne.mpr c18
      exact absurd ((Option.some.inj H).trans hr_.out) (by decide)

/-- THE ONE PURE STATEMENT of turnoutlaw02_FieldTells: yours. -/
def turnoutlaw02_FieldTells.Pure : Prop := (∀ (a0 : ByteArray) (a1 : ByteArray) (a2 : Int) (a3 : Int) (a4_0 : Int) (a4_1 : Int) (a5_0 : Int) (a5_1 : Int), a0.size ≤ 140737488351232 → a1.size ≤ 140737488351232 → (Lit.int .i64 a2).wf = true → (Lit.int .i64 a3).wf = true → (Lit.int .u64 a4_0).wf = true → (Lit.int .u64 a4_1).wf = true → (Lit.int .u64 a5_0).wf = true → (Lit.int .u64 a5_1).wf = true → ∃ k, turnoutlaw02_FieldTells.f k a0 a1 a2 a3 a4_0 a4_1 a5_0 a5_1 = some true) ∧ (∀ k r, turnoutlaw02_awake.f k = some r → r = true)
theorem turnoutlaw02_FieldTells.walk (P : turnoutlaw02_FieldTells.Pure) (a0 : ByteArray) (a1 : ByteArray) (a2 : Int) (a3 : Int) (a4_0 : Int) (a4_1 : Int) (a5_0 : Int) (a5_1 : Int) (w : World) (w0 : a0.size ≤ 140737488351232) (w1 : a1.size ≤ 140737488351232) (w2 : (Lit.int .i64 a2).wf = true) (w3 : (Lit.int .i64 a3).wf = true) (w4_0 : (Lit.int .u64 a4_0).wf = true) (w4_1 : (Lit.int .u64 a4_1).wf = true) (w5_0 : (Lit.int .u64 a5_0).wf = true) (w5_1 : (Lit.int .u64 a5_1).wf = true) :
   Calls Try.prog 8 #[.string a0, .string a1, .int .i64 a2, .int .i64 a3, .agg #[.int .u64 a4_0, .int .u64 a4_1], .agg #[.int .u64 a5_0, .int .u64 a5_1]] w fun e w' => e = .returned (.bool true) ∧ Below w.heap.size w w' := by
  obtain ⟨k, h⟩ := P.1 a0 a1 a2 a3 a4_0 a4_1 a5_0 a5_1 w0 w1 w2 w3 w4_0 w4_1 w5_0 w5_1
  refine (turnoutlaw02_FieldTells.calls k a0 a1 a2 a3 a4_0 a4_1 a5_0 a5_1 true w h ⟨rfl⟩ ⟨P.2⟩).mono ?_
  rintro e w' ⟨rfl, hd⟩
  exact ⟨rfl, hd⟩

end Go.Proofs.Ytgpahhobifdapaa.PField
