-- Written by wip/turnprint.py, a program of this session (the kit's print, turned).
import Derived.Test.YtgpahhobifdapaaPFieldx0
import Derived.Test.YtgpahhobifdapaaPFieldx1
import Derived.Test.YtgpahhobifdapaaPFieldx2
import Derived.Test.YtgpahhobifdapaaPFieldx3
import Derived.Test.YtgpahhobifdapaaPFieldx4
import Derived.Test.YtgpahhobifdapaaPFieldx5
import Derived.Test.YtgpahhobifdapaaPFieldx9
import Derived.Test.YtgpahhobifdapaaPFieldx12
namespace Go.Proofs.Ytgpahhobifdapaa.PField
open Go.RowKit Go.Proofs.YtgpahhobifdapaaW.PrintWords Go.Proofs.YtgpahhobifdapaaW.PrintLast Go.Proofs.YtgpahhobifdapaaW.PrintMore
attribute [local go_sem] max2_int min2_int max_two min_two max_three min_three max_four min_four   -- for this text's walks alone
set_option linter.unusedVariables false
set_option linter.unusedSimpArgs false

attribute [local go_sem high] eqA25
attribute [local go_sem high] xorA_u8 xorA_u16 xorA_u32 xorA_u64
/-! ### turnoutlaw02_FieldMatches: function 10 -/
mutual
def turnoutlaw02_FieldMatches.j0 : Nat → ByteArray → Int → Int → Bool → Int → Int → Int → Int → Option (Bool)
  | 0, _, _, _, _, _, _, _, _ => none
  | k + 1, x0, x1, x2, x29, x334000, x334001, x335000, x335001 => if x29 = true then ((turnoutlaw02_awake.f k).bind fun t336 => (some t336)) else ((field_Match.f k x0 x1 x2 x334000 x334001 x335000 x335001).bind fun bt337 => ((field_Get.f k x0 x1 x2).bind fun bt339 => (if bt337.2 = bt339.2.2 then (turnoutlaw02_FieldMatches.j1 k x0 x1 x2 bt337.1 bt337.2 bt339.2.2 (bt337.2 != 0) x334000 x334001 x335000 x335001 bt339.1 bt339.2.1) else (turnoutlaw02_FieldMatches.j1 k x0 x1 x2 bt337.1 bt337.2 bt339.2.2 true x334000 x334001 x335000 x335001 bt339.1 bt339.2.1))))
def turnoutlaw02_FieldMatches.j1 : Nat → ByteArray → Int → Int → Bool → Int → Int → Bool → Int → Int → Int → Int → Int → Int → Option (Bool)
  | 0, _, _, _, _, _, _, _, _, _, _, _, _, _ => none
  | k + 1, x0, x1, x2, x11, x12, x14, x53, x334000, x334001, x335000, x335001, x343000, x343001 => if x53 = true then (if x12 = x14 then (some (!x11)) else (some false)) else ((word_And.f x343000 x343001 x335000 x335001).bind fun bt343 => ((field_Match.f k x0 x1 x2 bt343.1 bt343.2 x335000 x335001).bind fun bt345 => (if bt345.2 = 0 then (if bt345.1 = true then ((word_And.f x343000 x343001 x335000 x335001).bind fun bt347 => (turnoutlaw02_FieldMatches.j2 k x0 x1 x2 (x11 != (x334000 == bt347.1 && (x334001 == bt347.2))) x343000 x343001)) else (turnoutlaw02_FieldMatches.j2 k x0 x1 x2 true x343000 x343001)) else (turnoutlaw02_FieldMatches.j2 k x0 x1 x2 true x343000 x343001))))
def turnoutlaw02_FieldMatches.j2 : Nat → ByteArray → Int → Int → Bool → Int → Int → Option (Bool)
  | 0, _, _, _, _, _, _ => none
  | k + 1, x0, x1, x2, x86, x343000, x343001 => if x86 = true then (some false) else (turnoutlaw02_FieldMatches.l0 k x0 x1 x2 0 x343000 x343001)
def turnoutlaw02_FieldMatches.l0 : Nat → ByteArray → Int → Int → Int → Int → Int → Option (Bool)
  | 0, _, _, _, _, _, _ => none
  | k + 1, x0, x1, x2, x17, x343000, x343001 => if x17 < x2 then ((turnoutlaw02_low.f 1).bind fun bt349 => ((word_Left.f bt349.1 bt349.2 x17).bind fun bt351 => ((word_And.f x343000 x343001 bt351.1 bt351.2).bind fun bt354 => ((field_Match.f k x0 x1 x2 bt354.1 bt354.2 bt351.1 bt351.2).bind fun bt356 => ((word_And.f x343000 x343001 bt351.1 bt351.2).bind fun bt358 => ((word_Xor.f bt358.1 bt358.2 bt351.1 bt351.2).bind fun bt360 => ((field_Match.f k x0 x1 x2 bt360.1 bt360.2 bt351.1 bt351.2).bind fun bt362 => (if bt356.1 = true then (if bt362.1 = true then (some false) else (turnoutlaw02_FieldMatches.l0 k x0 x1 x2 (wrap64 (x17 + 1)) x343000 x343001)) else (some false))))))))) else (some true)
end
def turnoutlaw02_FieldMatches.f (k : Nat) (a0 : ByteArray) (a1 : Int) (a2 : Int) (a3_0 : Int) (a3_1 : Int) (a4_0 : Int) (a4_1 : Int) : Option (Bool) := if (a0.size : Int) > 3000 then (turnoutlaw02_FieldMatches.j0 k a0 a1 a2 true a3_0 a3_1 a4_0 a4_1) else ((turnoutlaw02_awake.f k).bind fun t335 => (turnoutlaw02_FieldMatches.j0 k a0 a1 a2 (!t335) a3_0 a3_1 a4_0 a4_1))
theorem turnoutlaw02_FieldMatches.mono_l : ∀ k, (∀ y0 y1 y2 y3 y4 y5 y6 y7, LeO (turnoutlaw02_FieldMatches.j0 k y0 y1 y2 y3 y4 y5 y6 y7) (turnoutlaw02_FieldMatches.j0 (k + 1) y0 y1 y2 y3 y4 y5 y6 y7)) ∧ (∀ y0 y1 y2 y3 y4 y5 y6 y7 y8 y9 y10 y11 y12, LeO (turnoutlaw02_FieldMatches.j1 k y0 y1 y2 y3 y4 y5 y6 y7 y8 y9 y10 y11 y12) (turnoutlaw02_FieldMatches.j1 (k + 1) y0 y1 y2 y3 y4 y5 y6 y7 y8 y9 y10 y11 y12)) ∧ (∀ y0 y1 y2 y3 y4 y5, LeO (turnoutlaw02_FieldMatches.j2 k y0 y1 y2 y3 y4 y5) (turnoutlaw02_FieldMatches.j2 (k + 1) y0 y1 y2 y3 y4 y5)) ∧ (∀ y0 y1 y2 y3 y4 y5, LeO (turnoutlaw02_FieldMatches.l0 k y0 y1 y2 y3 y4 y5) (turnoutlaw02_FieldMatches.l0 (k + 1) y0 y1 y2 y3 y4 y5))
  | 0 => ⟨fun _ _ _ _ _ _ _ _ r h => by simp [turnoutlaw02_FieldMatches.j0] at h, fun _ _ _ _ _ _ _ _ _ _ _ _ _ r h => by simp [turnoutlaw02_FieldMatches.j1] at h, fun _ _ _ _ _ _ r h => by simp [turnoutlaw02_FieldMatches.j2] at h, fun _ _ _ _ _ _ r h => by simp [turnoutlaw02_FieldMatches.l0] at h⟩
  | k + 1 => by
   obtain ⟨ih0, ih1, ih2, ih3⟩ := turnoutlaw02_FieldMatches.mono_l k
   refine ⟨?_, ?_, ?_, ?_⟩
   ·
    intro y0 y1 y2 y3 y4 y5 y6 y7
    unfold turnoutlaw02_FieldMatches.j0
    repeat' first
    | (with_reducible exact ih0 _ _ _ _ _ _ _ _)
    | (with_reducible exact ih1 _ _ _ _ _ _ _ _ _ _ _ _ _)
    | (with_reducible exact ih2 _ _ _ _ _ _)
    | (with_reducible exact ih3 _ _ _ _ _ _)
    | (with_reducible exact field_Get.mono _ _ _ _)
    | (with_reducible exact field_Match.mono _ _ _ _ _ _ _ _)
    | (with_reducible exact turnoutlaw02_awake.mono _)
    | (with_reducible exact LeO.refl _)
    | (with_reducible exact LeO.none _)
    | (with_reducible refine LeO.ite ?_ ?_)
    | (with_reducible refine LeO.bind ?_ (fun _ => ?_))
    | exact ih0 _ _ _ _ _ _ _ _
    | exact ih1 _ _ _ _ _ _ _ _ _ _ _ _ _
    | exact ih2 _ _ _ _ _ _
    | exact ih3 _ _ _ _ _ _
    | exact field_Get.mono _ _ _ _
    | exact field_Match.mono _ _ _ _ _ _ _ _
    | exact turnoutlaw02_awake.mono _
    | exact LeO.none _
    | refine LeO.ite ?_ ?_
    | refine LeO.bind ?_ (fun _ => ?_)
   ·
    intro y0 y1 y2 y3 y4 y5 y6 y7 y8 y9 y10 y11 y12
    unfold turnoutlaw02_FieldMatches.j1
    repeat' first
    | (with_reducible exact ih0 _ _ _ _ _ _ _ _)
    | (with_reducible exact ih1 _ _ _ _ _ _ _ _ _ _ _ _ _)
    | (with_reducible exact ih2 _ _ _ _ _ _)
    | (with_reducible exact ih3 _ _ _ _ _ _)
    | (with_reducible exact field_Get.mono _ _ _ _)
    | (with_reducible exact field_Match.mono _ _ _ _ _ _ _ _)
    | (with_reducible exact turnoutlaw02_awake.mono _)
    | (with_reducible exact LeO.refl _)
    | (with_reducible exact LeO.none _)
    | (with_reducible refine LeO.ite ?_ ?_)
    | (with_reducible refine LeO.bind ?_ (fun _ => ?_))
    | exact ih0 _ _ _ _ _ _ _ _
    | exact ih1 _ _ _ _ _ _ _ _ _ _ _ _ _
    | exact ih2 _ _ _ _ _ _
    | exact ih3 _ _ _ _ _ _
    | exact field_Get.mono _ _ _ _
    | exact field_Match.mono _ _ _ _ _ _ _ _
    | exact turnoutlaw02_awake.mono _
    | exact LeO.none _
    | refine LeO.ite ?_ ?_
    | refine LeO.bind ?_ (fun _ => ?_)
   ·
    intro y0 y1 y2 y3 y4 y5
    unfold turnoutlaw02_FieldMatches.j2
    repeat' first
    | (with_reducible exact ih0 _ _ _ _ _ _ _ _)
    | (with_reducible exact ih1 _ _ _ _ _ _ _ _ _ _ _ _ _)
    | (with_reducible exact ih2 _ _ _ _ _ _)
    | (with_reducible exact ih3 _ _ _ _ _ _)
    | (with_reducible exact field_Get.mono _ _ _ _)
    | (with_reducible exact field_Match.mono _ _ _ _ _ _ _ _)
    | (with_reducible exact turnoutlaw02_awake.mono _)
    | (with_reducible exact LeO.refl _)
    | (with_reducible exact LeO.none _)
    | (with_reducible refine LeO.ite ?_ ?_)
    | (with_reducible refine LeO.bind ?_ (fun _ => ?_))
    | exact ih0 _ _ _ _ _ _ _ _
    | exact ih1 _ _ _ _ _ _ _ _ _ _ _ _ _
    | exact ih2 _ _ _ _ _ _
    | exact ih3 _ _ _ _ _ _
    | exact field_Get.mono _ _ _ _
    | exact field_Match.mono _ _ _ _ _ _ _ _
    | exact turnoutlaw02_awake.mono _
    | exact LeO.none _
    | refine LeO.ite ?_ ?_
    | refine LeO.bind ?_ (fun _ => ?_)
   ·
    intro y0 y1 y2 y3 y4 y5
    unfold turnoutlaw02_FieldMatches.l0
    repeat' first
    | (with_reducible exact ih0 _ _ _ _ _ _ _ _)
    | (with_reducible exact ih1 _ _ _ _ _ _ _ _ _ _ _ _ _)
    | (with_reducible exact ih2 _ _ _ _ _ _)
    | (with_reducible exact ih3 _ _ _ _ _ _)
    | (with_reducible exact field_Get.mono _ _ _ _)
    | (with_reducible exact field_Match.mono _ _ _ _ _ _ _ _)
    | (with_reducible exact turnoutlaw02_awake.mono _)
    | (with_reducible exact LeO.refl _)
    | (with_reducible exact LeO.none _)
    | (with_reducible refine LeO.ite ?_ ?_)
    | (with_reducible refine LeO.bind ?_ (fun _ => ?_))
    | exact ih0 _ _ _ _ _ _ _ _
    | exact ih1 _ _ _ _ _ _ _ _ _ _ _ _ _
    | exact ih2 _ _ _ _ _ _
    | exact ih3 _ _ _ _ _ _
    | exact field_Get.mono _ _ _ _
    | exact field_Match.mono _ _ _ _ _ _ _ _
    | exact turnoutlaw02_awake.mono _
    | exact LeO.none _
    | refine LeO.ite ?_ ?_
    | refine LeO.bind ?_ (fun _ => ?_)
theorem turnoutlaw02_FieldMatches.mono : ∀ a0 a1 a2 a3 a4 a5 a6 k, LeO (turnoutlaw02_FieldMatches.f k a0 a1 a2 a3 a4 a5 a6) (turnoutlaw02_FieldMatches.f (k + 1) a0 a1 a2 a3 a4 a5 a6) := by
  intro a0 a1 a2 a3 a4 a5 a6 k
  obtain ⟨ih0, ih1, ih2, ih3⟩ := turnoutlaw02_FieldMatches.mono_l k
  unfold turnoutlaw02_FieldMatches.f
  repeat' first
    | (with_reducible exact ih0 _ _ _ _ _ _ _ _)
    | (with_reducible exact ih1 _ _ _ _ _ _ _ _ _ _ _ _ _)
    | (with_reducible exact ih2 _ _ _ _ _ _)
    | (with_reducible exact ih3 _ _ _ _ _ _)
    | (with_reducible exact field_Get.mono _ _ _ _)
    | (with_reducible exact field_Match.mono _ _ _ _ _ _ _ _)
    | (with_reducible exact turnoutlaw02_awake.mono _)
    | (with_reducible exact LeO.refl _)
    | (with_reducible exact LeO.none _)
    | (with_reducible refine LeO.ite ?_ ?_)
    | (with_reducible refine LeO.bind ?_ (fun _ => ?_))
    | exact ih0 _ _ _ _ _ _ _ _
    | exact ih1 _ _ _ _ _ _ _ _ _ _ _ _ _
    | exact ih2 _ _ _ _ _ _
    | exact ih3 _ _ _ _ _ _
    | exact field_Get.mono _ _ _ _
    | exact field_Match.mono _ _ _ _ _ _ _ _
    | exact turnoutlaw02_awake.mono _
    | exact LeO.none _
    | refine LeO.ite ?_ ?_
    | refine LeO.bind ?_ (fun _ => ?_)
def turnoutlaw02_FieldMatches.T7 : Bool × List (List Nat × List Nat) := (true, [([], []), ([], []), ([], []), ([], []), ([], []), ([3, 4], [3, 4]), ([], []), ([0, 1, 2, 5, 6, 5], [0, 1, 2, 5, 6]), ([7], [7]), ([8], [8]), ([8], [8]), ([9, 7, 0, 1, 2, 3, 4, 5, 6, 7, 8, 9], [9]), ([10, 11, 0, 1, 2, 3, 4, 5, 6, 7, 8, 9, 10, 11], [10])])
def turnoutlaw02_FieldMatches.B7 : List Nat := [0, 0, 0, 0, 0, 24, 0, 127, 255, 511, 511, 1023, 4095]
theorem turnoutlaw02_FieldMatches.tab7 : rtab .any (opsOf Try.f10 7) = turnoutlaw02_FieldMatches.T7 := by kernel_rfl
theorem turnoutlaw02_FieldMatches.bits7 : waitsOk turnoutlaw02_FieldMatches.T7.2 turnoutlaw02_FieldMatches.B7 = true := by kernel_rfl
def turnoutlaw02_FieldMatches.T8 : Bool × List (List Nat × List Nat) := (true, [([], []), ([0], [0]), ([1], [1]), ([2], [2]), ([3, 2], [2, 3]), ([2, 4], [2, 4]), ([5, 2], [5]), ([6], [6]), ([6], [6]), ([6], [6]), ([6], [6]), ([9, 10, 6, 6], [6, 9, 10]), ([8, 11, 6], [6, 8, 11]), ([7, 12, 6], [6, 7, 12]), ([6, 13], [6, 13])])
def turnoutlaw02_FieldMatches.B8 : List Nat := [0, 1, 3, 7, 15, 31, 63, 127, 127, 127, 127, 1663, 3967, 8191, 16383]
theorem turnoutlaw02_FieldMatches.tab8 : rtab .any (opsOf Try.f10 8) = turnoutlaw02_FieldMatches.T8 := by kernel_rfl
theorem turnoutlaw02_FieldMatches.bits8 : waitsOk turnoutlaw02_FieldMatches.T8.2 turnoutlaw02_FieldMatches.B8 = true := by kernel_rfl
def turnoutlaw02_FieldMatches.T14 : Bool × List (List Nat × List Nat) := (true, [([], []), ([], []), ([], []), ([], []), ([], []), ([3, 4], [3, 4]), ([], []), ([0, 1, 2, 5, 6, 5], [0, 1, 2, 5, 6]), ([7], [7]), ([8], [8]), ([8], [8]), ([9, 7, 0, 1, 2, 3, 4, 5, 6, 7, 8, 9], [9]), ([10, 11, 0, 1, 2, 3, 4, 5, 6, 7, 8, 9, 10, 11], [10])])
def turnoutlaw02_FieldMatches.B14 : List Nat := [0, 0, 0, 0, 0, 24, 0, 127, 255, 511, 511, 1023, 4095]
theorem turnoutlaw02_FieldMatches.tab14 : rtab .any (opsOf Try.f10 14) = turnoutlaw02_FieldMatches.T14 := by kernel_rfl
theorem turnoutlaw02_FieldMatches.bits14 : waitsOk turnoutlaw02_FieldMatches.T14.2 turnoutlaw02_FieldMatches.B14 = true := by kernel_rfl
def turnoutlaw02_FieldMatches.T15 : Bool × List (List Nat × List Nat) := (true, [([], []), ([], []), ([], []), ([], []), ([], []), ([3, 4], [3, 4]), ([], []), ([5, 6, 5], [5, 6]), ([], []), ([0, 1, 2, 7, 8, 7], [0, 1, 2, 7, 8]), ([9], [9]), ([10], [10]), ([10], [10]), ([11, 9, 0, 1, 2, 3, 4, 5, 6, 7, 8, 9, 10, 11], [11]), ([12, 13, 0, 1, 2, 3, 4, 5, 6, 7, 8, 9, 10, 11, 12, 13], [12])])
def turnoutlaw02_FieldMatches.B15 : List Nat := [0, 0, 0, 0, 0, 24, 0, 120, 0, 511, 1023, 2047, 2047, 4095, 16383]
theorem turnoutlaw02_FieldMatches.tab15 : rtab .any (opsOf Try.f10 15) = turnoutlaw02_FieldMatches.T15 := by kernel_rfl
theorem turnoutlaw02_FieldMatches.bits15 : waitsOk turnoutlaw02_FieldMatches.T15.2 turnoutlaw02_FieldMatches.B15 = true := by kernel_rfl
set_option maxHeartbeats 8000000 in
set_option maxRecDepth 100000 in
theorem turnoutlaw02_FieldMatches.calls (k : Nat) (a0 : ByteArray) (a1 : Int) (a2 : Int) (a3_0 : Int) (a3_1 : Int) (a4_0 : Int) (a4_1 : Int) (r : Bool) (w : World) (h : turnoutlaw02_FieldMatches.f k a0 a1 a2 a3_0 a3_1 a4_0 a4_1 = some r) (hr_ : Aside0 (r = true)) (HAW12 : Aside0 (∀ k r, turnoutlaw02_awake.f k = some r → r = true)) :
   Calls Try.prog 10 #[.string a0, .int .i64 a1, .int .i64 a2, .agg #[.int .u64 a3_0, .int .u64 a3_1], .agg #[.int .u64 a4_0, .int .u64 a4_1]] w fun e w' => e = .returned (.bool r) ∧ Below w.heap.size w w' := by
  have hu25 := Try.underlying25
  have HB := Aside0.mk (Below.refl w.heap.size w)
  have H : (if (a0.size : Int) > 3000 then (turnoutlaw02_FieldMatches.j0 k a0 a1 a2 true a3_0 a3_1 a4_0 a4_1) else ((turnoutlaw02_awake.f k).bind fun t335 => (turnoutlaw02_FieldMatches.j0 k a0 a1 a2 (!t335) a3_0 a3_1 a4_0 a4_1))) = some r := h
  clear h
  have HC6 := Aside0.mk H
  clear H
  go_enter Try.func10, Try.ntmps10
  go_upto_region 1 with (first | ((with_reducible refine gate_dst (N := 8) rfl ?_); refine box_event ?hg (N := 8) ?hd (cs := #[.int .u64 a3_0, .int .u64 a3_1]) (t := 25) ?hr ?_; (case hd => rfl); (case hg => rfl); (case hr => first | (go_simp; done) | (go_simp; rfl)); intro gb333 hg w7 hbox hb; have BK333 := Aside0.mk (hbox); have GW333 := Aside0.mk ((by rw [hg]; exact (below_size (by repeat (first | (with_reducible first | exact HB.out | apply below_alloc | apply pw_below_drewN | apply below_drew1) | exact HB.out))) : w.heap.size ≤ gb333)); have GE333 := Aside0.mk ((by rw [hg]; exact (below_size (by repeat (first | (with_reducible first | exact HB.out | apply below_alloc | apply pw_below_drewN | apply below_drew1) | exact HB.out))) : w.heap.size ≤ gb333)); replace HB := Aside0.mk (below_step (by repeat (first | (with_reducible first | exact HB.out | apply below_alloc | apply pw_below_drewN | apply below_drew1) | exact HB.out)) hb); clear hb hbox hg) | ((with_reducible refine gate_dst (N := 9) rfl ?_); refine box_event ?hg (N := 9) ?hd (cs := #[.int .u64 a4_0, .int .u64 a4_1]) (t := 25) ?hr ?_; (case hd => rfl); (case hg => rfl); (case hr => first | (go_simp; done) | (go_simp; rfl)); intro gb334 hg w8 hbox hb; have BK334 := Aside0.mk (hbox); have GW334 := Aside0.mk ((by rw [hg]; exact (below_size (by repeat (first | (with_reducible first | exact HB.out | apply below_alloc | apply pw_below_drewN | apply below_drew1 | refine below_set ?_ GE333.out) | exact HB.out))) : w.heap.size ≤ gb334)); have GE334 := Aside0.mk ((by rw [hg]; exact (below_size (by repeat (first | (with_reducible first | exact HB.out | apply below_alloc | apply pw_below_drewN | apply below_drew1 | refine below_set ?_ GE333.out) | exact HB.out))) : w.heap.size ≤ gb334)); replace HB := Aside0.mk (below_step (by repeat (first | (with_reducible first | exact HB.out | apply below_alloc | apply pw_below_drewN | apply below_drew1 | refine below_set ?_ GE333.out) | exact HB.out)) hb); have NB333_334 := Aside0.mk ((by rw [hg]; exact Nat.ne_of_lt (blk_lt (bkA BK333.out)) : gb333 ≠ gb334)); have NB334_333 := Aside0.mk ((by rw [hg]; exact Nat.ne_of_gt (blk_lt (bkA BK333.out)) : gb334 ≠ gb333)); replace BK333 := Aside0.mk (blk_below (bkA BK333.out) hb); clear hb hbox hg))
  (try simp only [Act.put, List.setIfInBounds_toArray, List.set_cons_zero, List.set_cons_succ])
  go_cut [29] (fun v29 wc => ∃ (kq : Nat) (x29_5 : Bool), v29 = .bool x29_5 ∧ Aside0 (turnoutlaw02_FieldMatches.j0 kq a0 a1 a2 x29_5 a3_0 a3_1 a4_0 a4_1 = some r) ∧ Aside0 (kq ≤ k) ∧ Aside0 (wc.heap[gb333]? = some (.cells #[.int .u64 a3_0, .int .u64 a3_1] 25 (0, 0))) ∧ Aside0 (wc.heap[gb334]? = some (.cells #[.int .u64 a4_0, .int .u64 a4_1] 25 (0, 0))) ∧ Aside0 (Below w.heap.size w wc))
  case first =>
   have H := HC6.out
   clear HC6
   by_cases c9 : (a0.size : Int) > 3000
   ·
    rw [if_pos c9] at H
    have c9b0 : decide (3000 < (a0.size : Int)) = true := decide_eq_true c9
    have c9b1 : decide (3000 < a0.size) = true := decide_eq_true (by omega)
    clear c9
    (first | rw [c9b0] | (simp only [i64_w, i32_w]; rw [c9b0]) | skip)
    have H' := Aside0.mk H
    clear H
    go_wp2
    go_meet
    case rel => exact ⟨_, (true), (by first | rfl | (simp; done) | (simp [*]; done)), H', ⟨by first | omega | exact Nat.le_refl _⟩, ⟨by (with_reducible repeat (first | refine blk_drewN ?_ _ | refine blk_drew ?_ | refine blk_alloc ?_ _)); exact BK333.out⟩, ⟨by (with_reducible repeat (first | refine blk_drewN ?_ _ | refine blk_drew ?_ | refine blk_alloc ?_ _)); exact BK334.out⟩, ⟨by repeat (first | (with_reducible first | exact HB.out | apply below_alloc | apply pw_below_drewN | apply below_drew1 | refine below_set ?_ GE333.out | refine below_set ?_ GE334.out) | exact HB.out)⟩⟩
   ·
    rw [if_neg c9] at H
    have c9b0 : decide (3000 < (a0.size : Int)) = false := decide_eq_false c9
    have c9b1 : decide (3000 < a0.size) = false := decide_eq_false (by omega)
    clear c9
    (first | rw [c9b0] | (simp only [i64_w, i32_w]; rw [c9b0]) | skip)
    replace H := Option.bind_eq_some_iff.mp H
    obtain ⟨t335, A100, H⟩ := H
    replace H : (turnoutlaw02_FieldMatches.j0 k a0 a1 a2 (!t335) a3_0 a3_1 a4_0 a4_1) = some r := H
    have A10 := Aside0.mk A100
    clear A100
    have H' := Aside0.mk H
    clear H
    go_wp2_with (first | (go_at_call 12; (with_reducible refine (turnoutlaw02_awake.calls k  t335 _ A10.out ⟨HAW12.out _ _ A10.out⟩).mono ?_); rintro e w11 ⟨rfl, hb⟩; replace BK333 := Aside0.mk (blk_below (bkA BK333.out) hb); replace BK334 := Aside0.mk (blk_below (bkA BK334.out) hb); replace HB := Aside0.mk (below_step (by repeat (first | (with_reducible first | exact HB.out | apply below_alloc | apply pw_below_drewN | apply below_drew1 | refine below_set ?_ GE333.out | refine below_set ?_ GE334.out) | exact HB.out)) hb); (try clear hb); (try clear hb2); (try clear hk); (try clear hi)))
    go_meet
    case rel => exact ⟨_, (!t335), (by first | rfl | (simp; done) | (simp [*]; done)), H', ⟨by first | omega | exact Nat.le_refl _⟩, ⟨by (with_reducible repeat (first | refine blk_drewN ?_ _ | refine blk_drew ?_ | refine blk_alloc ?_ _)); exact BK333.out⟩, ⟨by (with_reducible repeat (first | refine blk_drewN ?_ _ | refine blk_drew ?_ | refine blk_alloc ?_ _)); exact BK334.out⟩, ⟨by repeat (first | (with_reducible first | exact HB.out | apply below_alloc | apply pw_below_drewN | apply below_drew1 | refine below_set ?_ GE333.out | refine below_set ?_ GE334.out) | exact HB.out)⟩⟩
  case rest =>
   clear HC6
   try clear c1
   try clear p2
   try clear c9
   try clear c9b0
   try clear c9b1
   try clear c10
   obtain ⟨kq, x29_5, rfl, HA, HJ5, BK333, BK334, HB⟩ := hcut
   cases kq with
   | zero => exact absurd HA.out (by simp [turnoutlaw02_FieldMatches.j0])
   | succ kj5 =>
    have H := HA.out
    clear HA
    simp only [turnoutlaw02_FieldMatches.j0] at H
    by_cases c12 : x29_5 = true
    ·
     subst c12
     have H1 : ((turnoutlaw02_awake.f kj5).bind fun t336 => (some t336)) = some r := by rw [if_pos rfl] at H; exact H
     clear H; have H := H1; clear H1
     replace H := Option.bind_eq_some_iff.mp H
     obtain ⟨t336, A130, H⟩ := H
     replace H : (some t336) = some r := H
     have A13 := Aside0.mk A130
     clear A130
     obtain rfl := Option.some.inj H
     go_wp2_with (first | ((with_reducible refine gate_callee (f := 12) rfl ?_); refine goesL_ (some 30) rfl rfl Try.func12 (by kernel_rfl) rfl #[] rfl (by (try simp only [List.map_toArray, List.map_cons, List.map_nil]); first | done | rfl | (simp only [List.length_drop, List.length_take]; rfl)) ?_; (with_reducible refine (turnoutlaw02_awake.calls kj5  t336 _ A13.out ⟨HAW12.out _ _ A13.out⟩).mono ?_); rintro e w14 ⟨rfl, hb⟩; refine ⟨_, rfl, ?_⟩; replace BK333 := Aside0.mk (blk_below (bkA BK333.out) hb); replace BK334 := Aside0.mk (blk_below (bkA BK334.out) hb); replace HB := Aside0.mk (below_step (by repeat (first | (with_reducible first | exact HB.out | apply below_alloc | apply pw_below_drewN | apply below_drew1 | refine below_set ?_ GE333.out | refine below_set ?_ GE334.out) | exact HB.out)) hb); (try clear hb); (try clear hb2); (try clear hk); (try clear hi)))
     go_ret
     exact ⟨by first | rfl | (simp [errW_none, errW_some] <;> rfl) | (simp [*, errW_none, errW_some] <;> rfl), by repeat (first | (with_reducible first | exact HB.out | apply below_alloc | apply pw_below_drewN | apply below_drew1 | refine below_set ?_ GE333.out | refine below_set ?_ GE334.out) | exact HB.out)⟩
    ·
     replace c12 := Bool.eq_false_iff.mpr c12
     subst c12
     have H1 : ((field_Match.f kj5 a0 a1 a2 a3_0 a3_1 a4_0 a4_1).bind fun bt337 => ((field_Get.f kj5 a0 a1 a2).bind fun bt339 => (if bt337.2 = bt339.2.2 then (turnoutlaw02_FieldMatches.j1 kj5 a0 a1 a2 bt337.1 bt337.2 bt339.2.2 (bt337.2 != 0) a3_0 a3_1 a4_0 a4_1 bt339.1 bt339.2.1) else (turnoutlaw02_FieldMatches.j1 kj5 a0 a1 a2 bt337.1 bt337.2 bt339.2.2 true a3_0 a3_1 a4_0 a4_1 bt339.1 bt339.2.1)))) = some r := by rw [if_neg (show ¬ (false = true) by decide)] at H; exact H
     clear H; have H := H1; clear H1
     replace H := Option.bind_eq_some_iff.mp H
     obtain ⟨⟨t337, t338⟩, A150, H⟩ := H
     replace H : ((field_Get.f kj5 a0 a1 a2).bind fun bt339 => (if t338 = bt339.2.2 then (turnoutlaw02_FieldMatches.j1 kj5 a0 a1 a2 t337 t338 bt339.2.2 (t338 != 0) a3_0 a3_1 a4_0 a4_1 bt339.1 bt339.2.1) else (turnoutlaw02_FieldMatches.j1 kj5 a0 a1 a2 t337 t338 bt339.2.2 true a3_0 a3_1 a4_0 a4_1 bt339.1 bt339.2.1))) = some r := H
     have A15 := Aside0.mk A150
     clear A150
     replace H := Option.bind_eq_some_iff.mp H
     obtain ⟨⟨t339, t340, t341⟩, A160, H⟩ := H
     replace H : (if t338 = t341 then (turnoutlaw02_FieldMatches.j1 kj5 a0 a1 a2 t337 t338 t341 (t338 != 0) a3_0 a3_1 a4_0 a4_1 t339 t340) else (turnoutlaw02_FieldMatches.j1 kj5 a0 a1 a2 t337 t338 t341 true a3_0 a3_1 a4_0 a4_1 t339 t340)) = some r := H
     have A16 := Aside0.mk A160
     clear A160
     have HC17 := Aside0.mk H
     clear H
     have hnb18 := NB333_334.out
     have hnc18 := NB334_333.out
     have hcz19_0 : wc.cell? ⟨gb333, 0, none⟩ = some (.int .u64 a3_0) := (blk_cell BK333.out 0).trans rfl
     have hcz19_1 : wc.cell? ⟨gb333, 1, none⟩ = some (.int .u64 a3_1) := (blk_cell BK333.out 1).trans rfl
     have hfz19_0 := blk_frozen BK333.out 0
     have hfz19_1 := blk_frozen BK333.out 1
     have hcz20_0 : wc.cell? ⟨gb334, 0, none⟩ = some (.int .u64 a4_0) := (blk_cell BK334.out 0).trans rfl
     have hcz20_1 : wc.cell? ⟨gb334, 1, none⟩ = some (.int .u64 a4_1) := (blk_cell BK334.out 1).trans rfl
     have hfz20_0 := blk_frozen BK334.out 0
     have hfz20_1 := blk_frozen BK334.out 1
     go_upto_region 5 with (first | ((with_reducible refine gate_callee (f := 23) rfl ?_); refine goesL_ (some 37) rfl rfl Try.func23 (by kernel_rfl) rfl #[.string a0, .int .i64 a1, .int .i64 a2, .agg #[.int .u64 a3_0, .int .u64 a3_1], .agg #[.int .u64 a4_0, .int .u64 a4_1]] rfl (by (try simp only [List.map_toArray, List.map_cons, List.map_nil]); first | done | rfl | (simp only [List.length_drop, List.length_take]; rfl)) ?_; (with_reducible refine (field_Match.calls kj5 a0 a1 a2 a3_0 a3_1 a4_0 a4_1 t337 t338 _ A15.out).mono ?_); rintro e w21 ⟨rfl, hb⟩; refine ⟨_, rfl, ?_⟩; replace BK333 := Aside0.mk (blk_below (bkA BK333.out) hb); replace BK334 := Aside0.mk (blk_below (bkA BK334.out) hb); replace HB := Aside0.mk (below_step (by repeat (first | (with_reducible first | exact HB.out | apply below_alloc | apply pw_below_drewN | apply below_drew1 | refine below_set ?_ GE333.out | refine below_set ?_ GE334.out) | exact HB.out)) hb); (try clear hb); (try clear hb2); (try clear hk); (try clear hi)) | ((with_reducible refine gate_callee (f := 13) rfl ?_); refine goesL_ (some 44) rfl rfl Try.func13 (by kernel_rfl) rfl #[.string a0, .int .i64 a1, .int .i64 a2] rfl (by (try simp only [List.map_toArray, List.map_cons, List.map_nil]); first | done | rfl | (simp only [List.length_drop, List.length_take]; rfl)) ?_; (with_reducible refine (field_Get.calls kj5 a0 a1 a2 t339 t340 t341 _ A16.out).mono ?_); rintro e w22 ⟨rfl, hb⟩; refine ⟨_, rfl, ?_⟩; replace BK333 := Aside0.mk (blk_below (bkA BK333.out) hb); replace BK334 := Aside0.mk (blk_below (bkA BK334.out) hb); replace HB := Aside0.mk (below_step (by repeat (first | (with_reducible first | exact HB.out | apply below_alloc | apply pw_below_drewN | apply below_drew1 | refine below_set ?_ GE333.out | refine below_set ?_ GE334.out) | exact HB.out)) hb); (try clear hb); (try clear hb2); (try clear hk); (try clear hi)) | ((with_reducible refine gate_dst (N := 13) rfl ?_); refine box_event ?hg (N := 13) ?hd (cs := #[.int .u64 0, .int .u64 0]) (t := 25) ?hr ?_; (case hd => rfl); (case hg => rfl); (case hr => first | (go_simp; done) | (go_simp; rfl)); intro gb342 hg w23 hbox hb; have BK342 := Aside0.mk (hbox); have GW342 := Aside0.mk ((by rw [hg]; exact (below_size (by repeat (first | (with_reducible first | exact HB.out | apply below_alloc | apply pw_below_drewN | apply below_drew1 | refine below_set ?_ GE333.out | refine below_set ?_ GE334.out) | exact HB.out))) : w.heap.size ≤ gb342)); have GE342 := Aside0.mk ((by rw [hg]; exact (below_size (by repeat (first | (with_reducible first | exact HB.out | apply below_alloc | apply pw_below_drewN | apply below_drew1 | refine below_set ?_ GE333.out | refine below_set ?_ GE334.out) | exact HB.out))) : w.heap.size ≤ gb342)); replace HB := Aside0.mk (below_step (by repeat (first | (with_reducible first | exact HB.out | apply below_alloc | apply pw_below_drewN | apply below_drew1 | refine below_set ?_ GE333.out | refine below_set ?_ GE334.out) | exact HB.out)) hb); have NB333_342 := Aside0.mk ((by rw [hg]; exact Nat.ne_of_lt (blk_lt (bkA BK333.out)) : gb333 ≠ gb342)); have NB342_333 := Aside0.mk ((by rw [hg]; exact Nat.ne_of_gt (blk_lt (bkA BK333.out)) : gb342 ≠ gb333)); replace BK333 := Aside0.mk (blk_below (bkA BK333.out) hb); have NB334_342 := Aside0.mk ((by rw [hg]; exact Nat.ne_of_lt (blk_lt (bkA BK334.out)) : gb334 ≠ gb342)); have NB342_334 := Aside0.mk ((by rw [hg]; exact Nat.ne_of_gt (blk_lt (bkA BK334.out)) : gb342 ≠ gb334)); replace BK334 := Aside0.mk (blk_below (bkA BK334.out) hb); clear hb hbox hg; have hnb24 := NB342_333.out; have hnc24 := NB333_342.out; have hnb25 := NB342_334.out; have hnc25 := NB334_342.out; have hcz26_0 : w23.cell? ⟨gb342, 0, none⟩ = some (.int .u64 0) := (blk_cell BK342.out 0).trans rfl; have hcz26_1 : w23.cell? ⟨gb342, 1, none⟩ = some (.int .u64 0) := (blk_cell BK342.out 1).trans rfl; have hfz26_0 := blk_frozen BK342.out 0; have hfz26_1 := blk_frozen BK342.out 1))
     (try simp only [Act.put, List.setIfInBounds_toArray, List.set_cons_zero, List.set_cons_succ])
     go_cut [53] (fun v53 wc => ∃ (kq : Nat) (x53_16 : Bool), v53 = .bool x53_16 ∧ Aside0 (turnoutlaw02_FieldMatches.j1 kq a0 a1 a2 t337 t338 t341 x53_16 a3_0 a3_1 a4_0 a4_1 t339 t340 = some r) ∧ Aside0 (kq ≤ kj5) ∧ Aside0 (wc.heap[gb333]? = some (.cells #[.int .u64 a3_0, .int .u64 a3_1] 25 (0, 0))) ∧ Aside0 (wc.heap[gb334]? = some (.cells #[.int .u64 a4_0, .int .u64 a4_1] 25 (0, 0))) ∧ Aside0 (wc.heap[gb342]? = some (.cells #[.int .u64 t339, .int .u64 t340] 25 (0, 0))) ∧ Aside0 (Below w.heap.size w wc))
     case first =>
      have H := HC17.out
      clear HC17
      by_cases c27 : t338 = t341
      ·
       rw [if_pos c27] at H
       have c27b0 : (t338 == t341) = true := beq_iff_eq.mpr c27
       have c27b1 : (t338 != t341) = false := bne_eq_false_iff_eq.mpr c27
       clear c27
       (first | rw [c27b0] | (simp only [i64_w, i32_w]; rw [c27b0]) | skip)
       have H' := Aside0.mk H
       clear H
       go_wp2
       go_meet
       case rel => exact ⟨_, ((t338 != 0)), (by first | rfl | (simp; done) | (simp [*]; done)), H', ⟨by have := HJ5.out; first | omega | exact Nat.le_refl _⟩, ⟨by (with_reducible repeat (first | refine blk_drewN ?_ _ | refine blk_drew ?_ | refine blk_alloc ?_ _)); refine blk_far ?_ NB333_342.out _; (with_reducible repeat (first | refine blk_drewN ?_ _ | refine blk_drew ?_ | refine blk_alloc ?_ _)); refine blk_far ?_ NB333_342.out _; (with_reducible repeat (first | refine blk_drewN ?_ _ | refine blk_drew ?_ | refine blk_alloc ?_ _)); exact BK333.out⟩, ⟨by (with_reducible repeat (first | refine blk_drewN ?_ _ | refine blk_drew ?_ | refine blk_alloc ?_ _)); refine blk_far ?_ NB334_342.out _; (with_reducible repeat (first | refine blk_drewN ?_ _ | refine blk_drew ?_ | refine blk_alloc ?_ _)); refine blk_far ?_ NB334_342.out _; (with_reducible repeat (first | refine blk_drewN ?_ _ | refine blk_drew ?_ | refine blk_alloc ?_ _)); exact BK334.out⟩, ⟨by (with_reducible repeat (first | refine blk_drewN ?_ _ | refine blk_drew ?_ | refine blk_alloc ?_ _)); refine blk_put (cs := #[.int .u64 t339, .int .u64 0]) ?_ 1 _ rfl; (with_reducible repeat (first | refine blk_drewN ?_ _ | refine blk_drew ?_ | refine blk_alloc ?_ _)); refine blk_put (cs := #[.int .u64 0, .int .u64 0]) ?_ 0 _ rfl; (with_reducible repeat (first | refine blk_drewN ?_ _ | refine blk_drew ?_ | refine blk_alloc ?_ _)); exact BK342.out⟩, ⟨by repeat (first | (with_reducible first | exact HB.out | apply below_alloc | apply pw_below_drewN | apply below_drew1 | refine below_set ?_ GE333.out | refine below_set ?_ GE334.out | refine below_set ?_ GE342.out) | exact HB.out)⟩⟩
      ·
       rw [if_neg c27] at H
       have c27b0 : (t338 == t341) = false := beq_eq_false_iff_ne.mpr c27
       have c27b1 : (t338 != t341) = true := bne_iff_ne.mpr c27
       (first | rw [c27b0] | (simp only [i64_w, i32_w]; rw [c27b0]) | skip)
       have H' := Aside0.mk H
       clear H
       go_wp2
       go_meet
       case rel => exact ⟨_, (true), (by first | rfl | (simp; done) | (simp [*]; done)), H', ⟨by have := HJ5.out; first | omega | exact Nat.le_refl _⟩, ⟨by (with_reducible repeat (first | refine blk_drewN ?_ _ | refine blk_drew ?_ | refine blk_alloc ?_ _)); refine blk_far ?_ NB333_342.out _; (with_reducible repeat (first | refine blk_drewN ?_ _ | refine blk_drew ?_ | refine blk_alloc ?_ _)); refine blk_far ?_ NB333_342.out _; (with_reducible repeat (first | refine blk_drewN ?_ _ | refine blk_drew ?_ | refine blk_alloc ?_ _)); exact BK333.out⟩, ⟨by (with_reducible repeat (first | refine blk_drewN ?_ _ | refine blk_drew ?_ | refine blk_alloc ?_ _)); refine blk_far ?_ NB334_342.out _; (with_reducible repeat (first | refine blk_drewN ?_ _ | refine blk_drew ?_ | refine blk_alloc ?_ _)); refine blk_far ?_ NB334_342.out _; (with_reducible repeat (first | refine blk_drewN ?_ _ | refine blk_drew ?_ | refine blk_alloc ?_ _)); exact BK334.out⟩, ⟨by (with_reducible repeat (first | refine blk_drewN ?_ _ | refine blk_drew ?_ | refine blk_alloc ?_ _)); refine blk_put (cs := #[.int .u64 t339, .int .u64 0]) ?_ 1 _ rfl; (with_reducible repeat (first | refine blk_drewN ?_ _ | refine blk_drew ?_ | refine blk_alloc ?_ _)); refine blk_put (cs := #[.int .u64 0, .int .u64 0]) ?_ 0 _ rfl; (with_reducible repeat (first | refine blk_drewN ?_ _ | refine blk_drew ?_ | refine blk_alloc ?_ _)); exact BK342.out⟩, ⟨by repeat (first | (with_reducible first | exact HB.out | apply below_alloc | apply pw_below_drewN | apply below_drew1 | refine below_set ?_ GE333.out | refine below_set ?_ GE334.out | refine below_set ?_ GE342.out) | exact HB.out)⟩⟩
     case rest =>
      clear HC17
      try clear c1
      try clear c2
      try clear p2
      try clear c9
      try clear c9b0
      try clear c9b1
      try clear c10
      try clear c12
      try clear c13
      try clear c18
      try clear c23
      try clear c24
      try clear c25
      try clear c27
      try clear c27b0
      try clear c27b1
      try clear hcz19_0
      try clear hcz19_1
      try clear hcz20_0
      try clear hcz20_1
      try clear hcz26_0
      try clear hcz26_1
      try clear hfz19_0
      try clear hfz19_1
      try clear hfz20_0
      try clear hfz20_1
      try clear hfz26_0
      try clear hfz26_1
      try clear p2
      obtain ⟨kq, x53_16, rfl, HA, HJ16, BK333, BK334, BK342, HB⟩ := hcut
      cases kq with
      | zero => exact absurd HA.out (by simp [turnoutlaw02_FieldMatches.j1])
      | succ kj16 =>
       have H := HA.out
       clear HA
       simp only [turnoutlaw02_FieldMatches.j1] at H
       by_cases c28 : x53_16 = true
       ·
        subst c28
        have H1 : (if t338 = t341 then (some (!t337)) else (some false)) = some r := by rw [if_pos rfl] at H; exact H
        clear H; have H := H1; clear H1
        by_cases c29 : t338 = t341
        ·
         rw [if_pos c29] at H
         have c29b0 : (t338 == t341) = true := beq_iff_eq.mpr c29
         have c29b1 : (t338 != t341) = false := bne_eq_false_iff_eq.mpr c29
         clear c29
         obtain rfl := Option.some.inj H
         go_wp2
         go_ret
         exact ⟨by first | rfl | (simp [errW_none, errW_some] <;> rfl) | (simp [*, errW_none, errW_some] <;> rfl), by repeat (first | (with_reducible first | exact HB.out | apply below_alloc | apply pw_below_drewN | apply below_drew1 | refine below_set ?_ GE333.out | refine below_set ?_ GE334.out | refine below_set ?_ GE342.out) | exact HB.out)⟩
        ·
         rw [if_neg c29] at H
         have c29b0 : (t338 == t341) = false := beq_eq_false_iff_ne.mpr c29
         have c29b1 : (t338 != t341) = true := bne_iff_ne.mpr c29
         exact absurd ((Option.some.inj H).trans hr_.out) (by decide)
       ·
        replace c28 := Bool.eq_false_iff.mpr c28
        subst c28
        have H1 : ((word_And.f t339 t340 a4_0 a4_1).bind fun bt343 => ((field_Match.f kj16 a0 a1 a2 bt343.1 bt343.2 a4_0 a4_1).bind fun bt345 => (if bt345.2 = 0 then (if bt345.1 = true then ((word_And.f t339 t340 a4_0 a4_1).bind fun bt347 => (turnoutlaw02_FieldMatches.j2 kj16 a0 a1 a2 (t337 != (a3_0 == bt347.1 && (a3_1 == bt347.2))) t339 t340)) else (turnoutlaw02_FieldMatches.j2 kj16 a0 a1 a2 true t339 t340)) else (turnoutlaw02_FieldMatches.j2 kj16 a0 a1 a2 true t339 t340)))) = some r := by rw [if_neg (show ¬ (false = true) by decide)] at H; exact H
        clear H; have H := H1; clear H1
        replace H := Option.bind_eq_some_iff.mp H
        obtain ⟨⟨t343, t344⟩, A300, H⟩ := H
        replace H : ((field_Match.f kj16 a0 a1 a2 t343 t344 a4_0 a4_1).bind fun bt345 => (if bt345.2 = 0 then (if bt345.1 = true then ((word_And.f t339 t340 a4_0 a4_1).bind fun bt347 => (turnoutlaw02_FieldMatches.j2 kj16 a0 a1 a2 (t337 != (a3_0 == bt347.1 && (a3_1 == bt347.2))) t339 t340)) else (turnoutlaw02_FieldMatches.j2 kj16 a0 a1 a2 true t339 t340)) else (turnoutlaw02_FieldMatches.j2 kj16 a0 a1 a2 true t339 t340))) = some r := H
        have A30 := Aside0.mk A300
        clear A300
        replace H := Option.bind_eq_some_iff.mp H
        obtain ⟨⟨t345, t346⟩, A310, H⟩ := H
        replace H : (if t346 = 0 then (if t345 = true then ((word_And.f t339 t340 a4_0 a4_1).bind fun bt347 => (turnoutlaw02_FieldMatches.j2 kj16 a0 a1 a2 (t337 != (a3_0 == bt347.1 && (a3_1 == bt347.2))) t339 t340)) else (turnoutlaw02_FieldMatches.j2 kj16 a0 a1 a2 true t339 t340)) else (turnoutlaw02_FieldMatches.j2 kj16 a0 a1 a2 true t339 t340)) = some r := H
        have A31 := Aside0.mk A310
        clear A310
        have HC32 := Aside0.mk H
        clear H
        try go_wp2
        replace BK333 := Aside0.mk (blk_drew BK333.out); replace BK334 := Aside0.mk (blk_drew BK334.out); replace BK342 := Aside0.mk (blk_drew BK342.out); replace HB := Aside0.mk (below_drew1 HB.out)
        refine start_ (n := 13) (S := fun w' => w'.cell? ⟨gb342, 0, none⟩ = some (.int .u64 t339) ∧ w'.cell? ⟨gb342, 1, none⟩ = some (.int .u64 t340) ∧ w'.cell? ⟨gb334, 0, none⟩ = some (.int .u64 a4_0) ∧ w'.cell? ⟨gb334, 1, none⟩ = some (.int .u64 a4_1)) (ds := []) #[F,F,F,F,F,F,F,F,F,F,F,F,F] (by kernel_rfl) rfl rfl ⟨(blk_cell BK342.out 0).trans rfl, (blk_cell BK342.out 1).trans rfl, (blk_cell BK334.out 0).trans rfl, (blk_cell BK334.out 1).trans rfl⟩ (fun hHeld => ?_); refine with_tabW turnoutlaw02_FieldMatches.tab7 turnoutlaw02_FieldMatches.bits7 (fun HT_ HW_ => ?_)
        generalize wc.drew = w33 at BK333 BK334 BK342 HB hHeld ⊢
        refine pure_ (i := 0) (N := some 62) (v := ?_) (a' := ?_) #[T,F,F,F,F,F,F,F,F,F,F,F,F] rfl rfl (any_of HT_.out (by kernel_rfl)) (fun _ _ _ h => h) (Or.inl ⟨by rfl, ?_⟩) ?_ ?_
        rotate_left
        ·
         intro w'
         go_simp
         with_reducible rfl
        rotate_left
        ·
         simp only [Act.put, List.setIfInBounds_toArray, List.set_cons_zero, List.set_cons_succ, i64_w, i32_w]
         rfl
        refine pure_ (i := 1) (N := some 63) (v := ?_) (a' := ?_) #[T,T,F,F,F,F,F,F,F,F,F,F,F] rfl rfl (any_of HT_.out (by kernel_rfl)) (fun _ _ _ h => h) (Or.inl ⟨by rfl, ?_⟩) ?_ ?_
        rotate_left
        ·
         intro w'
         go_simp
         with_reducible rfl
        rotate_left
        ·
         simp only [Act.put, List.setIfInBounds_toArray, List.set_cons_zero, List.set_cons_succ, i64_w, i32_w]
         rfl
        refine pure_ (i := 2) (N := some 64) (v := ?_) (a' := ?_) #[T,T,T,F,F,F,F,F,F,F,F,F,F] rfl rfl (any_of HT_.out (by kernel_rfl)) (fun _ _ _ h => h) (Or.inl ⟨by rfl, ?_⟩) ?_ ?_
        rotate_left
        ·
         intro w'
         go_simp
         with_reducible rfl
        rotate_left
        ·
         simp only [Act.put, List.setIfInBounds_toArray, List.set_cons_zero, List.set_cons_succ, i64_w, i32_w]
         rfl
        refine take_ (i := 3) (N := some 65) (v := ?_) (a' := ?_) #[T,T,T,T,F,F,F,F,F,F,F,F,F] rfl rfl (take_ofW HT_.out HW_.out (by kernel_rfl)) (fun _ _ _ h => h) (Or.inl ⟨by rfl, ?_⟩) hHeld ?_ ?_
        rotate_left
        ·
         rintro w' ⟨s0, s1, s2, s3⟩
         go_simp
         with_reducible rfl
        rotate_left
        ·
         simp only [Act.put, List.setIfInBounds_toArray, List.set_cons_zero, List.set_cons_succ, i64_w, i32_w]
         rfl
        refine take_ (i := 4) (N := some 66) (v := ?_) (a' := ?_) #[T,T,T,T,T,F,F,F,F,F,F,F,F] rfl rfl (take_ofW HT_.out HW_.out (by kernel_rfl)) (fun _ _ _ h => h) (Or.inl ⟨by rfl, ?_⟩) hHeld ?_ ?_
        rotate_left
        ·
         rintro w' ⟨s0, s1, s2, s3⟩
         go_simp
         with_reducible rfl
        rotate_left
        ·
         simp only [Act.put, List.setIfInBounds_toArray, List.set_cons_zero, List.set_cons_succ, i64_w, i32_w]
         rfl
        refine take_ (i := 6) (N := some 68) (v := ?_) (a' := ?_) #[T,T,T,T,T,F,T,F,F,F,F,F,F] rfl rfl (take_ofW HT_.out HW_.out (by kernel_rfl)) (fun _ _ _ h => h) (Or.inl ⟨by rfl, ?_⟩) hHeld ?_ ?_
        rotate_left
        ·
         rintro w' ⟨s0, s1, s2, s3⟩
         go_simp
         with_reducible rfl
        rotate_left
        ·
         simp only [Act.put, List.setIfInBounds_toArray, List.set_cons_zero, List.set_cons_succ, i64_w, i32_w]
         rfl
        refine one_ (i := 5) (N := some 67) #[T,T,T,T,T,T,T,F,F,F,F,F,F] rfl rfl (one_of HT_.out (by kernel_rfl)) (by decide) (fun K hK => ?_)
        refine goes_ Try.func29 (by kernel_rfl) rfl #[.agg #[.int .u64 t339, .int .u64 t340], .agg #[.int .u64 a4_0, .int .u64 a4_1]] (by rfl) rfl rfl (by (try simp only [List.map_toArray, List.map_cons, List.map_nil]); first | done | rfl | (simp only [List.length_drop, List.length_take]; rfl)) ?_
        with_reducible refine (word_And.calls t339 t340 a4_0 a4_1 t343 t344 _ A30.out).mono ?_
        rintro e w34 ⟨rfl, hb⟩
        refine ⟨_, rfl, ?_⟩
        have n0_ := Aside0.mk (blk_below (bkA BK333.out) hb); have n1_ := Aside0.mk (blk_below (bkA BK334.out) hb); have n2_ := Aside0.mk (blk_below (bkA BK342.out) hb)
        have n3_ := Aside0.mk (below_step (by repeat (first | (with_reducible first | exact HB.out | apply below_alloc | apply pw_below_drewN | apply below_drew1 | refine below_set ?_ GE333.out | refine below_set ?_ GE334.out | refine below_set ?_ GE342.out) | exact HB.out)) hb)
        clear BK333; clear BK334; clear BK342; clear HB; have BK333 := n0_; have BK334 := n1_; have BK342 := n2_; have HB := n3_; clear n0_ n1_ n2_ n3_; (try clear hb); (try clear hb2); (try clear hk); (try clear hi)
        refine hK.out _ _ ⟨(blk_cell BK342.out 0).trans rfl, (blk_cell BK342.out 1).trans rfl, (blk_cell BK334.out 0).trans rfl, (blk_cell BK334.out 1).trans rfl⟩ (fun hHeld => ?_)
        clear hK K
        refine norm_ (a' := ?_) ?_ ?_
        rotate_left
        ·
         show Act.put _ (some 67) _ = _
         simp only [Act.put, List.setIfInBounds_toArray, List.set_cons_zero, List.set_cons_succ, i64_w, i32_w]
         rfl
        refine one_ (i := 7) (N := some 69) #[T,T,T,T,T,T,T,T,F,F,F,F,F] rfl rfl (one_of HT_.out (by kernel_rfl)) (by decide) (fun K hK => ?_)
        refine goes_ Try.func23 (by kernel_rfl) rfl #[.string a0, .int .i64 a1, .int .i64 a2, .agg #[.int .u64 t343, .int .u64 t344], .agg #[.int .u64 a4_0, .int .u64 a4_1]] (by rfl) rfl rfl (by (try simp only [List.map_toArray, List.map_cons, List.map_nil]); first | done | rfl | (simp only [List.length_drop, List.length_take]; rfl)) ?_
        with_reducible refine (field_Match.calls kj16 a0 a1 a2 t343 t344 a4_0 a4_1 t345 t346 _ A31.out).mono ?_
        rintro e w35 ⟨rfl, hb⟩
        refine ⟨_, rfl, ?_⟩
        have n0_ := Aside0.mk (blk_below (bkA BK333.out) hb); have n1_ := Aside0.mk (blk_below (bkA BK334.out) hb); have n2_ := Aside0.mk (blk_below (bkA BK342.out) hb)
        have n3_ := Aside0.mk (below_step (by repeat (first | (with_reducible first | exact HB.out | apply below_alloc | apply pw_below_drewN | apply below_drew1 | refine below_set ?_ GE333.out | refine below_set ?_ GE334.out | refine below_set ?_ GE342.out) | exact HB.out)) hb)
        clear BK333; clear BK334; clear BK342; clear HB; have BK333 := n0_; have BK334 := n1_; have BK342 := n2_; have HB := n3_; clear n0_ n1_ n2_ n3_; (try clear hb); (try clear hb2); (try clear hk); (try clear hi)
        refine hK.out _ _ ⟨(blk_cell BK342.out 0).trans rfl, (blk_cell BK342.out 1).trans rfl, (blk_cell BK334.out 0).trans rfl, (blk_cell BK334.out 1).trans rfl⟩ (fun hHeld => ?_)
        clear hK K
        refine norm_ (a' := ?_) ?_ ?_
        rotate_left
        ·
         show Act.put _ (some 69) _ = _
         simp only [Act.put, List.setIfInBounds_toArray, List.set_cons_zero, List.set_cons_succ, i64_w, i32_w]
         rfl
        refine pure_ (i := 8) (N := some 61) (v := ?_) (a' := ?_) #[T,T,T,T,T,T,T,T,T,F,F,F,F] rfl rfl (any_of HT_.out (by kernel_rfl)) (fun _ _ _ h => h) (Or.inl ⟨by rfl, ?_⟩) ?_ ?_
        rotate_left
        ·
         intro w'
         go_simp
         with_reducible rfl
        rotate_left
        ·
         simp only [Act.put, List.setIfInBounds_toArray, List.set_cons_zero, List.set_cons_succ, i64_w, i32_w]
         rfl
        refine pure_ (i := 9) (N := some 70) (v := ?_) (a' := ?_) #[T,T,T,T,T,T,T,T,T,T,F,F,F] rfl rfl (any_of HT_.out (by kernel_rfl)) (fun _ _ _ h => h) (Or.inl ⟨by rfl, ?_⟩) ?_ ?_
        rotate_left
        ·
         intro w'
         go_simp
         with_reducible rfl
        rotate_left
        ·
         simp only [Act.put, List.setIfInBounds_toArray, List.set_cons_zero, List.set_cons_succ, i64_w, i32_w]
         rfl
        refine pure_ (i := 10) (N := some 71) (v := ?_) (a' := ?_) #[T,T,T,T,T,T,T,T,T,T,T,F,F] rfl rfl (any_of HT_.out (by kernel_rfl)) (fun _ _ _ h => h) (Or.inl ⟨by rfl, ?_⟩) ?_ ?_
        rotate_left
        ·
         intro w'
         go_simp
         with_reducible rfl
        rotate_left
        ·
         simp only [Act.put, List.setIfInBounds_toArray, List.set_cons_zero, List.set_cons_succ, i64_w, i32_w]
         rfl
        refine pure_ (i := 11) (N := some 15) (v := ?_) (a' := ?_) #[T,T,T,T,T,T,T,T,T,T,T,T,F] rfl rfl (any_of HT_.out (by kernel_rfl)) (fun _ _ _ h => h) (Or.inl ⟨by rfl, ?_⟩) ?_ ?_
        rotate_left
        ·
         intro w'
         go_simp
         with_reducible rfl
        rotate_left
        ·
         simp only [Act.put, List.setIfInBounds_toArray, List.set_cons_zero, List.set_cons_succ, i64_w, i32_w]
         rfl
        refine pure_ (i := 12) (N := some 16) (v := ?_) (a' := ?_) #[T,T,T,T,T,T,T,T,T,T,T,T,T] rfl rfl (any_of HT_.out (by kernel_rfl)) (fun _ _ _ h => h) (Or.inl ⟨by rfl, ?_⟩) ?_ ?_
        rotate_left
        ·
         intro w'
         go_simp
         with_reducible rfl
        rotate_left
        ·
         simp only [Act.put, List.setIfInBounds_toArray, List.set_cons_zero, List.set_cons_succ, i64_w, i32_w]
         rfl
        refine done_ (done_of HT_.out (by kernel_rfl)) ?_
        go_upto_region 8 with (fail)
        go_cut [86] (fun v86 wc => ∃ (kq : Nat) (x86_31 : Bool), v86 = .bool x86_31 ∧ Aside0 (turnoutlaw02_FieldMatches.j2 kq a0 a1 a2 x86_31 t339 t340 = some r) ∧ Aside0 (kq ≤ kj16) ∧ Aside0 (wc.heap[gb333]? = some (.cells #[.int .u64 a3_0, .int .u64 a3_1] 25 (0, 0))) ∧ Aside0 (wc.heap[gb334]? = some (.cells #[.int .u64 a4_0, .int .u64 a4_1] 25 (0, 0))) ∧ Aside0 (wc.heap[gb342]? = some (.cells #[.int .u64 t339, .int .u64 t340] 25 (0, 0))) ∧ Aside0 (Below w.heap.size w wc))
        case first =>
         have H := HC32.out
         clear HC32
         by_cases c36 : t346 = 0
         ·
          rw [if_pos c36] at H
          have c36b0 : (t346 == 0) = true := beq_iff_eq.mpr c36
          have c36b1 : (t346 != 0) = false := bne_eq_false_iff_eq.mpr c36
          clear c36
          (first | rw [c36b0] | (simp only [i64_w, i32_w]; rw [c36b0]) | skip)
          by_cases c37 : t345 = true
          ·
           subst c37
           have H1 : ((word_And.f t339 t340 a4_0 a4_1).bind fun bt347 => (turnoutlaw02_FieldMatches.j2 kj16 a0 a1 a2 (t337 != (a3_0 == bt347.1 && (a3_1 == bt347.2))) t339 t340)) = some r := by rw [if_pos rfl] at H; exact H
           clear H; have H := H1; clear H1
           replace H := Option.bind_eq_some_iff.mp H
           obtain ⟨⟨t347, t348⟩, A380, H⟩ := H
           replace H : (turnoutlaw02_FieldMatches.j2 kj16 a0 a1 a2 (t337 != (a3_0 == t347 && (a3_1 == t348))) t339 t340) = some r := H
           have A38 := Aside0.mk A380
           clear A380
           have H' := Aside0.mk H
           clear H
           try go_wp2
           replace BK333 := Aside0.mk (blk_drew BK333.out); replace BK334 := Aside0.mk (blk_drew BK334.out); replace BK342 := Aside0.mk (blk_drew BK342.out); replace HB := Aside0.mk (below_drew1 HB.out)
           refine start_ (n := 15) (S := fun w' => w'.cell? ⟨gb333, 0, none⟩ = some (.int .u64 a3_0) ∧ w'.cell? ⟨gb333, 1, none⟩ = some (.int .u64 a3_1) ∧ w'.cell? ⟨gb342, 0, none⟩ = some (.int .u64 t339) ∧ w'.cell? ⟨gb342, 1, none⟩ = some (.int .u64 t340) ∧ w'.cell? ⟨gb334, 0, none⟩ = some (.int .u64 a4_0) ∧ w'.cell? ⟨gb334, 1, none⟩ = some (.int .u64 a4_1)) (ds := []) #[F,F,F,F,F,F,F,F,F,F,F,F,F,F,F] (by kernel_rfl) rfl rfl ⟨(blk_cell BK333.out 0).trans rfl, (blk_cell BK333.out 1).trans rfl, (blk_cell BK342.out 0).trans rfl, (blk_cell BK342.out 1).trans rfl, (blk_cell BK334.out 0).trans rfl, (blk_cell BK334.out 1).trans rfl⟩ (fun hHeld => ?_); refine with_tabW turnoutlaw02_FieldMatches.tab8 turnoutlaw02_FieldMatches.bits8 (fun HT_ HW_ => ?_)
           generalize w35.drew = w39 at BK333 BK334 BK342 HB hHeld ⊢
           refine pure_ (i := 0) (N := some 72) (v := ?_) (a' := ?_) #[T,F,F,F,F,F,F,F,F,F,F,F,F,F,F] rfl rfl (any_of HT_.out (by kernel_rfl)) (fun _ _ _ h => h) (Or.inl ⟨by rfl, ?_⟩) ?_ ?_
           rotate_left
           ·
            intro w'
            go_simp
            with_reducible rfl
           rotate_left
           ·
            simp only [Act.put, List.setIfInBounds_toArray, List.set_cons_zero, List.set_cons_succ, i64_w, i32_w]
            rfl
           refine pure_ (i := 1) (N := some 73) (v := ?_) (a' := ?_) #[T,T,F,F,F,F,F,F,F,F,F,F,F,F,F] rfl rfl (any_of HT_.out (by kernel_rfl)) (fun _ _ _ h => h) (Or.inl ⟨by rfl, ?_⟩) ?_ ?_
           rotate_left
           ·
            intro w'
            go_simp
            with_reducible rfl
           rotate_left
           ·
            simp only [Act.put, List.setIfInBounds_toArray, List.set_cons_zero, List.set_cons_succ, i64_w, i32_w]
            rfl
           refine pure_ (i := 2) (N := some 74) (v := ?_) (a' := ?_) #[T,T,T,F,F,F,F,F,F,F,F,F,F,F,F] rfl rfl (any_of HT_.out (by kernel_rfl)) (fun _ _ _ h => h) (Or.inl ⟨by rfl, ?_⟩) ?_ ?_
           rotate_left
           ·
            intro w'
            go_simp
            with_reducible rfl
           rotate_left
           ·
            simp only [Act.put, List.setIfInBounds_toArray, List.set_cons_zero, List.set_cons_succ, i64_w, i32_w]
            rfl
           refine pure_ (i := 3) (N := some 75) (v := ?_) (a' := ?_) #[T,T,T,T,F,F,F,F,F,F,F,F,F,F,F] rfl rfl (any_of HT_.out (by kernel_rfl)) (fun _ _ _ h => h) (Or.inl ⟨by rfl, ?_⟩) ?_ ?_
           rotate_left
           ·
            intro w'
            go_simp
            with_reducible rfl
           rotate_left
           ·
            simp only [Act.put, List.setIfInBounds_toArray, List.set_cons_zero, List.set_cons_succ, i64_w, i32_w]
            rfl
           refine pure_ (i := 4) (N := some 76) (v := ?_) (a' := ?_) #[T,T,T,T,T,F,F,F,F,F,F,F,F,F,F] rfl rfl (any_of HT_.out (by kernel_rfl)) (fun _ _ _ h => h) (Or.inl ⟨by rfl, ?_⟩) ?_ ?_
           rotate_left
           ·
            intro w'
            go_simp
            with_reducible rfl
           rotate_left
           ·
            simp only [Act.put, List.setIfInBounds_toArray, List.set_cons_zero, List.set_cons_succ, i64_w, i32_w]
            rfl
           refine pure_ (i := 5) (N := some 77) (v := ?_) (a' := ?_) #[T,T,T,T,T,T,F,F,F,F,F,F,F,F,F] rfl rfl (any_of HT_.out (by kernel_rfl)) (fun _ _ _ h => h) (Or.inl ⟨by rfl, ?_⟩) ?_ ?_
           rotate_left
           ·
            intro w'
            go_simp
            with_reducible rfl
           rotate_left
           ·
            simp only [Act.put, List.setIfInBounds_toArray, List.set_cons_zero, List.set_cons_succ, i64_w, i32_w]
            rfl
           refine pure_ (i := 6) (N := some 78) (v := ?_) (a' := ?_) #[T,T,T,T,T,T,T,F,F,F,F,F,F,F,F] rfl rfl (any_of HT_.out (by kernel_rfl)) (fun _ _ _ h => h) (Or.inl ⟨by rfl, ?_⟩) ?_ ?_
           rotate_left
           ·
            intro w'
            go_simp
            with_reducible rfl
           rotate_left
           ·
            simp only [Act.put, List.setIfInBounds_toArray, List.set_cons_zero, List.set_cons_succ, i64_w, i32_w]
            rfl
           refine pure_ (i := 7) (N := some 79) (v := ?_) (a' := ?_) #[T,T,T,T,T,T,T,T,F,F,F,F,F,F,F] rfl rfl (any_of HT_.out (by kernel_rfl)) (fun _ _ _ h => h) (Or.inl ⟨by rfl, ?_⟩) ?_ ?_
           rotate_left
           ·
            intro w'
            go_simp
            with_reducible rfl
           rotate_left
           ·
            simp only [Act.put, List.setIfInBounds_toArray, List.set_cons_zero, List.set_cons_succ, i64_w, i32_w]
            rfl
           refine take_ (i := 8) (N := some 80) (v := ?_) (a' := ?_) #[T,T,T,T,T,T,T,T,T,F,F,F,F,F,F] rfl rfl (take_ofW HT_.out HW_.out (by kernel_rfl)) (fun _ _ _ h => h) (Or.inl ⟨by rfl, ?_⟩) hHeld ?_ ?_
           rotate_left
           ·
            rintro w' ⟨s0, s1, s2, s3, s4, s5⟩
            go_simp
            with_reducible rfl
           rotate_left
           ·
            simp only [Act.put, List.setIfInBounds_toArray, List.set_cons_zero, List.set_cons_succ, i64_w, i32_w]
            rfl
           refine take_ (i := 9) (N := some 81) (v := ?_) (a' := ?_) #[T,T,T,T,T,T,T,T,T,T,F,F,F,F,F] rfl rfl (take_ofW HT_.out HW_.out (by kernel_rfl)) (fun _ _ _ h => h) (Or.inl ⟨by rfl, ?_⟩) hHeld ?_ ?_
           rotate_left
           ·
            rintro w' ⟨s0, s1, s2, s3, s4, s5⟩
            go_simp
            with_reducible rfl
           rotate_left
           ·
            simp only [Act.put, List.setIfInBounds_toArray, List.set_cons_zero, List.set_cons_succ, i64_w, i32_w]
            rfl
           refine take_ (i := 10) (N := some 82) (v := ?_) (a' := ?_) #[T,T,T,T,T,T,T,T,T,T,T,F,F,F,F] rfl rfl (take_ofW HT_.out HW_.out (by kernel_rfl)) (fun _ _ _ h => h) (Or.inl ⟨by rfl, ?_⟩) hHeld ?_ ?_
           rotate_left
           ·
            rintro w' ⟨s0, s1, s2, s3, s4, s5⟩
            go_simp
            with_reducible rfl
           rotate_left
           ·
            simp only [Act.put, List.setIfInBounds_toArray, List.set_cons_zero, List.set_cons_succ, i64_w, i32_w]
            rfl
           refine one_ (i := 11) (N := some 83) #[T,T,T,T,T,T,T,T,T,T,T,T,F,F,F] rfl rfl (one_of HT_.out (by kernel_rfl)) (by decide) (fun K hK => ?_)
           refine goes_ Try.func29 (by kernel_rfl) rfl #[.agg #[.int .u64 t339, .int .u64 t340], .agg #[.int .u64 a4_0, .int .u64 a4_1]] (by rfl) rfl rfl (by (try simp only [List.map_toArray, List.map_cons, List.map_nil]); first | done | rfl | (simp only [List.length_drop, List.length_take]; rfl)) ?_
           with_reducible refine (word_And.calls t339 t340 a4_0 a4_1 t347 t348 _ A38.out).mono ?_
           rintro e w40 ⟨rfl, hb⟩
           refine ⟨_, rfl, ?_⟩
           have n0_ := Aside0.mk (blk_below (bkA BK333.out) hb); have n1_ := Aside0.mk (blk_below (bkA BK334.out) hb); have n2_ := Aside0.mk (blk_below (bkA BK342.out) hb)
           have n3_ := Aside0.mk (below_step (by repeat (first | (with_reducible first | exact HB.out | apply below_alloc | apply pw_below_drewN | apply below_drew1 | refine below_set ?_ GE333.out | refine below_set ?_ GE334.out | refine below_set ?_ GE342.out) | exact HB.out)) hb)
           clear BK333; clear BK334; clear BK342; clear HB; have BK333 := n0_; have BK334 := n1_; have BK342 := n2_; have HB := n3_; clear n0_ n1_ n2_ n3_; (try clear hb); (try clear hb2); (try clear hk); (try clear hi)
           refine hK.out _ _ ⟨(blk_cell BK333.out 0).trans rfl, (blk_cell BK333.out 1).trans rfl, (blk_cell BK342.out 0).trans rfl, (blk_cell BK342.out 1).trans rfl, (blk_cell BK334.out 0).trans rfl, (blk_cell BK334.out 1).trans rfl⟩ (fun hHeld => ?_)
           clear hK K
           refine norm_ (a' := ?_) ?_ ?_
           rotate_left
           ·
            show Act.put _ (some 83) _ = _
            simp only [Act.put, List.setIfInBounds_toArray, List.set_cons_zero, List.set_cons_succ, i64_w, i32_w]
            rfl
           refine pure_ (i := 12) (N := some 84) (v := ?_) (a' := ?_) #[T,T,T,T,T,T,T,T,T,T,T,T,T,F,F] rfl rfl (any_of HT_.out (by kernel_rfl)) (fun _ _ _ h => h) (Or.inl ⟨by rfl, ?_⟩) ?_ ?_
           rotate_left
           ·
            intro w'
            go_simp
            with_reducible rfl
           rotate_left
           ·
            simp only [Act.put, List.setIfInBounds_toArray, List.set_cons_zero, List.set_cons_succ, i64_w, i32_w]
            rfl
           refine pure_ (i := 13) (N := some 85) (v := ?_) (a' := ?_) #[T,T,T,T,T,T,T,T,T,T,T,T,T,T,F] rfl rfl (any_of HT_.out (by kernel_rfl)) (fun _ _ _ h => h) (Or.inl ⟨by rfl, ?_⟩) ?_ ?_
           rotate_left
           ·
            intro w'
            go_simp
            with_reducible rfl
           rotate_left
           ·
            simp only [Act.put, List.setIfInBounds_toArray, List.set_cons_zero, List.set_cons_succ, i64_w, i32_w]
            rfl
           refine pure_ (i := 14) (N := some 86) (v := ?_) (a' := ?_) #[T,T,T,T,T,T,T,T,T,T,T,T,T,T,T] rfl rfl (any_of HT_.out (by kernel_rfl)) (fun _ _ _ h => h) (Or.inl ⟨by rfl, ?_⟩) ?_ ?_
           rotate_left
           ·
            intro w'
            go_simp
            with_reducible rfl
           rotate_left
           ·
            simp only [Act.put, List.setIfInBounds_toArray, List.set_cons_zero, List.set_cons_succ, i64_w, i32_w]
            rfl
           refine done_ (done_of HT_.out (by kernel_rfl)) ?_
           try go_wp2
           go_meet
           case rel => exact ⟨_, ((t337 != (a3_0 == t347 && (a3_1 == t348)))), (by first | rfl | (simp; done) | (simp [*]; done)), H', ⟨by have := HJ5.out; have := HJ16.out; first | omega | exact Nat.le_refl _⟩, ⟨by (with_reducible repeat (first | refine blk_drewN ?_ _ | refine blk_drew ?_ | refine blk_alloc ?_ _)); exact BK333.out⟩, ⟨by (with_reducible repeat (first | refine blk_drewN ?_ _ | refine blk_drew ?_ | refine blk_alloc ?_ _)); exact BK334.out⟩, ⟨by (with_reducible repeat (first | refine blk_drewN ?_ _ | refine blk_drew ?_ | refine blk_alloc ?_ _)); exact BK342.out⟩, ⟨by repeat (first | (with_reducible first | exact HB.out | apply below_alloc | apply pw_below_drewN | apply below_drew1 | refine below_set ?_ GE333.out | refine below_set ?_ GE334.out | refine below_set ?_ GE342.out) | exact HB.out)⟩⟩
          ·
           replace c37 := Bool.eq_false_iff.mpr c37
           subst c37
           have H1 : (turnoutlaw02_FieldMatches.j2 kj16 a0 a1 a2 true t339 t340) = some r := by rw [if_neg (show ¬ (false = true) by decide)] at H; exact H
           clear H; have H := H1; clear H1
           exact absurd hr_.out (by cases kj16 with | zero => simp [turnoutlaw02_FieldMatches.j2] at H | succ _ => simp only [turnoutlaw02_FieldMatches.j2] at H; (first | rw [if_pos rfl] at H | rw [if_pos trivial] at H); rw [← Option.some.inj H]; decide)
         ·
          rw [if_neg c36] at H
          have c36b0 : (t346 == 0) = false := beq_eq_false_iff_ne.mpr c36
          have c36b1 : (t346 != 0) = true := bne_iff_ne.mpr c36
          (first | rw [c36b0] | (simp only [i64_w, i32_w]; rw [c36b0]) | skip)
          exact absurd hr_.out (by cases kj16 with | zero => simp [turnoutlaw02_FieldMatches.j2] at H | succ _ => simp only [turnoutlaw02_FieldMatches.j2] at H; (first | rw [if_pos rfl] at H | rw [if_pos trivial] at H); rw [← Option.some.inj H]; decide)
        case rest =>
         clear HC32
         try clear c1
         try clear c2
         try clear p2
         try clear c3
         try clear c9
         try clear c9b0
         try clear c9b1
         try clear c10
         try clear c12
         try clear c13
         try clear c18
         try clear c23
         try clear c24
         try clear c25
         try clear c27
         try clear c27b0
         try clear c27b1
         try clear c28
         try clear c29
         try clear c29b0
         try clear c29b1
         try clear c36
         try clear c36b0
         try clear c36b1
         try clear c37
         try clear hcz19_0
         try clear hcz19_1
         try clear hcz20_0
         try clear hcz20_1
         try clear hcz26_0
         try clear hcz26_1
         try clear hfz19_0
         try clear hfz19_1
         try clear hfz20_0
         try clear hfz20_1
         try clear hfz26_0
         try clear hfz26_1
         try clear p2
         obtain ⟨kq, x86_31, rfl, HA, HJ31, BK333, BK334, BK342, HB⟩ := hcut
         cases kq with
         | zero => exact absurd HA.out (by simp [turnoutlaw02_FieldMatches.j2])
         | succ kj31 =>
          have H := HA.out
          clear HA
          simp only [turnoutlaw02_FieldMatches.j2] at H
          by_cases c41 : x86_31 = true
          ·
           subst c41
           have H1 : (some false) = some r := by rw [if_pos rfl] at H; exact H
           clear H; have H := H1; clear H1
           exact absurd ((Option.some.inj H).trans hr_.out) (by decide)
          ·
           replace c41 := Bool.eq_false_iff.mpr c41
           subst c41
           have H1 : (turnoutlaw02_FieldMatches.l0 kj31 a0 a1 a2 0 t339 t340) = some r := by rw [if_neg (show ¬ (false = true) by decide)] at H; exact H
           clear H; have H := H1; clear H1
           have H' := Aside0.mk H
           clear H
           go_wp2
           go_loopg [17] kj31 (fun kq v17 w' => ∃ (x17_4 : Int), v17 = .int .i64 x17_4 ∧ Aside0 (turnoutlaw02_FieldMatches.l0 kq a0 a1 a2 x17_4 t339 t340 = some r) ∧ Aside0 (kq ≤ kj31) ∧ Aside0 (w'.heap[gb333]? = some (.cells #[.int .u64 a3_0, .int .u64 a3_1] 25 (0, 0))) ∧ Aside0 (w'.heap[gb334]? = some (.cells #[.int .u64 a4_0, .int .u64 a4_1] 25 (0, 0))) ∧ Aside0 (w'.heap[gb342]? = some (.cells #[.int .u64 t339, .int .u64 t340] 25 (0, 0))) ∧ Aside0 (Below w.heap.size w w'))
           case atStart => exact ⟨(0), (by first | rfl | (simp; done) | (simp [*]; done)), H', ⟨Nat.le_refl _⟩, ⟨by (with_reducible repeat (first | refine blk_drewN ?_ _ | refine blk_drew ?_ | refine blk_alloc ?_ _)); exact BK333.out⟩, ⟨by (with_reducible repeat (first | refine blk_drewN ?_ _ | refine blk_drew ?_ | refine blk_alloc ?_ _)); exact BK334.out⟩, ⟨by (with_reducible repeat (first | refine blk_drewN ?_ _ | refine blk_drew ?_ | refine blk_alloc ?_ _)); exact BK342.out⟩, ⟨by repeat (first | (with_reducible first | exact HB.out | apply below_alloc | apply pw_below_drewN | apply below_drew1 | refine below_set ?_ GE333.out | refine below_set ?_ GE334.out | refine below_set ?_ GE342.out) | exact HB.out)⟩⟩
           case round =>
            clear H'
            try clear c1
            try clear c2
            try clear p2
            try clear c3
            try clear c4
            try clear c9
            try clear c9b0
            try clear c9b1
            try clear c10
            try clear c12
            try clear c13
            try clear c18
            try clear c23
            try clear c24
            try clear c25
            try clear c27
            try clear c27b0
            try clear c27b1
            try clear c28
            try clear c29
            try clear c29b0
            try clear c29b1
            try clear c36
            try clear c36b0
            try clear c36b1
            try clear c37
            try clear c41
            try clear hcz19_0
            try clear hcz19_1
            try clear hcz20_0
            try clear hcz20_1
            try clear hcz26_0
            try clear hcz26_1
            try clear hfz19_0
            try clear hfz19_1
            try clear hfz20_0
            try clear hfz20_1
            try clear hfz26_0
            try clear hfz26_1
            try clear p2
            obtain ⟨x17_4, rfl, HA, HK4, BK333, BK334, BK342, HB⟩ := hrel
            cases gk with
            | zero => exact absurd HA.out (by simp [turnoutlaw02_FieldMatches.l0])
            | succ k4 =>
             have H := HA.out
             clear HA
             simp only [turnoutlaw02_FieldMatches.l0] at H
             by_cases c42 : x17_4 < a2
             ·
              rw [if_pos c42] at H
              have c42b0 : decide (x17_4 < a2) = true := decide_eq_true c42
              clear c42
              replace H := Option.bind_eq_some_iff.mp H
              obtain ⟨⟨t349, t350⟩, A430, H⟩ := H
              replace H : ((word_Left.f t349 t350 x17_4).bind fun bt351 => ((word_And.f t339 t340 bt351.1 bt351.2).bind fun bt354 => ((field_Match.f k4 a0 a1 a2 bt354.1 bt354.2 bt351.1 bt351.2).bind fun bt356 => ((word_And.f t339 t340 bt351.1 bt351.2).bind fun bt358 => ((word_Xor.f bt358.1 bt358.2 bt351.1 bt351.2).bind fun bt360 => ((field_Match.f k4 a0 a1 a2 bt360.1 bt360.2 bt351.1 bt351.2).bind fun bt362 => (if bt356.1 = true then (if bt362.1 = true then (some false) else (turnoutlaw02_FieldMatches.l0 k4 a0 a1 a2 (wrap64 (x17_4 + 1)) t339 t340)) else (some false)))))))) = some r := H
              have A43 := Aside0.mk A430
              clear A430
              replace H := Option.bind_eq_some_iff.mp H
              obtain ⟨⟨t351, t352⟩, A440, H⟩ := H
              replace H : ((word_And.f t339 t340 t351 t352).bind fun bt354 => ((field_Match.f k4 a0 a1 a2 bt354.1 bt354.2 t351 t352).bind fun bt356 => ((word_And.f t339 t340 t351 t352).bind fun bt358 => ((word_Xor.f bt358.1 bt358.2 t351 t352).bind fun bt360 => ((field_Match.f k4 a0 a1 a2 bt360.1 bt360.2 t351 t352).bind fun bt362 => (if bt356.1 = true then (if bt362.1 = true then (some false) else (turnoutlaw02_FieldMatches.l0 k4 a0 a1 a2 (wrap64 (x17_4 + 1)) t339 t340)) else (some false))))))) = some r := H
              have A44 := Aside0.mk A440
              clear A440
              replace H := Option.bind_eq_some_iff.mp H
              obtain ⟨⟨t354, t355⟩, A450, H⟩ := H
              replace H : ((field_Match.f k4 a0 a1 a2 t354 t355 t351 t352).bind fun bt356 => ((word_And.f t339 t340 t351 t352).bind fun bt358 => ((word_Xor.f bt358.1 bt358.2 t351 t352).bind fun bt360 => ((field_Match.f k4 a0 a1 a2 bt360.1 bt360.2 t351 t352).bind fun bt362 => (if bt356.1 = true then (if bt362.1 = true then (some false) else (turnoutlaw02_FieldMatches.l0 k4 a0 a1 a2 (wrap64 (x17_4 + 1)) t339 t340)) else (some false)))))) = some r := H
              have A45 := Aside0.mk A450
              clear A450
              replace H := Option.bind_eq_some_iff.mp H
              obtain ⟨⟨t356, t357⟩, A460, H⟩ := H
              replace H : ((word_And.f t339 t340 t351 t352).bind fun bt358 => ((word_Xor.f bt358.1 bt358.2 t351 t352).bind fun bt360 => ((field_Match.f k4 a0 a1 a2 bt360.1 bt360.2 t351 t352).bind fun bt362 => (if t356 = true then (if bt362.1 = true then (some false) else (turnoutlaw02_FieldMatches.l0 k4 a0 a1 a2 (wrap64 (x17_4 + 1)) t339 t340)) else (some false))))) = some r := H
              have A46 := Aside0.mk A460
              clear A460
              replace H := Option.bind_eq_some_iff.mp H
              obtain ⟨⟨t358, t359⟩, A470, H⟩ := H
              replace H : ((word_Xor.f t358 t359 t351 t352).bind fun bt360 => ((field_Match.f k4 a0 a1 a2 bt360.1 bt360.2 t351 t352).bind fun bt362 => (if t356 = true then (if bt362.1 = true then (some false) else (turnoutlaw02_FieldMatches.l0 k4 a0 a1 a2 (wrap64 (x17_4 + 1)) t339 t340)) else (some false)))) = some r := H
              have hsame_ := Option.some.inj (A45.out.symm.trans A470)
              simp only [Prod.mk.injEq] at hsame_
              obtain ⟨rfl, rfl⟩ := hsame_
              clear A470
              replace H := Option.bind_eq_some_iff.mp H
              obtain ⟨⟨t360, t361⟩, A480, H⟩ := H
              replace H : ((field_Match.f k4 a0 a1 a2 t360 t361 t351 t352).bind fun bt362 => (if t356 = true then (if bt362.1 = true then (some false) else (turnoutlaw02_FieldMatches.l0 k4 a0 a1 a2 (wrap64 (x17_4 + 1)) t339 t340)) else (some false))) = some r := H
              have A48 := Aside0.mk A480
              clear A480
              replace H := Option.bind_eq_some_iff.mp H
              obtain ⟨⟨t362, t363⟩, A490, H⟩ := H
              replace H : (if t356 = true then (if t362 = true then (some false) else (turnoutlaw02_FieldMatches.l0 k4 a0 a1 a2 (wrap64 (x17_4 + 1)) t339 t340)) else (some false)) = some r := H
              have A49 := Aside0.mk A490
              clear A490
              by_cases c50 : t356 = true
              ·
               subst c50
               have H1 : (if t362 = true then (some false) else (turnoutlaw02_FieldMatches.l0 k4 a0 a1 a2 (wrap64 (x17_4 + 1)) t339 t340)) = some r := by rw [if_pos rfl] at H; exact H
               clear H; have H := H1; clear H1
               by_cases c51 : t362 = true
               ·
                subst c51
                have H1 : (some false) = some r := by rw [if_pos rfl] at H; exact H
                clear H; have H := H1; clear H1
                exact absurd ((Option.some.inj H).trans hr_.out) (by decide)
               ·
                replace c51 := Bool.eq_false_iff.mpr c51
                subst c51
                have H1 : (turnoutlaw02_FieldMatches.l0 k4 a0 a1 a2 (wrap64 (x17_4 + 1)) t339 t340) = some r := by rw [if_neg (show ¬ (false = true) by decide)] at H; exact H
                clear H; have H := H1; clear H1
                have H' := Aside0.mk H
                clear H
                try go_wp2_with (first | ((with_reducible refine gate_callee (f := 28) rfl ?_); refine goesL_ (some 92) rfl rfl Try.func28 (by kernel_rfl) rfl #[.int .u64 1] rfl (by (try simp only [List.map_toArray, List.map_cons, List.map_nil]); first | done | rfl | (simp only [List.length_drop, List.length_take]; rfl)) ?_; (with_reducible refine (turnoutlaw02_low.calls 1 t349 t350 _ A43.out).mono ?_); rintro e w52 ⟨rfl, hb⟩; refine ⟨_, rfl, ?_⟩; replace BK333 := Aside0.mk (blk_below (bkA BK333.out) hb); replace BK334 := Aside0.mk (blk_below (bkA BK334.out) hb); replace BK342 := Aside0.mk (blk_below (bkA BK342.out) hb); replace HB := Aside0.mk (below_step (by repeat (first | (with_reducible first | exact HB.out | apply below_alloc | apply pw_below_drewN | apply below_drew1 | refine below_set ?_ GE333.out | refine below_set ?_ GE334.out | refine below_set ?_ GE342.out) | exact HB.out)) hb); (try clear hb); (try clear hb2); (try clear hk); (try clear hi)) | ((with_reducible refine gate_callee (f := 19) rfl ?_); refine goesL_ (some 94) rfl rfl Try.func19 (by kernel_rfl) rfl #[.agg #[.int .u64 t349, .int .u64 t350], .int .i64 x17_4] rfl (by (try simp only [List.map_toArray, List.map_cons, List.map_nil]); first | done | rfl | (simp only [List.length_drop, List.length_take]; rfl)) ?_; (with_reducible refine (word_Left.calls t349 t350 x17_4 t351 t352 _ A44.out).mono ?_); rintro e w53 ⟨rfl, hb⟩; refine ⟨_, rfl, ?_⟩; replace BK333 := Aside0.mk (blk_below (bkA BK333.out) hb); replace BK334 := Aside0.mk (blk_below (bkA BK334.out) hb); replace BK342 := Aside0.mk (blk_below (bkA BK342.out) hb); replace HB := Aside0.mk (below_step (by repeat (first | (with_reducible first | exact HB.out | apply below_alloc | apply pw_below_drewN | apply below_drew1 | refine below_set ?_ GE333.out | refine below_set ?_ GE334.out | refine below_set ?_ GE342.out) | exact HB.out)) hb); (try clear hb); (try clear hb2); (try clear hk); (try clear hi)) | ((with_reducible refine gate_dst (N := 18) rfl ?_); refine box_event ?hg (N := 18) ?hd (cs := #[.int .u64 0, .int .u64 0]) (t := 25) ?hr ?_; (case hd => rfl); (case hg => rfl); (case hr => first | (go_simp; done) | (go_simp; rfl)); intro gb353 hg w54 hbox hb; have BK353 := Aside0.mk (hbox); have GW353 := Aside0.mk ((by rw [hg]; exact (below_size (by repeat (first | (with_reducible first | exact HB.out | apply below_alloc | apply pw_below_drewN | apply below_drew1 | refine below_set ?_ GE333.out | refine below_set ?_ GE334.out | refine below_set ?_ GE342.out) | exact HB.out))) : w.heap.size ≤ gb353)); have GE353 := Aside0.mk ((by rw [hg]; exact (below_size (by repeat (first | (with_reducible first | exact HB.out | apply below_alloc | apply pw_below_drewN | apply below_drew1 | refine below_set ?_ GE333.out | refine below_set ?_ GE334.out | refine below_set ?_ GE342.out) | exact HB.out))) : w.heap.size ≤ gb353)); replace HB := Aside0.mk (below_step (by repeat (first | (with_reducible first | exact HB.out | apply below_alloc | apply pw_below_drewN | apply below_drew1 | refine below_set ?_ GE333.out | refine below_set ?_ GE334.out | refine below_set ?_ GE342.out) | exact HB.out)) hb); have NB333_353 := Aside0.mk ((by rw [hg]; exact Nat.ne_of_lt (blk_lt (bkA BK333.out)) : gb333 ≠ gb353)); have NB353_333 := Aside0.mk ((by rw [hg]; exact Nat.ne_of_gt (blk_lt (bkA BK333.out)) : gb353 ≠ gb333)); replace BK333 := Aside0.mk (blk_below (bkA BK333.out) hb); have NB334_353 := Aside0.mk ((by rw [hg]; exact Nat.ne_of_lt (blk_lt (bkA BK334.out)) : gb334 ≠ gb353)); have NB353_334 := Aside0.mk ((by rw [hg]; exact Nat.ne_of_gt (blk_lt (bkA BK334.out)) : gb353 ≠ gb334)); replace BK334 := Aside0.mk (blk_below (bkA BK334.out) hb); have NB342_353 := Aside0.mk ((by rw [hg]; exact Nat.ne_of_lt (blk_lt (bkA BK342.out)) : gb342 ≠ gb353)); have NB353_342 := Aside0.mk ((by rw [hg]; exact Nat.ne_of_gt (blk_lt (bkA BK342.out)) : gb353 ≠ gb342)); replace BK342 := Aside0.mk (blk_below (bkA BK342.out) hb); clear hb hbox hg; have hnb55 := NB353_333.out; have hnc55 := NB333_353.out; have hnb56 := NB353_334.out; have hnc56 := NB334_353.out; have hnb57 := NB353_342.out; have hnc57 := NB342_353.out; have hcz58_0 : w54.cell? ⟨gb353, 0, none⟩ = some (.int .u64 0) := (blk_cell BK353.out 0).trans rfl; have hcz58_1 : w54.cell? ⟨gb353, 1, none⟩ = some (.int .u64 0) := (blk_cell BK353.out 1).trans rfl; have hfz58_0 := blk_frozen BK353.out 0; have hfz58_1 := blk_frozen BK353.out 1))
                have n0_ : Aside0 (((w54.setCell ⟨gb353, 0, none⟩ (.int .u64 t351)).setCell ⟨gb353, 1, none⟩ (.int .u64 t352)).heap[gb333]? = some (.cells #[.int .u64 a3_0, .int .u64 a3_1] 25 (0, 0))) := ⟨by (with_reducible repeat (first | refine blk_drewN ?_ _ | refine blk_drew ?_ | refine blk_alloc ?_ _)); refine blk_far ?_ NB333_353.out _; (with_reducible repeat (first | refine blk_drewN ?_ _ | refine blk_drew ?_ | refine blk_alloc ?_ _)); refine blk_far ?_ NB333_353.out _; (with_reducible repeat (first | refine blk_drewN ?_ _ | refine blk_drew ?_ | refine blk_alloc ?_ _)); exact BK333.out⟩
                have n1_ : Aside0 (((w54.setCell ⟨gb353, 0, none⟩ (.int .u64 t351)).setCell ⟨gb353, 1, none⟩ (.int .u64 t352)).heap[gb334]? = some (.cells #[.int .u64 a4_0, .int .u64 a4_1] 25 (0, 0))) := ⟨by (with_reducible repeat (first | refine blk_drewN ?_ _ | refine blk_drew ?_ | refine blk_alloc ?_ _)); refine blk_far ?_ NB334_353.out _; (with_reducible repeat (first | refine blk_drewN ?_ _ | refine blk_drew ?_ | refine blk_alloc ?_ _)); refine blk_far ?_ NB334_353.out _; (with_reducible repeat (first | refine blk_drewN ?_ _ | refine blk_drew ?_ | refine blk_alloc ?_ _)); exact BK334.out⟩
                have n2_ : Aside0 (((w54.setCell ⟨gb353, 0, none⟩ (.int .u64 t351)).setCell ⟨gb353, 1, none⟩ (.int .u64 t352)).heap[gb342]? = some (.cells #[.int .u64 t339, .int .u64 t340] 25 (0, 0))) := ⟨by (with_reducible repeat (first | refine blk_drewN ?_ _ | refine blk_drew ?_ | refine blk_alloc ?_ _)); refine blk_far ?_ NB342_353.out _; (with_reducible repeat (first | refine blk_drewN ?_ _ | refine blk_drew ?_ | refine blk_alloc ?_ _)); refine blk_far ?_ NB342_353.out _; (with_reducible repeat (first | refine blk_drewN ?_ _ | refine blk_drew ?_ | refine blk_alloc ?_ _)); exact BK342.out⟩
                have n3_ : Aside0 (((w54.setCell ⟨gb353, 0, none⟩ (.int .u64 t351)).setCell ⟨gb353, 1, none⟩ (.int .u64 t352)).heap[gb353]? = some (.cells #[.int .u64 t351, .int .u64 t352] 25 (0, 0))) := ⟨by (with_reducible repeat (first | refine blk_drewN ?_ _ | refine blk_drew ?_ | refine blk_alloc ?_ _)); refine blk_put (cs := #[.int .u64 t351, .int .u64 0]) ?_ 1 _ rfl; (with_reducible repeat (first | refine blk_drewN ?_ _ | refine blk_drew ?_ | refine blk_alloc ?_ _)); refine blk_put (cs := #[.int .u64 0, .int .u64 0]) ?_ 0 _ rfl; (with_reducible repeat (first | refine blk_drewN ?_ _ | refine blk_drew ?_ | refine blk_alloc ?_ _)); exact BK353.out⟩
                have n4_ : Aside0 (Below w.heap.size w ((w54.setCell ⟨gb353, 0, none⟩ (.int .u64 t351)).setCell ⟨gb353, 1, none⟩ (.int .u64 t352))) := ⟨by repeat (first | (with_reducible first | exact HB.out | apply below_alloc | apply pw_below_drewN | apply below_drew1 | refine below_set ?_ GE333.out | refine below_set ?_ GE334.out | refine below_set ?_ GE342.out | refine below_set ?_ GE353.out) | exact HB.out)⟩
                (try clear BK333); (try clear BK334); (try clear BK342); (try clear BK353); (try clear HB); generalize ((w54.setCell ⟨gb353, 0, none⟩ (.int .u64 t351)).setCell ⟨gb353, 1, none⟩ (.int .u64 t352)) = w59 at n0_ n1_ n2_ n3_ n4_ ⊢; have BK333 := n0_; have BK334 := n1_; have BK342 := n2_; have BK353 := n3_; have HB := n4_; clear n0_ n1_ n2_ n3_ n4_; replace BK333 := Aside0.mk (blk_drew BK333.out); replace BK334 := Aside0.mk (blk_drew BK334.out); replace BK342 := Aside0.mk (blk_drew BK342.out); replace BK353 := Aside0.mk (blk_drew BK353.out); replace HB := Aside0.mk (below_drew1 HB.out)
                refine start_ (n := 13) (S := fun w' => w'.cell? ⟨gb342, 0, none⟩ = some (.int .u64 t339) ∧ w'.cell? ⟨gb342, 1, none⟩ = some (.int .u64 t340) ∧ w'.cell? ⟨gb353, 0, none⟩ = some (.int .u64 t351) ∧ w'.cell? ⟨gb353, 1, none⟩ = some (.int .u64 t352)) (ds := []) #[F,F,F,F,F,F,F,F,F,F,F,F,F] (by kernel_rfl) rfl rfl ⟨(blk_cell BK342.out 0).trans rfl, (blk_cell BK342.out 1).trans rfl, (blk_cell BK353.out 0).trans rfl, (blk_cell BK353.out 1).trans rfl⟩ (fun hHeld => ?_); refine with_tabW turnoutlaw02_FieldMatches.tab14 turnoutlaw02_FieldMatches.bits14 (fun HT_ HW_ => ?_)
                generalize w59.drew = w60 at BK333 BK334 BK342 BK353 HB hHeld ⊢
                refine pure_ (i := 0) (N := some 96) (v := ?_) (a' := ?_) #[T,F,F,F,F,F,F,F,F,F,F,F,F] rfl rfl (any_of HT_.out (by kernel_rfl)) (fun _ _ _ h => h) (Or.inl ⟨by rfl, ?_⟩) ?_ ?_
                rotate_left
                ·
                 intro w'
                 go_simp
                 with_reducible rfl
                rotate_left
                ·
                 simp only [Act.put, List.setIfInBounds_toArray, List.set_cons_zero, List.set_cons_succ, i64_w, i32_w]
                 rfl
                refine pure_ (i := 1) (N := some 97) (v := ?_) (a' := ?_) #[T,T,F,F,F,F,F,F,F,F,F,F,F] rfl rfl (any_of HT_.out (by kernel_rfl)) (fun _ _ _ h => h) (Or.inl ⟨by rfl, ?_⟩) ?_ ?_
                rotate_left
                ·
                 intro w'
                 go_simp
                 with_reducible rfl
                rotate_left
                ·
                 simp only [Act.put, List.setIfInBounds_toArray, List.set_cons_zero, List.set_cons_succ, i64_w, i32_w]
                 rfl
                refine pure_ (i := 2) (N := some 98) (v := ?_) (a' := ?_) #[T,T,T,F,F,F,F,F,F,F,F,F,F] rfl rfl (any_of HT_.out (by kernel_rfl)) (fun _ _ _ h => h) (Or.inl ⟨by rfl, ?_⟩) ?_ ?_
                rotate_left
                ·
                 intro w'
                 go_simp
                 with_reducible rfl
                rotate_left
                ·
                 simp only [Act.put, List.setIfInBounds_toArray, List.set_cons_zero, List.set_cons_succ, i64_w, i32_w]
                 rfl
                refine take_ (i := 3) (N := some 99) (v := ?_) (a' := ?_) #[T,T,T,T,F,F,F,F,F,F,F,F,F] rfl rfl (take_ofW HT_.out HW_.out (by kernel_rfl)) (fun _ _ _ h => h) (Or.inl ⟨by rfl, ?_⟩) hHeld ?_ ?_
                rotate_left
                ·
                 rintro w' ⟨s0, s1, s2, s3⟩
                 go_simp
                 with_reducible rfl
                rotate_left
                ·
                 simp only [Act.put, List.setIfInBounds_toArray, List.set_cons_zero, List.set_cons_succ, i64_w, i32_w]
                 rfl
                refine take_ (i := 4) (N := some 100) (v := ?_) (a' := ?_) #[T,T,T,T,T,F,F,F,F,F,F,F,F] rfl rfl (take_ofW HT_.out HW_.out (by kernel_rfl)) (fun _ _ _ h => h) (Or.inl ⟨by rfl, ?_⟩) hHeld ?_ ?_
                rotate_left
                ·
                 rintro w' ⟨s0, s1, s2, s3⟩
                 go_simp
                 with_reducible rfl
                rotate_left
                ·
                 simp only [Act.put, List.setIfInBounds_toArray, List.set_cons_zero, List.set_cons_succ, i64_w, i32_w]
                 rfl
                refine take_ (i := 6) (N := some 102) (v := ?_) (a' := ?_) #[T,T,T,T,T,F,T,F,F,F,F,F,F] rfl rfl (take_ofW HT_.out HW_.out (by kernel_rfl)) (fun _ _ _ h => h) (Or.inl ⟨by rfl, ?_⟩) hHeld ?_ ?_
                rotate_left
                ·
                 rintro w' ⟨s0, s1, s2, s3⟩
                 go_simp
                 with_reducible rfl
                rotate_left
                ·
                 simp only [Act.put, List.setIfInBounds_toArray, List.set_cons_zero, List.set_cons_succ, i64_w, i32_w]
                 rfl
                refine one_ (i := 5) (N := some 101) #[T,T,T,T,T,T,T,F,F,F,F,F,F] rfl rfl (one_of HT_.out (by kernel_rfl)) (by decide) (fun K hK => ?_)
                refine goes_ Try.func29 (by kernel_rfl) rfl #[.agg #[.int .u64 t339, .int .u64 t340], .agg #[.int .u64 t351, .int .u64 t352]] (by rfl) rfl rfl (by (try simp only [List.map_toArray, List.map_cons, List.map_nil]); first | done | rfl | (simp only [List.length_drop, List.length_take]; rfl)) ?_
                with_reducible refine (word_And.calls t339 t340 t351 t352 t354 t355 _ A45.out).mono ?_
                rintro e w61 ⟨rfl, hb⟩
                refine ⟨_, rfl, ?_⟩
                have n0_ := Aside0.mk (blk_below (bkA BK333.out) hb); have n1_ := Aside0.mk (blk_below (bkA BK334.out) hb); have n2_ := Aside0.mk (blk_below (bkA BK342.out) hb); have n3_ := Aside0.mk (blk_below (bkA BK353.out) hb)
                have n4_ := Aside0.mk (below_step (by repeat (first | (with_reducible first | exact HB.out | apply below_alloc | apply pw_below_drewN | apply below_drew1 | refine below_set ?_ GE333.out | refine below_set ?_ GE334.out | refine below_set ?_ GE342.out | refine below_set ?_ GE353.out) | exact HB.out)) hb)
                clear BK333; clear BK334; clear BK342; clear BK353; clear HB; have BK333 := n0_; have BK334 := n1_; have BK342 := n2_; have BK353 := n3_; have HB := n4_; clear n0_ n1_ n2_ n3_ n4_; (try clear hb); (try clear hb2); (try clear hk); (try clear hi)
                refine hK.out _ _ ⟨(blk_cell BK342.out 0).trans rfl, (blk_cell BK342.out 1).trans rfl, (blk_cell BK353.out 0).trans rfl, (blk_cell BK353.out 1).trans rfl⟩ (fun hHeld => ?_)
                clear hK K
                refine norm_ (a' := ?_) ?_ ?_
                rotate_left
                ·
                 show Act.put _ (some 101) _ = _
                 simp only [Act.put, List.setIfInBounds_toArray, List.set_cons_zero, List.set_cons_succ, i64_w, i32_w]
                 rfl
                refine one_ (i := 7) (N := some 103) #[T,T,T,T,T,T,T,T,F,F,F,F,F] rfl rfl (one_of HT_.out (by kernel_rfl)) (by decide) (fun K hK => ?_)
                refine goes_ Try.func23 (by kernel_rfl) rfl #[.string a0, .int .i64 a1, .int .i64 a2, .agg #[.int .u64 t354, .int .u64 t355], .agg #[.int .u64 t351, .int .u64 t352]] (by rfl) rfl rfl (by (try simp only [List.map_toArray, List.map_cons, List.map_nil]); first | done | rfl | (simp only [List.length_drop, List.length_take]; rfl)) ?_
                with_reducible refine (field_Match.calls k4 a0 a1 a2 t354 t355 t351 t352 true t357 _ A46.out).mono ?_
                rintro e w62 ⟨rfl, hb⟩
                refine ⟨_, rfl, ?_⟩
                have n0_ := Aside0.mk (blk_below (bkA BK333.out) hb); have n1_ := Aside0.mk (blk_below (bkA BK334.out) hb); have n2_ := Aside0.mk (blk_below (bkA BK342.out) hb); have n3_ := Aside0.mk (blk_below (bkA BK353.out) hb)
                have n4_ := Aside0.mk (below_step (by repeat (first | (with_reducible first | exact HB.out | apply below_alloc | apply pw_below_drewN | apply below_drew1 | refine below_set ?_ GE333.out | refine below_set ?_ GE334.out | refine below_set ?_ GE342.out | refine below_set ?_ GE353.out) | exact HB.out)) hb)
                clear BK333; clear BK334; clear BK342; clear BK353; clear HB; have BK333 := n0_; have BK334 := n1_; have BK342 := n2_; have BK353 := n3_; have HB := n4_; clear n0_ n1_ n2_ n3_ n4_; (try clear hb); (try clear hb2); (try clear hk); (try clear hi)
                refine hK.out _ _ ⟨(blk_cell BK342.out 0).trans rfl, (blk_cell BK342.out 1).trans rfl, (blk_cell BK353.out 0).trans rfl, (blk_cell BK353.out 1).trans rfl⟩ (fun hHeld => ?_)
                clear hK K
                refine norm_ (a' := ?_) ?_ ?_
                rotate_left
                ·
                 show Act.put _ (some 103) _ = _
                 simp only [Act.put, List.setIfInBounds_toArray, List.set_cons_zero, List.set_cons_succ, i64_w, i32_w]
                 rfl
                refine pure_ (i := 8) (N := some 95) (v := ?_) (a' := ?_) #[T,T,T,T,T,T,T,T,T,F,F,F,F] rfl rfl (any_of HT_.out (by kernel_rfl)) (fun _ _ _ h => h) (Or.inl ⟨by rfl, ?_⟩) ?_ ?_
                rotate_left
                ·
                 intro w'
                 go_simp
                 with_reducible rfl
                rotate_left
                ·
                 simp only [Act.put, List.setIfInBounds_toArray, List.set_cons_zero, List.set_cons_succ, i64_w, i32_w]
                 rfl
                refine pure_ (i := 9) (N := some 104) (v := ?_) (a' := ?_) #[T,T,T,T,T,T,T,T,T,T,F,F,F] rfl rfl (any_of HT_.out (by kernel_rfl)) (fun _ _ _ h => h) (Or.inl ⟨by rfl, ?_⟩) ?_ ?_
                rotate_left
                ·
                 intro w'
                 go_simp
                 with_reducible rfl
                rotate_left
                ·
                 simp only [Act.put, List.setIfInBounds_toArray, List.set_cons_zero, List.set_cons_succ, i64_w, i32_w]
                 rfl
                refine pure_ (i := 10) (N := some 105) (v := ?_) (a' := ?_) #[T,T,T,T,T,T,T,T,T,T,T,F,F] rfl rfl (any_of HT_.out (by kernel_rfl)) (fun _ _ _ h => h) (Or.inl ⟨by rfl, ?_⟩) ?_ ?_
                rotate_left
                ·
                 intro w'
                 go_simp
                 with_reducible rfl
                rotate_left
                ·
                 simp only [Act.put, List.setIfInBounds_toArray, List.set_cons_zero, List.set_cons_succ, i64_w, i32_w]
                 rfl
                refine pure_ (i := 11) (N := some 19) (v := ?_) (a' := ?_) #[T,T,T,T,T,T,T,T,T,T,T,T,F] rfl rfl (any_of HT_.out (by kernel_rfl)) (fun _ _ _ h => h) (Or.inl ⟨by rfl, ?_⟩) ?_ ?_
                rotate_left
                ·
                 intro w'
                 go_simp
                 with_reducible rfl
                rotate_left
                ·
                 simp only [Act.put, List.setIfInBounds_toArray, List.set_cons_zero, List.set_cons_succ, i64_w, i32_w]
                 rfl
                refine pure_ (i := 12) (N := some 20) (v := ?_) (a' := ?_) #[T,T,T,T,T,T,T,T,T,T,T,T,T] rfl rfl (any_of HT_.out (by kernel_rfl)) (fun _ _ _ h => h) (Or.inl ⟨by rfl, ?_⟩) ?_ ?_
                rotate_left
                ·
                 intro w'
                 go_simp
                 with_reducible rfl
                rotate_left
                ·
                 simp only [Act.put, List.setIfInBounds_toArray, List.set_cons_zero, List.set_cons_succ, i64_w, i32_w]
                 rfl
                refine done_ (done_of HT_.out (by kernel_rfl)) ?_
                try go_wp2
                replace BK333 := Aside0.mk (blk_drew BK333.out); replace BK334 := Aside0.mk (blk_drew BK334.out); replace BK342 := Aside0.mk (blk_drew BK342.out); replace BK353 := Aside0.mk (blk_drew BK353.out); replace HB := Aside0.mk (below_drew1 HB.out)
                refine start_ (n := 15) (S := fun w' => w'.cell? ⟨gb342, 0, none⟩ = some (.int .u64 t339) ∧ w'.cell? ⟨gb342, 1, none⟩ = some (.int .u64 t340) ∧ w'.cell? ⟨gb353, 0, none⟩ = some (.int .u64 t351) ∧ w'.cell? ⟨gb353, 1, none⟩ = some (.int .u64 t352)) (ds := []) #[F,F,F,F,F,F,F,F,F,F,F,F,F,F,F] (by kernel_rfl) rfl rfl ⟨(blk_cell BK342.out 0).trans rfl, (blk_cell BK342.out 1).trans rfl, (blk_cell BK353.out 0).trans rfl, (blk_cell BK353.out 1).trans rfl⟩ (fun hHeld => ?_); refine with_tabW turnoutlaw02_FieldMatches.tab15 turnoutlaw02_FieldMatches.bits15 (fun HT_ HW_ => ?_)
                generalize w62.drew = w63 at BK333 BK334 BK342 BK353 HB hHeld ⊢
                refine pure_ (i := 0) (N := some 107) (v := ?_) (a' := ?_) #[T,F,F,F,F,F,F,F,F,F,F,F,F,F,F] rfl rfl (any_of HT_.out (by kernel_rfl)) (fun _ _ _ h => h) (Or.inl ⟨by rfl, ?_⟩) ?_ ?_
                rotate_left
                ·
                 intro w'
                 go_simp
                 with_reducible rfl
                rotate_left
                ·
                 simp only [Act.put, List.setIfInBounds_toArray, List.set_cons_zero, List.set_cons_succ, i64_w, i32_w]
                 rfl
                refine pure_ (i := 1) (N := some 108) (v := ?_) (a' := ?_) #[T,T,F,F,F,F,F,F,F,F,F,F,F,F,F] rfl rfl (any_of HT_.out (by kernel_rfl)) (fun _ _ _ h => h) (Or.inl ⟨by rfl, ?_⟩) ?_ ?_
                rotate_left
                ·
                 intro w'
                 go_simp
                 with_reducible rfl
                rotate_left
                ·
                 simp only [Act.put, List.setIfInBounds_toArray, List.set_cons_zero, List.set_cons_succ, i64_w, i32_w]
                 rfl
                refine pure_ (i := 2) (N := some 109) (v := ?_) (a' := ?_) #[T,T,T,F,F,F,F,F,F,F,F,F,F,F,F] rfl rfl (any_of HT_.out (by kernel_rfl)) (fun _ _ _ h => h) (Or.inl ⟨by rfl, ?_⟩) ?_ ?_
                rotate_left
                ·
                 intro w'
                 go_simp
                 with_reducible rfl
                rotate_left
                ·
                 simp only [Act.put, List.setIfInBounds_toArray, List.set_cons_zero, List.set_cons_succ, i64_w, i32_w]
                 rfl
                refine take_ (i := 3) (N := some 110) (v := ?_) (a' := ?_) #[T,T,T,T,F,F,F,F,F,F,F,F,F,F,F] rfl rfl (take_ofW HT_.out HW_.out (by kernel_rfl)) (fun _ _ _ h => h) (Or.inl ⟨by rfl, ?_⟩) hHeld ?_ ?_
                rotate_left
                ·
                 rintro w' ⟨s0, s1, s2, s3⟩
                 go_simp
                 with_reducible rfl
                rotate_left
                ·
                 simp only [Act.put, List.setIfInBounds_toArray, List.set_cons_zero, List.set_cons_succ, i64_w, i32_w]
                 rfl
                refine take_ (i := 4) (N := some 111) (v := ?_) (a' := ?_) #[T,T,T,T,T,F,F,F,F,F,F,F,F,F,F] rfl rfl (take_ofW HT_.out HW_.out (by kernel_rfl)) (fun _ _ _ h => h) (Or.inl ⟨by rfl, ?_⟩) hHeld ?_ ?_
                rotate_left
                ·
                 rintro w' ⟨s0, s1, s2, s3⟩
                 go_simp
                 with_reducible rfl
                rotate_left
                ·
                 simp only [Act.put, List.setIfInBounds_toArray, List.set_cons_zero, List.set_cons_succ, i64_w, i32_w]
                 rfl
                refine take_ (i := 6) (N := some 113) (v := ?_) (a' := ?_) #[T,T,T,T,T,F,T,F,F,F,F,F,F,F,F] rfl rfl (take_ofW HT_.out HW_.out (by kernel_rfl)) (fun _ _ _ h => h) (Or.inl ⟨by rfl, ?_⟩) hHeld ?_ ?_
                rotate_left
                ·
                 rintro w' ⟨s0, s1, s2, s3⟩
                 go_simp
                 with_reducible rfl
                rotate_left
                ·
                 simp only [Act.put, List.setIfInBounds_toArray, List.set_cons_zero, List.set_cons_succ, i64_w, i32_w]
                 rfl
                refine take_ (i := 8) (N := some 115) (v := ?_) (a' := ?_) #[T,T,T,T,T,F,T,F,T,F,F,F,F,F,F] rfl rfl (take_ofW HT_.out HW_.out (by kernel_rfl)) (fun _ _ _ h => h) (Or.inl ⟨by rfl, ?_⟩) hHeld ?_ ?_
                rotate_left
                ·
                 rintro w' ⟨s0, s1, s2, s3⟩
                 go_simp
                 with_reducible rfl
                rotate_left
                ·
                 simp only [Act.put, List.setIfInBounds_toArray, List.set_cons_zero, List.set_cons_succ, i64_w, i32_w]
                 rfl
                refine one_ (i := 5) (N := some 112) #[T,T,T,T,T,T,T,F,T,F,F,F,F,F,F] rfl rfl (one_of HT_.out (by kernel_rfl)) (by decide) (fun K hK => ?_)
                refine goes_ Try.func29 (by kernel_rfl) rfl #[.agg #[.int .u64 t339, .int .u64 t340], .agg #[.int .u64 t351, .int .u64 t352]] (by rfl) rfl rfl (by (try simp only [List.map_toArray, List.map_cons, List.map_nil]); first | done | rfl | (simp only [List.length_drop, List.length_take]; rfl)) ?_
                with_reducible refine (word_And.calls t339 t340 t351 t352 t354 t355 _ A45.out).mono ?_
                rintro e w64 ⟨rfl, hb⟩
                refine ⟨_, rfl, ?_⟩
                have n0_ := Aside0.mk (blk_below (bkA BK333.out) hb); have n1_ := Aside0.mk (blk_below (bkA BK334.out) hb); have n2_ := Aside0.mk (blk_below (bkA BK342.out) hb); have n3_ := Aside0.mk (blk_below (bkA BK353.out) hb)
                have n4_ := Aside0.mk (below_step (by repeat (first | (with_reducible first | exact HB.out | apply below_alloc | apply pw_below_drewN | apply below_drew1 | refine below_set ?_ GE333.out | refine below_set ?_ GE334.out | refine below_set ?_ GE342.out | refine below_set ?_ GE353.out) | exact HB.out)) hb)
                clear BK333; clear BK334; clear BK342; clear BK353; clear HB; have BK333 := n0_; have BK334 := n1_; have BK342 := n2_; have BK353 := n3_; have HB := n4_; clear n0_ n1_ n2_ n3_ n4_; (try clear hb); (try clear hb2); (try clear hk); (try clear hi)
                refine hK.out _ _ ⟨(blk_cell BK342.out 0).trans rfl, (blk_cell BK342.out 1).trans rfl, (blk_cell BK353.out 0).trans rfl, (blk_cell BK353.out 1).trans rfl⟩ (fun hHeld => ?_)
                clear hK K
                refine norm_ (a' := ?_) ?_ ?_
                rotate_left
                ·
                 show Act.put _ (some 112) _ = _
                 simp only [Act.put, List.setIfInBounds_toArray, List.set_cons_zero, List.set_cons_succ, i64_w, i32_w]
                 rfl
                refine one_ (i := 7) (N := some 114) #[T,T,T,T,T,T,T,T,T,F,F,F,F,F,F] rfl rfl (one_of HT_.out (by kernel_rfl)) (by decide) (fun K hK => ?_)
                refine goes_ Try.func30 (by kernel_rfl) rfl #[.agg #[.int .u64 t354, .int .u64 t355], .agg #[.int .u64 t351, .int .u64 t352]] (by rfl) rfl rfl (by (try simp only [List.map_toArray, List.map_cons, List.map_nil]); first | done | rfl | (simp only [List.length_drop, List.length_take]; rfl)) ?_
                with_reducible refine (word_Xor.calls t354 t355 t351 t352 t360 t361 _ A48.out).mono ?_
                rintro e w65 ⟨rfl, hb⟩
                refine ⟨_, rfl, ?_⟩
                have n0_ := Aside0.mk (blk_below (bkA BK333.out) hb); have n1_ := Aside0.mk (blk_below (bkA BK334.out) hb); have n2_ := Aside0.mk (blk_below (bkA BK342.out) hb); have n3_ := Aside0.mk (blk_below (bkA BK353.out) hb)
                have n4_ := Aside0.mk (below_step (by repeat (first | (with_reducible first | exact HB.out | apply below_alloc | apply pw_below_drewN | apply below_drew1 | refine below_set ?_ GE333.out | refine below_set ?_ GE334.out | refine below_set ?_ GE342.out | refine below_set ?_ GE353.out) | exact HB.out)) hb)
                clear BK333; clear BK334; clear BK342; clear BK353; clear HB; have BK333 := n0_; have BK334 := n1_; have BK342 := n2_; have BK353 := n3_; have HB := n4_; clear n0_ n1_ n2_ n3_ n4_; (try clear hb); (try clear hb2); (try clear hk); (try clear hi)
                refine hK.out _ _ ⟨(blk_cell BK342.out 0).trans rfl, (blk_cell BK342.out 1).trans rfl, (blk_cell BK353.out 0).trans rfl, (blk_cell BK353.out 1).trans rfl⟩ (fun hHeld => ?_)
                clear hK K
                refine norm_ (a' := ?_) ?_ ?_
                rotate_left
                ·
                 show Act.put _ (some 114) _ = _
                 simp only [Act.put, List.setIfInBounds_toArray, List.set_cons_zero, List.set_cons_succ, i64_w, i32_w]
                 rfl
                refine one_ (i := 9) (N := some 116) #[T,T,T,T,T,T,T,T,T,T,F,F,F,F,F] rfl rfl (one_of HT_.out (by kernel_rfl)) (by decide) (fun K hK => ?_)
                refine goes_ Try.func23 (by kernel_rfl) rfl #[.string a0, .int .i64 a1, .int .i64 a2, .agg #[.int .u64 t360, .int .u64 t361], .agg #[.int .u64 t351, .int .u64 t352]] (by rfl) rfl rfl (by (try simp only [List.map_toArray, List.map_cons, List.map_nil]); first | done | rfl | (simp only [List.length_drop, List.length_take]; rfl)) ?_
                with_reducible refine (field_Match.calls k4 a0 a1 a2 t360 t361 t351 t352 false t363 _ A49.out).mono ?_
                rintro e w66 ⟨rfl, hb⟩
                refine ⟨_, rfl, ?_⟩
                have n0_ := Aside0.mk (blk_below (bkA BK333.out) hb); have n1_ := Aside0.mk (blk_below (bkA BK334.out) hb); have n2_ := Aside0.mk (blk_below (bkA BK342.out) hb); have n3_ := Aside0.mk (blk_below (bkA BK353.out) hb)
                have n4_ := Aside0.mk (below_step (by repeat (first | (with_reducible first | exact HB.out | apply below_alloc | apply pw_below_drewN | apply below_drew1 | refine below_set ?_ GE333.out | refine below_set ?_ GE334.out | refine below_set ?_ GE342.out | refine below_set ?_ GE353.out) | exact HB.out)) hb)
                clear BK333; clear BK334; clear BK342; clear BK353; clear HB; have BK333 := n0_; have BK334 := n1_; have BK342 := n2_; have BK353 := n3_; have HB := n4_; clear n0_ n1_ n2_ n3_ n4_; (try clear hb); (try clear hb2); (try clear hk); (try clear hi)
                refine hK.out _ _ ⟨(blk_cell BK342.out 0).trans rfl, (blk_cell BK342.out 1).trans rfl, (blk_cell BK353.out 0).trans rfl, (blk_cell BK353.out 1).trans rfl⟩ (fun hHeld => ?_)
                clear hK K
                refine norm_ (a' := ?_) ?_ ?_
                rotate_left
                ·
                 show Act.put _ (some 116) _ = _
                 simp only [Act.put, List.setIfInBounds_toArray, List.set_cons_zero, List.set_cons_succ, i64_w, i32_w]
                 rfl
                refine pure_ (i := 10) (N := some 106) (v := ?_) (a' := ?_) #[T,T,T,T,T,T,T,T,T,T,T,F,F,F,F] rfl rfl (any_of HT_.out (by kernel_rfl)) (fun _ _ _ h => h) (Or.inl ⟨by rfl, ?_⟩) ?_ ?_
                rotate_left
                ·
                 intro w'
                 go_simp
                 with_reducible rfl
                rotate_left
                ·
                 simp only [Act.put, List.setIfInBounds_toArray, List.set_cons_zero, List.set_cons_succ, i64_w, i32_w]
                 rfl
                refine pure_ (i := 11) (N := some 117) (v := ?_) (a' := ?_) #[T,T,T,T,T,T,T,T,T,T,T,T,F,F,F] rfl rfl (any_of HT_.out (by kernel_rfl)) (fun _ _ _ h => h) (Or.inl ⟨by rfl, ?_⟩) ?_ ?_
                rotate_left
                ·
                 intro w'
                 go_simp
                 with_reducible rfl
                rotate_left
                ·
                 simp only [Act.put, List.setIfInBounds_toArray, List.set_cons_zero, List.set_cons_succ, i64_w, i32_w]
                 rfl
                refine pure_ (i := 12) (N := some 118) (v := ?_) (a' := ?_) #[T,T,T,T,T,T,T,T,T,T,T,T,T,F,F] rfl rfl (any_of HT_.out (by kernel_rfl)) (fun _ _ _ h => h) (Or.inl ⟨by rfl, ?_⟩) ?_ ?_
                rotate_left
                ·
                 intro w'
                 go_simp
                 with_reducible rfl
                rotate_left
                ·
                 simp only [Act.put, List.setIfInBounds_toArray, List.set_cons_zero, List.set_cons_succ, i64_w, i32_w]
                 rfl
                refine pure_ (i := 13) (N := some 21) (v := ?_) (a' := ?_) #[T,T,T,T,T,T,T,T,T,T,T,T,T,T,F] rfl rfl (any_of HT_.out (by kernel_rfl)) (fun _ _ _ h => h) (Or.inl ⟨by rfl, ?_⟩) ?_ ?_
                rotate_left
                ·
                 intro w'
                 go_simp
                 with_reducible rfl
                rotate_left
                ·
                 simp only [Act.put, List.setIfInBounds_toArray, List.set_cons_zero, List.set_cons_succ, i64_w, i32_w]
                 rfl
                refine pure_ (i := 14) (N := some 22) (v := ?_) (a' := ?_) #[T,T,T,T,T,T,T,T,T,T,T,T,T,T,T] rfl rfl (any_of HT_.out (by kernel_rfl)) (fun _ _ _ h => h) (Or.inl ⟨by rfl, ?_⟩) ?_ ?_
                rotate_left
                ·
                 intro w'
                 go_simp
                 with_reducible rfl
                rotate_left
                ·
                 simp only [Act.put, List.setIfInBounds_toArray, List.set_cons_zero, List.set_cons_succ, i64_w, i32_w]
                 rfl
                refine done_ (done_of HT_.out (by kernel_rfl)) ?_
                try go_wp2
                go_roundg k4
                case measure => have := HJ5.out; have := HJ16.out; have := HJ31.out; have := HK4.out; omega
                case rel => exact ⟨(wrap64 (x17_4 + 1)), (by first | rfl | (simp; done) | (simp [*]; done)), H', ⟨by have := HJ5.out; have := HJ16.out; have := HJ31.out; have := HK4.out; omega⟩, ⟨by (with_reducible repeat (first | refine blk_drewN ?_ _ | refine blk_drew ?_ | refine blk_alloc ?_ _)); exact BK333.out⟩, ⟨by (with_reducible repeat (first | refine blk_drewN ?_ _ | refine blk_drew ?_ | refine blk_alloc ?_ _)); exact BK334.out⟩, ⟨by (with_reducible repeat (first | refine blk_drewN ?_ _ | refine blk_drew ?_ | refine blk_alloc ?_ _)); exact BK342.out⟩, ⟨by repeat (first | (with_reducible first | exact HB.out | apply below_alloc | apply pw_below_drewN | apply below_drew1 | refine below_set ?_ GE333.out | refine below_set ?_ GE334.out | refine below_set ?_ GE342.out | refine below_set ?_ GE353.out) | exact HB.out)⟩⟩
              ·
               replace c50 := Bool.eq_false_iff.mpr c50
               subst c50
               have H1 : (some false) = some r := by rw [if_neg (show ¬ (false = true) by decide)] at H; exact H
               clear H; have H := H1; clear H1
               exact absurd ((Option.some.inj H).trans hr_.out) (by decide)
             ·
              rw [if_neg c42] at H
              have c42b0 : decide (x17_4 < a2) = false := decide_eq_false c42
              clear c42
              obtain rfl := Option.some.inj H
              go_wp2
              go_ret
              exact ⟨by first | rfl | (simp [errW_none, errW_some] <;> rfl) | (simp [*, errW_none, errW_some] <;> rfl), by repeat (first | (with_reducible first | exact HB.out | apply below_alloc | apply pw_below_drewN | apply below_drew1 | refine below_set ?_ GE333.out | refine below_set ?_ GE334.out | refine below_set ?_ GE342.out) | exact HB.out)⟩

/-- THE ONE PURE STATEMENT of turnoutlaw02_FieldMatches: yours. -/
def turnoutlaw02_FieldMatches.Pure : Prop := (∀ (a0 : ByteArray) (a1 : Int) (a2 : Int) (a3_0 : Int) (a3_1 : Int) (a4_0 : Int) (a4_1 : Int), a0.size ≤ 140737488351232 → (Lit.int .i64 a1).wf = true → (Lit.int .i64 a2).wf = true → (Lit.int .u64 a3_0).wf = true → (Lit.int .u64 a3_1).wf = true → (Lit.int .u64 a4_0).wf = true → (Lit.int .u64 a4_1).wf = true → ∃ k, turnoutlaw02_FieldMatches.f k a0 a1 a2 a3_0 a3_1 a4_0 a4_1 = some true) ∧ (∀ k r, turnoutlaw02_awake.f k = some r → r = true)
theorem turnoutlaw02_FieldMatches.walk (P : turnoutlaw02_FieldMatches.Pure) (a0 : ByteArray) (a1 : Int) (a2 : Int) (a3_0 : Int) (a3_1 : Int) (a4_0 : Int) (a4_1 : Int) (w : World) (w0 : a0.size ≤ 140737488351232) (w1 : (Lit.int .i64 a1).wf = true) (w2 : (Lit.int .i64 a2).wf = true) (w3_0 : (Lit.int .u64 a3_0).wf = true) (w3_1 : (Lit.int .u64 a3_1).wf = true) (w4_0 : (Lit.int .u64 a4_0).wf = true) (w4_1 : (Lit.int .u64 a4_1).wf = true) :
   Calls Try.prog 10 #[.string a0, .int .i64 a1, .int .i64 a2, .agg #[.int .u64 a3_0, .int .u64 a3_1], .agg #[.int .u64 a4_0, .int .u64 a4_1]] w fun e w' => e = .returned (.bool true) ∧ Below w.heap.size w w' := by
  obtain ⟨k, h⟩ := P.1 a0 a1 a2 a3_0 a3_1 a4_0 a4_1 w0 w1 w2 w3_0 w3_1 w4_0 w4_1
  refine (turnoutlaw02_FieldMatches.calls k a0 a1 a2 a3_0 a3_1 a4_0 a4_1 true w h ⟨rfl⟩ ⟨P.2⟩).mono ?_
  rintro e w' ⟨rfl, hd⟩
  exact ⟨rfl, hd⟩

end Go.Proofs.Ytgpahhobifdapaa.PField
