-- Written by wip/turnprint.py, a program of this session (the kit's print, turned).
import Derived.Test.YtdjdgkjikibgaaaPBufx0
import Derived.Test.YtdjdgkjikibgaaaPBufx1
namespace Go.Proofs.Ytdjdgkjikibgaaa.PBuf
open Go.RowKit Go.Proofs.YtdjdgkjikibgaaaW.PrintWords Go.Proofs.YtdjdgkjikibgaaaW.PrintLast Go.Proofs.YtdjdgkjikibgaaaW.PrintMore
attribute [local go_sem] max2_int min2_int max_two min_two max_three min_three max_four min_four   -- for this text's walks alone
set_option linter.unusedVariables false
set_option linter.unusedSimpArgs false

attribute [local go_sem high] xorA_u8 xorA_u16 xorA_u32 xorA_u64 gtr_str
/-! ### word_Cut: function 43 -/
def word_Cut.f (a0_0 : Int) (a0_1 : Int) (a1 : Int) : Option (Int × Int) := (word_Mask.f a1).bind fun bt121 => ((word_And.f a0_0 a0_1 bt121.1 bt121.2).bind fun bt123 => (some (bt123.1, bt123.2)))
set_option maxHeartbeats 8000000 in
set_option maxRecDepth 100000 in
theorem word_Cut.calls (a0_0 : Int) (a0_1 : Int) (a1 : Int) (r1 : Int) (r2 : Int) (w : World) (h : word_Cut.f a0_0 a0_1 a1 = some (r1, r2)) :
   Calls Try.prog 43 #[.agg #[.int .u64 a0_0, .int .u64 a0_1], .int .i64 a1] w fun e w' => e = .returned (.agg #[.int .u64 r1, .int .u64 r2]) ∧ Below w.heap.size w w' := by
  have hu32 := Try.underlying32
  have HB := Aside0.mk (Below.refl w.heap.size w)
  have H : ((word_Mask.f a1).bind fun bt121 => ((word_And.f a0_0 a0_1 bt121.1 bt121.2).bind fun bt123 => (some (bt123.1, bt123.2)))) = some (r1, r2) := h
  clear h
  replace H := Option.bind_eq_some_iff.mp H
  obtain ⟨⟨t121, t122⟩, A30, H⟩ := H
  replace H : ((word_And.f a0_0 a0_1 t121 t122).bind fun bt123 => (some (bt123.1, bt123.2))) = some (r1, r2) := H
  have A3 := Aside0.mk A30
  clear A30
  replace H := Option.bind_eq_some_iff.mp H
  obtain ⟨⟨t123, t124⟩, A40, H⟩ := H
  replace H : (some (t123, t124)) = some (r1, r2) := H
  have A4 := Aside0.mk A40
  clear A40
  simp only [Option.some.injEq, Prod.mk.injEq] at H
  obtain ⟨rfl, rfl⟩ := H
  go_enter Try.func43, Try.ntmps43
  try go_wp2_with (first | ((with_reducible refine gate_dst (N := 2) rfl ?_); refine box_event ?hg (N := 2) ?hd (cs := #[.int .u64 a0_0, .int .u64 a0_1]) (t := 32) ?hr ?_; (case hd => rfl); (case hg => rfl); (case hr => first | (go_simp; done) | (go_simp; rfl)); intro gb119 hg w5 hbox hb; have BK119 := Aside0.mk (hbox); have GW119 := Aside0.mk ((by rw [hg]; exact (below_size (by repeat (first | (with_reducible first | exact HB.out | apply below_alloc | apply pw_below_drewN | apply below_drew1) | exact HB.out))) : w.heap.size ≤ gb119)); have GE119 := Aside0.mk ((by rw [hg]; exact (below_size (by repeat (first | (with_reducible first | exact HB.out | apply below_alloc | apply pw_below_drewN | apply below_drew1) | exact HB.out))) : w.heap.size ≤ gb119)); replace HB := Aside0.mk (below_step (by repeat (first | (with_reducible first | exact HB.out | apply below_alloc | apply pw_below_drewN | apply below_drew1) | exact HB.out)) hb); clear hb hbox hg) | ((with_reducible refine gate_dst (N := 4) rfl ?_); refine box_event ?hg (N := 4) ?hd (cs := #[.int .u64 0, .int .u64 0]) (t := 32) ?hr ?_; (case hd => rfl); (case hg => rfl); (case hr => first | (go_simp; done) | (go_simp; rfl)); intro gb120 hg w6 hbox hb; have BK120 := Aside0.mk (hbox); have GW120 := Aside0.mk ((by rw [hg]; exact (below_size (by repeat (first | (with_reducible first | exact HB.out | apply below_alloc | apply pw_below_drewN | apply below_drew1 | refine below_set ?_ GE119.out) | exact HB.out))) : w.heap.size ≤ gb120)); have GE120 := Aside0.mk ((by rw [hg]; exact (below_size (by repeat (first | (with_reducible first | exact HB.out | apply below_alloc | apply pw_below_drewN | apply below_drew1 | refine below_set ?_ GE119.out) | exact HB.out))) : w.heap.size ≤ gb120)); replace HB := Aside0.mk (below_step (by repeat (first | (with_reducible first | exact HB.out | apply below_alloc | apply pw_below_drewN | apply below_drew1 | refine below_set ?_ GE119.out) | exact HB.out)) hb); have NB119_120 := Aside0.mk ((by rw [hg]; exact Nat.ne_of_lt (blk_lt (bkA BK119.out)) : gb119 ≠ gb120)); have NB120_119 := Aside0.mk ((by rw [hg]; exact Nat.ne_of_gt (blk_lt (bkA BK119.out)) : gb120 ≠ gb119)); replace BK119 := Aside0.mk (blk_below (bkA BK119.out) hb); clear hb hbox hg))
  have n0_ := Aside0.mk (blk_drew BK119.out)
  have n1_ := Aside0.mk (blk_drew BK120.out)
  have n2_ := Aside0.mk (below_drew1 HB.out)
  clear BK119
  clear BK120
  clear HB
  have BK119 := n0_
  have BK120 := n1_
  have HB := n2_
  clear n0_ n1_ n2_
  refine start_ (n := 5) (S := fun w' => w'.cell? ⟨gb119, 0, none⟩ = some (.int .u64 a0_0) ∧ w'.cell? ⟨gb119, 1, none⟩ = some (.int .u64 a0_1)) (ds := []) #[F,F,F,F,F] (by kernel_rfl) rfl rfl ⟨(blk_cell BK119.out 0).trans rfl, (blk_cell BK119.out 1).trans rfl⟩ (fun hHeld => ?_)
  generalize w6.drew = w7 at BK119 BK120 HB hHeld ⊢
  refine pure_ (i := 1) (N := some 6) (v := ?_) (a' := ?_) #[F,T,F,F,F] rfl rfl (by kernel_rfl) (fun _ _ _ h => h) (Or.inl ⟨by rfl, ?_⟩) ?_ ?_
  rotate_left
  ·
   intro w'
   go_simp
   with_reducible rfl
  rotate_left
  ·
   simp only [Act.put, List.setIfInBounds_toArray, List.set_cons_zero, List.set_cons_succ, i64_w, i32_w]
   rfl
  refine take_ (i := 0) (N := some 5) (v := ?_) (a' := ?_) #[T,T,F,F,F] rfl rfl (by kernel_rfl) (fun _ _ _ h => h) (Or.inl ⟨by rfl, ?_⟩) hHeld ?_ ?_
  rotate_left
  ·
   rintro w' ⟨s0, s1⟩
   go_simp
   with_reducible rfl
  rotate_left
  ·
   simp only [Act.put, List.setIfInBounds_toArray, List.set_cons_zero, List.set_cons_succ, i64_w, i32_w]
   rfl
  refine one_ (i := 2) (N := some 7) #[T,T,T,F,F] rfl rfl (by kernel_rfl) (by decide) (fun K hK => ?_)
  refine goes_ Try.func52 (by kernel_rfl) rfl #[.int .i64 a1] (by rfl) rfl rfl (by (try simp only [List.map_toArray, List.map_cons, List.map_nil]); first | done | rfl | (simp only [List.length_drop, List.length_take]; rfl)) ?_
  with_reducible refine (word_Mask.calls a1 t121 t122 _ A3.out).mono ?_
  rintro e w8 ⟨rfl, hb⟩
  refine ⟨_, rfl, ?_⟩
  have n0_ := Aside0.mk (blk_below (bkA BK119.out) hb)
  have n1_ := Aside0.mk (blk_below (bkA BK120.out) hb)
  have n2_ := Aside0.mk (below_step (by repeat (first | (with_reducible first | exact HB.out | apply below_alloc | apply pw_below_drewN | apply below_drew1 | refine below_set ?_ GE119.out | refine below_set ?_ GE120.out) | exact HB.out)) hb)
  clear BK119
  clear BK120
  clear HB
  have BK119 := n0_
  have BK120 := n1_
  have HB := n2_
  clear n0_ n1_ n2_
  (try clear hb)
  (try clear hb2)
  (try clear hk)
  (try clear hi)
  refine hK.out _ _ ⟨(blk_cell BK119.out 0).trans rfl, (blk_cell BK119.out 1).trans rfl⟩ (fun hHeld => ?_)
  clear hK K
  refine norm_ (a' := ?_) ?_ ?_
  rotate_left
  ·
   show Act.put _ (some 7) _ = _
   simp only [Act.put, List.setIfInBounds_toArray, List.set_cons_zero, List.set_cons_succ, i64_w, i32_w]
   rfl
  refine one_ (i := 3) (N := some 8) #[T,T,T,T,F] rfl rfl (by kernel_rfl) (by decide) (fun K hK => ?_)
  refine goes_ Try.func44 (by kernel_rfl) rfl #[.agg #[.int .u64 a0_0, .int .u64 a0_1], .agg #[.int .u64 t121, .int .u64 t122]] (by rfl) rfl rfl (by (try simp only [List.map_toArray, List.map_cons, List.map_nil]); first | done | rfl | (simp only [List.length_drop, List.length_take]; rfl)) ?_
  with_reducible refine (word_And.calls a0_0 a0_1 t121 t122 t123 t124 _ A4.out).mono ?_
  rintro e w9 ⟨rfl, hb⟩
  refine ⟨_, rfl, ?_⟩
  have n0_ := Aside0.mk (blk_below (bkA BK119.out) hb)
  have n1_ := Aside0.mk (blk_below (bkA BK120.out) hb)
  have n2_ := Aside0.mk (below_step (by repeat (first | (with_reducible first | exact HB.out | apply below_alloc | apply pw_below_drewN | apply below_drew1 | refine below_set ?_ GE119.out | refine below_set ?_ GE120.out) | exact HB.out)) hb)
  clear BK119
  clear BK120
  clear HB
  have BK119 := n0_
  have BK120 := n1_
  have HB := n2_
  clear n0_ n1_ n2_
  (try clear hb)
  (try clear hb2)
  (try clear hk)
  (try clear hi)
  refine hK.out _ _ ⟨(blk_cell BK119.out 0).trans rfl, (blk_cell BK119.out 1).trans rfl⟩ (fun hHeld => ?_)
  clear hK K
  refine norm_ (a' := ?_) ?_ ?_
  rotate_left
  ·
   show Act.put _ (some 8) _ = _
   simp only [Act.put, List.setIfInBounds_toArray, List.set_cons_zero, List.set_cons_succ, i64_w, i32_w]
   rfl
  refine one_ (i := 4) (N := none) #[T,T,T,T,T] rfl rfl (by kernel_rfl) (by decide) (fun K hK => ?_)
  have hs10 : w9.cell? ⟨gb120, 0, none⟩ = some (.int .u64 0) := (blk_cell BK120.out 0).trans rfl
  have hfs10 := blk_frozen BK120.out 0
  have hns10_0 := NB119_120.out
  have hms10_0 := NB120_119.out
  have hs11 : w9.cell? ⟨gb120, 1, none⟩ = some (.int .u64 0) := (blk_cell BK120.out 1).trans rfl
  have hfs11 := blk_frozen BK120.out 1
  have hns11_0 := NB119_120.out
  have hms11_0 := NB120_119.out
  refine skip_ (w1 := ?_) (by rfl) rfl ?_ ?_
  rotate_left
  ·
   go_simp
   rfl
  refine hK.out _ _ ⟨((cell_far (p := ⟨gb120, _, none⟩) NB119_120.out _).trans (((cell_far (p := ⟨gb120, _, none⟩) NB119_120.out _).trans (hHeld.1)))), ((cell_far (p := ⟨gb120, _, none⟩) NB119_120.out _).trans (((cell_far (p := ⟨gb120, _, none⟩) NB119_120.out _).trans (hHeld.2))))⟩ (fun hHeld => ?_)
  clear hK K
  refine done_ (by kernel_rfl) ?_
  try go_wp2
  refine bodyPost_ret (results_cell_row rfl _ _ gb120 32 #[.int .u64 t123, .int .u64 t124] (0, 0) _ rfl (by (with_reducible repeat (first | refine blk_drewN ?_ _ | refine blk_drew ?_ | refine blk_alloc ?_ _)); refine blk_put (cs := #[.int .u64 t123, .int .u64 0]) ?_ 1 _ rfl; (with_reducible repeat (first | refine blk_drewN ?_ _ | refine blk_drew ?_ | refine blk_alloc ?_ _)); refine blk_put (cs := #[.int .u64 0, .int .u64 0]) ?_ 0 _ rfl; (with_reducible repeat (first | refine blk_drewN ?_ _ | refine blk_drew ?_ | refine blk_alloc ?_ _)); exact BK120.out) Try.underlying32 rfl (by kernel_rfl)) rfl ?_
  exact ⟨by first | rfl | (simp [errW_none, errW_some] <;> rfl) | (simp [*, errW_none, errW_some] <;> rfl), by repeat (first | (with_reducible first | exact HB.out | apply below_alloc | apply pw_below_drewN | apply below_drew1 | refine below_set ?_ GE119.out | refine below_set ?_ GE120.out) | exact HB.out)⟩

/-! ### field_Get: function 31 -/
def field_Get.l0 : Nat → ByteArray → Int → Int → Int → Int → Int → Int → Int → Int → Option (Int × Int × Int)
  | 0, _, _, _, _, _, _, _, _, _ => none
  | k + 1, x0, x1, x2, x9, x10, x33, x34, x128000, x128001 => if x34 < x33 then ((word_Left.f x128000 x128001 8).bind fun bt128 => (if 0 ≤ (wrap64 (x9 + x34)) then (if (wrap64 (x9 + x34)) < (x0.size : Int) then ((word_New.f (IntKind.u64.wrap (bt x0 (wrap64 (x9 + x34))))).bind fun bt130 => ((word_Or.f bt128.1 bt128.2 bt130.1 bt130.2).bind fun bt132 => (field_Get.l0 k x0 x1 x2 x9 x10 x33 (wrap64 (x34 + 1)) bt132.1 bt132.2))) else (none)) else (none))) else ((word_Left.f x128000 x128001 (wrap64 (8 - (wrap64 ((wrap64 ((wrap64 (x10 * 8)) - x1)) - x2))))).bind fun bt134 => (if 0 ≤ (wrap64 (x10 - 1)) then (if (wrap64 (x10 - 1)) < (x0.size : Int) then (if 0 ≤ (wrap64 ((wrap64 ((wrap64 (x10 * 8)) - x1)) - x2)) then ((word_New.f (IntKind.u64.wrap (shr .u8 (bt x0 (wrap64 (x10 - 1))) (wrap64 ((wrap64 ((wrap64 (x10 * 8)) - x1)) - x2))))).bind fun bt136 => ((word_Or.f bt134.1 bt134.2 bt136.1 bt136.2).bind fun bt138 => ((word_Cut.f bt138.1 bt138.2 x2).bind fun bt140 => (some (bt140.1, bt140.2, 0))))) else (none)) else (none)) else (none)))
def field_Get.f (k : Nat) (a0 : ByteArray) (a1 : Int) (a2 : Int) : Option (Int × Int × Int) := (field_may.f k a0 a1 a2).bind fun t126 => (if t126 = 0 then (field_Get.l0 k a0 a1 a2 (wrap64 (Int.tdiv a1 8)) (wrap64 (Int.tdiv (wrap64 ((wrap64 ((wrap64 (a1 + a2)) + 8)) - 1)) 8)) (wrap64 ((wrap64 ((wrap64 (Int.tdiv (wrap64 ((wrap64 ((wrap64 (a1 + a2)) + 8)) - 1)) 8)) - (wrap64 (Int.tdiv a1 8)))) - 1)) 0 0 0) else (some (0, 0, t126)))
theorem field_Get.mono_l : ∀ k, (∀ y0 y1 y2 y3 y4 y5 y6 y7 y8, LeO (field_Get.l0 k y0 y1 y2 y3 y4 y5 y6 y7 y8) (field_Get.l0 (k + 1) y0 y1 y2 y3 y4 y5 y6 y7 y8))
  | 0 => fun _ _ _ _ _ _ _ _ _ r h => by simp [field_Get.l0] at h
  | k + 1 => by
   have ih0 := field_Get.mono_l k
   ·
    intro y0 y1 y2 y3 y4 y5 y6 y7 y8
    unfold field_Get.l0
    repeat' first
    | (with_reducible exact ih0 _ _ _ _ _ _ _ _ _)
    | (with_reducible exact field_may.mono _ _ _ _)
    | (with_reducible exact LeO.refl _)
    | (with_reducible exact LeO.none _)
    | (with_reducible refine LeO.ite ?_ ?_)
    | (with_reducible refine LeO.bind ?_ (fun _ => ?_))
    | exact ih0 _ _ _ _ _ _ _ _ _
    | exact field_may.mono _ _ _ _
    | exact LeO.none _
    | refine LeO.ite ?_ ?_
    | refine LeO.bind ?_ (fun _ => ?_)
theorem field_Get.mono : ∀ a0 a1 a2 k, LeO (field_Get.f k a0 a1 a2) (field_Get.f (k + 1) a0 a1 a2) := by
  intro a0 a1 a2 k
  have ih0 := field_Get.mono_l k
  unfold field_Get.f
  repeat' first
    | (with_reducible exact ih0 _ _ _ _ _ _ _ _ _)
    | (with_reducible exact field_may.mono _ _ _ _)
    | (with_reducible exact LeO.refl _)
    | (with_reducible exact LeO.none _)
    | (with_reducible refine LeO.ite ?_ ?_)
    | (with_reducible refine LeO.bind ?_ (fun _ => ?_))
    | exact ih0 _ _ _ _ _ _ _ _ _
    | exact field_may.mono _ _ _ _
    | exact LeO.none _
    | refine LeO.ite ?_ ?_
    | refine LeO.bind ?_ (fun _ => ?_)
def field_Get.T9 : Bool × List (List Nat × List Nat) := (true, [([], []), ([0], [0]), ([], []), ([], []), ([], []), ([3, 4], [3, 4]), ([2, 5], [2, 5]), ([6], [6]), ([7, 1], [7]), ([1, 8, 8], [1, 8]), ([9, 9, 0, 1, 2, 3, 4, 5, 6, 7, 8, 9], [9])])
def field_Get.B9 : List Nat := [0, 1, 0, 0, 0, 24, 60, 124, 255, 511, 1023]
theorem field_Get.tab9 : rtab .any (opsOf Try.f31 9) = field_Get.T9 := by kernel_rfl
theorem field_Get.bits9 : waitsOk field_Get.T9.2 field_Get.B9 = true := by kernel_rfl
def field_Get.T12 : Bool × List (List Nat × List Nat) := (true, [([], []), ([], []), ([1], [1]), ([0, 2], [0, 2]), ([], []), ([], []), ([5], [5]), ([4, 6], [4, 6]), ([], []), ([7, 8], [7, 8]), ([9], [9]), ([10, 3], [10]), ([3, 11, 11], [3, 11]), ([12, 12, 0, 1, 2, 3, 4, 5, 6, 7, 8, 9, 10, 11, 12], [12])])
def field_Get.B12 : List Nat := [0, 0, 2, 7, 0, 0, 32, 112, 0, 496, 1008, 2047, 4095, 8191]
theorem field_Get.tab12 : rtab .any (opsOf Try.f31 12) = field_Get.T12 := by kernel_rfl
theorem field_Get.bits12 : waitsOk field_Get.T12.2 field_Get.B12 = true := by kernel_rfl
set_option maxHeartbeats 8000000 in
set_option maxRecDepth 100000 in
theorem field_Get.calls (k : Nat) (a0 : ByteArray) (a1 : Int) (a2 : Int) (r1 : Int) (r2 : Int) (r3 : Int) (w : World) (h : field_Get.f k a0 a1 a2 = some (r1, r2, r3)) :
   Calls Try.prog 31 #[.string a0, .int .i64 a1, .int .i64 a2] w fun e w' => e = .returned (.tuple #[.agg #[.int .u64 r1, .int .u64 r2], .int .i64 r3]) ∧ Below w.heap.size w w' := by
  have hu32 := Try.underlying32
  have HB := Aside0.mk (Below.refl w.heap.size w)
  have H : ((field_may.f k a0 a1 a2).bind fun t126 => (if t126 = 0 then (field_Get.l0 k a0 a1 a2 (wrap64 (Int.tdiv a1 8)) (wrap64 (Int.tdiv (wrap64 ((wrap64 ((wrap64 (a1 + a2)) + 8)) - 1)) 8)) (wrap64 ((wrap64 ((wrap64 (Int.tdiv (wrap64 ((wrap64 ((wrap64 (a1 + a2)) + 8)) - 1)) 8)) - (wrap64 (Int.tdiv a1 8)))) - 1)) 0 0 0) else (some (0, 0, t126)))) = some (r1, r2, r3) := h
  clear h
  replace H := Option.bind_eq_some_iff.mp H
  obtain ⟨t126, A40, H⟩ := H
  replace H : (if t126 = 0 then (field_Get.l0 k a0 a1 a2 (wrap64 (Int.tdiv a1 8)) (wrap64 (Int.tdiv (wrap64 ((wrap64 ((wrap64 (a1 + a2)) + 8)) - 1)) 8)) (wrap64 ((wrap64 ((wrap64 (Int.tdiv (wrap64 ((wrap64 ((wrap64 (a1 + a2)) + 8)) - 1)) 8)) - (wrap64 (Int.tdiv a1 8)))) - 1)) 0 0 0) else (some (0, 0, t126))) = some (r1, r2, r3) := H
  have A4 := Aside0.mk A40
  clear A40
  by_cases c5 : t126 = 0
  ·
   rw [if_pos c5] at H
   have c5b0 : (t126 == 0) = true := beq_iff_eq.mpr c5
   have c5b1 : (t126 != 0) = false := bne_eq_false_iff_eq.mpr c5
   clear c5
   have H' := Aside0.mk H
   clear H
   go_enter Try.func31, Try.ntmps31
   go_wp2_with (first | ((with_reducible refine gate_dst (N := 6) rfl ?_); refine box_event ?hg (N := 6) ?hd (cs := #[.int .u64 0, .int .u64 0]) (t := 32) ?hr ?_; (case hd => rfl); (case hg => rfl); (case hr => first | (go_simp; done) | (go_simp; rfl)); intro gb125 hg w6 hbox hb; have BK125 := Aside0.mk (hbox); have GW125 := Aside0.mk ((by rw [hg]; exact (below_size (by repeat (first | (with_reducible first | exact HB.out | apply below_alloc | apply pw_below_drewN | apply below_drew1) | exact HB.out))) : w.heap.size ≤ gb125)); have GE125 := Aside0.mk ((by rw [hg]; exact (below_size (by repeat (first | (with_reducible first | exact HB.out | apply below_alloc | apply pw_below_drewN | apply below_drew1) | exact HB.out))) : w.heap.size ≤ gb125)); replace HB := Aside0.mk (below_step (by repeat (first | (with_reducible first | exact HB.out | apply below_alloc | apply pw_below_drewN | apply below_drew1) | exact HB.out)) hb); clear hb hbox hg) | ((with_reducible refine gate_callee (f := 39) rfl ?_); refine goesL_ (some 17) rfl rfl Try.func39 (by kernel_rfl) rfl #[.string a0, .int .i64 a1, .int .i64 a2] rfl (by (try simp only [List.map_toArray, List.map_cons, List.map_nil]); first | done | rfl | (simp only [List.length_drop, List.length_take]; rfl)) ?_; (with_reducible refine (field_may.calls k a0 a1 a2 t126 _ A4.out).mono ?_); rintro e w' ⟨rfl, ⟨nd, rfl⟩⟩; refine ⟨_, rfl, ?_⟩) | ((with_reducible refine gate_dst (N := 11) rfl ?_); refine box_event ?hg (N := 11) ?hd (cs := #[.int .u64 0, .int .u64 0]) (t := 32) ?hr ?_; (case hd => rfl); (case hg => rfl); (case hr => first | (go_simp; done) | (go_simp; rfl)); intro gb127 hg w7 hbox hb; have BK127 := Aside0.mk (hbox); have GW127 := Aside0.mk ((by rw [hg]; exact (below_size (by repeat (first | (with_reducible first | exact HB.out | apply below_alloc | apply pw_below_drewN | apply below_drew1 | refine below_set ?_ GE125.out) | exact HB.out))) : w.heap.size ≤ gb127)); have GE127 := Aside0.mk ((by rw [hg]; exact (below_size (by repeat (first | (with_reducible first | exact HB.out | apply below_alloc | apply pw_below_drewN | apply below_drew1 | refine below_set ?_ GE125.out) | exact HB.out))) : w.heap.size ≤ gb127)); replace HB := Aside0.mk (below_step (by repeat (first | (with_reducible first | exact HB.out | apply below_alloc | apply pw_below_drewN | apply below_drew1 | refine below_set ?_ GE125.out) | exact HB.out)) hb); have NB125_127 := Aside0.mk ((by rw [hg]; exact Nat.ne_of_lt (blk_lt (bkA BK125.out)) : gb125 ≠ gb127)); have NB127_125 := Aside0.mk ((by rw [hg]; exact Nat.ne_of_gt (blk_lt (bkA BK125.out)) : gb127 ≠ gb125)); replace BK125 := Aside0.mk (blk_below (bkA BK125.out) hb); clear hb hbox hg))
   go_loopg [34] k (fun kq v34 w' => ∃ (x34_1 : Int) (x128000_1 : Int) (x128001_1 : Int), v34 = .int .i64 x34_1 ∧ Aside0 (field_Get.l0 kq a0 a1 a2 (wrap64 (Int.tdiv a1 8)) (wrap64 (Int.tdiv (wrap64 ((wrap64 ((wrap64 (a1 + a2)) + 8)) - 1)) 8)) (wrap64 ((wrap64 ((wrap64 (Int.tdiv (wrap64 ((wrap64 ((wrap64 (a1 + a2)) + 8)) - 1)) 8)) - (wrap64 (Int.tdiv a1 8)))) - 1)) x34_1 x128000_1 x128001_1 = some (r1, r2, r3)) ∧ Aside0 (kq ≤ k) ∧ Aside0 (w'.heap[gb125]? = some (.cells #[.int .u64 0, .int .u64 0] 32 (0, 0))) ∧ Aside0 (w'.heap[gb127]? = some (.cells #[.int .u64 x128000_1, .int .u64 x128001_1] 32 (0, 0))) ∧ Aside0 (Below w.heap.size w w'))
   case atStart => exact ⟨(0), (0), (0), (by first | rfl | (simp; done) | (simp [*]; done)), H', ⟨Nat.le_refl _⟩, ⟨by (with_reducible repeat (first | refine blk_drewN ?_ _ | refine blk_drew ?_ | refine blk_alloc ?_ _)); exact BK125.out⟩, ⟨by (with_reducible repeat (first | refine blk_drewN ?_ _ | refine blk_drew ?_ | refine blk_alloc ?_ _)); exact BK127.out⟩, ⟨by repeat (first | (with_reducible first | exact HB.out | apply below_alloc | apply pw_below_drewN | apply below_drew1 | refine below_set ?_ GE125.out | refine below_set ?_ GE127.out) | exact HB.out)⟩⟩
   case round =>
    clear H'
    try clear p2
    try clear c3
    try clear c5
    try clear c5b0
    try clear c5b1
    try clear p6
    obtain ⟨x34_1, x128000_1, x128001_1, rfl, HA, HK1, BK125, BK127, HB⟩ := hrel
    cases gk with
    | zero => exact absurd HA.out (by simp [field_Get.l0])
    | succ k1 =>
     have H := HA.out
     clear HA
     simp only [field_Get.l0] at H
     by_cases c8 : x34_1 < (wrap64 ((wrap64 ((wrap64 (Int.tdiv (wrap64 ((wrap64 ((wrap64 (a1 + a2)) + 8)) - 1)) 8)) - (wrap64 (Int.tdiv a1 8)))) - 1))
     ·
      rw [if_pos c8] at H
      have c8b0 : decide (x34_1 < (wrap64 ((wrap64 ((wrap64 (Int.tdiv (wrap64 ((wrap64 ((wrap64 (a1 + a2)) + 8)) - 1)) 8)) - (wrap64 (Int.tdiv a1 8)))) - 1))) = true := decide_eq_true c8
      clear c8
      replace H := Option.bind_eq_some_iff.mp H
      obtain ⟨⟨t128, t129⟩, A90, H⟩ := H
      replace H : (if 0 ≤ (wrap64 ((wrap64 (Int.tdiv a1 8)) + x34_1)) then (if (wrap64 ((wrap64 (Int.tdiv a1 8)) + x34_1)) < (a0.size : Int) then ((word_New.f (IntKind.u64.wrap (bt a0 (wrap64 ((wrap64 (Int.tdiv a1 8)) + x34_1))))).bind fun bt130 => ((word_Or.f t128 t129 bt130.1 bt130.2).bind fun bt132 => (field_Get.l0 k1 a0 a1 a2 (wrap64 (Int.tdiv a1 8)) (wrap64 (Int.tdiv (wrap64 ((wrap64 ((wrap64 (a1 + a2)) + 8)) - 1)) 8)) (wrap64 ((wrap64 ((wrap64 (Int.tdiv (wrap64 ((wrap64 ((wrap64 (a1 + a2)) + 8)) - 1)) 8)) - (wrap64 (Int.tdiv a1 8)))) - 1)) (wrap64 (x34_1 + 1)) bt132.1 bt132.2))) else (none)) else (none)) = some (r1, r2, r3) := H
      have A9 := Aside0.mk A90
      clear A90
      obtain ⟨ji10, hji10⟩ : ∃ j_ : Int, (wrap64 ((wrap64 (Int.tdiv a1 8)) + x34_1)) = j_ := ⟨_, rfl⟩
      replace H : (if 0 ≤ (ji10) then (if (ji10) < (a0.size : Int) then ((word_New.f (IntKind.u64.wrap (bt a0 (ji10)))).bind fun bt130 => ((word_Or.f t128 t129 bt130.1 bt130.2).bind fun bt132 => (field_Get.l0 k1 a0 a1 a2 (wrap64 (Int.tdiv a1 8)) (wrap64 (Int.tdiv (wrap64 ((wrap64 ((wrap64 (a1 + a2)) + 8)) - 1)) 8)) (wrap64 ((wrap64 ((wrap64 (Int.tdiv (wrap64 ((wrap64 ((wrap64 (a1 + a2)) + 8)) - 1)) 8)) - (wrap64 (Int.tdiv a1 8)))) - 1)) (wrap64 (x34_1 + 1)) bt132.1 bt132.2))) else (none)) else (none)) = some (r1, r2, r3) := by first | (rw [hji10] at H; exact H) | (simp only [hji10] at H ⊢; exact H)
      (try rw [hji10] at A9)
      have hji10w : (IntKind.i64.wrap ((wrap64 (Int.tdiv a1 8)) + x34_1)) = ji10 := (i64_w _).trans hji10
      by_cases c11 : 0 ≤ (ji10)
      ·
       rw [if_pos c11] at H
       have c11b0 : decide (0 ≤ (ji10)) = true := decide_eq_true c11
       clear c11
       by_cases c12 : (ji10) < (a0.size : Int)
       ·
        rw [if_pos c12] at H
        have c12b0 : decide ((ji10) < (a0.size : Int)) = true := decide_eq_true c12
        clear c12
        replace H := Option.bind_eq_some_iff.mp H
        obtain ⟨⟨t130, t131⟩, A140, H⟩ := H
        replace H : ((word_Or.f t128 t129 t130 t131).bind fun bt132 => (field_Get.l0 k1 a0 a1 a2 (wrap64 (Int.tdiv a1 8)) (wrap64 (Int.tdiv (wrap64 ((wrap64 ((wrap64 (a1 + a2)) + 8)) - 1)) 8)) (wrap64 ((wrap64 ((wrap64 (Int.tdiv (wrap64 ((wrap64 ((wrap64 (a1 + a2)) + 8)) - 1)) 8)) - (wrap64 (Int.tdiv a1 8)))) - 1)) (wrap64 (x34_1 + 1)) bt132.1 bt132.2)) = some (r1, r2, r3) := H
        have A14 := Aside0.mk A140
        clear A140
        replace H := Option.bind_eq_some_iff.mp H
        obtain ⟨⟨t132, t133⟩, A150, H⟩ := H
        replace H : (field_Get.l0 k1 a0 a1 a2 (wrap64 (Int.tdiv a1 8)) (wrap64 (Int.tdiv (wrap64 ((wrap64 ((wrap64 (a1 + a2)) + 8)) - 1)) 8)) (wrap64 ((wrap64 ((wrap64 (Int.tdiv (wrap64 ((wrap64 ((wrap64 (a1 + a2)) + 8)) - 1)) 8)) - (wrap64 (Int.tdiv a1 8)))) - 1)) (wrap64 (x34_1 + 1)) t132 t133) = some (r1, r2, r3) := H
        have A15 := Aside0.mk A150
        clear A150
        have H' := Aside0.mk H
        clear H
        try go_wp2
        replace BK125 := Aside0.mk (blk_drew BK125.out); replace BK127 := Aside0.mk (blk_drew BK127.out); replace HB := Aside0.mk (below_drew1 HB.out)
        have p13 : 0 ≤ ((ji10) : Int) := of_decide_eq_true (by first | (with_reducible assumption) | assumption)
        have q13 : (ji10) < (a0.size : Int) := of_decide_eq_true (by first | (with_reducible assumption) | assumption)
        have hx13 := bt_at a0 (ji10)
        replace p13 := eq_true p13
        replace q13 := eq_true q13
        refine start_ (n := 11) (S := fun w' => w'.cell? ⟨gb127, 0, none⟩ = some (.int .u64 x128000_1) ∧ w'.cell? ⟨gb127, 1, none⟩ = some (.int .u64 x128001_1)) (ds := [10]) #[F,F,F,F,F,F,F,F,F,F,F] (by kernel_rfl) rfl rfl ⟨(blk_cell BK127.out 0).trans rfl, (blk_cell BK127.out 1).trans rfl⟩ (fun hHeld => ?_); refine with_tabW field_Get.tab9 field_Get.bits9 (fun HT_ HW_ => ?_)
        generalize wr.drew = w16 at BK125 BK127 HB hHeld ⊢
        refine pure_ (i := 2) (N := some 39) (v := ?_) (a' := ?_) #[F,F,T,F,F,F,F,F,F,F,F] rfl rfl (any_of HT_.out (by kernel_rfl)) (fun _ _ _ h => h) (Or.inl ⟨by rfl, ?_⟩) ?_ ?_
        rotate_left
        ·
         intro w'
         go_simp
         with_reducible rfl
        rotate_left
        ·
         simp only [Act.put, List.setIfInBounds_toArray, List.set_cons_zero, List.set_cons_succ, i64_w, i32_w]
         rfl
        refine pure_ (i := 3) (N := some 40) (v := ?_) (a' := ?_) #[F,F,T,T,F,F,F,F,F,F,F] rfl rfl (any_of HT_.out (by kernel_rfl)) (fun _ _ _ h => h) (Or.inl ⟨by rfl, ?_⟩) ?_ ?_
        rotate_left
        ·
         intro w'
         go_simp
         with_reducible rfl
        rotate_left
        ·
         simp only [Act.put, List.setIfInBounds_toArray, List.set_cons_zero, List.set_cons_succ, i64_w, i32_w]
         rfl
        refine pure_ (i := 4) (N := some 41) (v := ?_) (a' := ?_) #[F,F,T,T,T,F,F,F,F,F,F] rfl rfl (any_of HT_.out (by kernel_rfl)) (fun _ _ _ h => h) (Or.inl ⟨by rfl, ?_⟩) ?_ ?_
        rotate_left
        ·
         intro w'
         go_simp
         with_reducible rfl
        rotate_left
        ·
         simp only [Act.put, List.setIfInBounds_toArray, List.set_cons_zero, List.set_cons_succ, i64_w, i32_w]
         rfl
        refine pure_ (i := 5) (N := some 42) (v := ?_) (a' := ?_) #[F,F,T,T,T,T,F,F,F,F,F] rfl rfl (any_of HT_.out (by kernel_rfl)) (fun _ _ _ h => h) (Or.inl ⟨by rfl, ?_⟩) ?_ ?_
        rotate_left
        ·
         intro w'
         go_simp
         with_reducible rfl
        rotate_left
        ·
         simp only [Act.put, List.setIfInBounds_toArray, List.set_cons_zero, List.set_cons_succ, i64_w, i32_w]
         rfl
        refine take_ (i := 0) (N := some 37) (v := ?_) (a' := ?_) #[T,F,T,T,T,T,F,F,F,F,F] rfl rfl (take_ofW HT_.out HW_.out (by kernel_rfl)) (fun _ _ _ h => h) (Or.inl ⟨by rfl, ?_⟩) hHeld ?_ ?_
        rotate_left
        ·
         rintro w' ⟨s0, s1⟩
         go_simp
         with_reducible rfl
        rotate_left
        ·
         simp only [Act.put, List.setIfInBounds_toArray, List.set_cons_zero, List.set_cons_succ, i64_w, i32_w]
         rfl
        refine take_ (i := 6) (N := some 43) (v := ?_) (a' := ?_) #[T,F,T,T,T,T,T,F,F,F,F] rfl rfl (take_ofW HT_.out HW_.out (by kernel_rfl)) (fun _ _ _ h => h) (Or.inl ⟨by rfl, ?_⟩) hHeld ?_ ?_
        rotate_left
        ·
         rintro w' ⟨s0, s1⟩
         go_simp
         with_reducible rfl
        rotate_left
        ·
         simp only [Act.put, List.setIfInBounds_toArray, List.set_cons_zero, List.set_cons_succ, i64_w, i32_w]
         rfl
        refine pure_ (i := 7) (N := some 44) (v := ?_) (a' := ?_) #[T,F,T,T,T,T,T,T,F,F,F] rfl rfl (any_of HT_.out (by kernel_rfl)) (fun _ _ _ h => h) (Or.inl ⟨by rfl, ?_⟩) ?_ ?_
        rotate_left
        ·
         intro w'
         go_simp
         with_reducible rfl
        rotate_left
        ·
         simp only [Act.put, List.setIfInBounds_toArray, List.set_cons_zero, List.set_cons_succ, i64_w, i32_w]
         rfl
        refine one_ (i := 1) (N := some 38) #[T,T,T,T,T,T,T,T,F,F,F] rfl rfl (one_of HT_.out (by kernel_rfl)) (by decide) (fun K hK => ?_)
        refine goes_ Try.func41 (by kernel_rfl) rfl #[.agg #[.int .u64 x128000_1, .int .u64 x128001_1], .int .i64 8] (by rfl) rfl rfl (by (try simp only [List.map_toArray, List.map_cons, List.map_nil]); first | done | rfl | (simp only [List.length_drop, List.length_take]; rfl)) ?_
        with_reducible refine (word_Left.calls x128000_1 x128001_1 8 t128 t129 _ A9.out).mono ?_
        rintro e w17 ⟨rfl, hb⟩
        refine ⟨_, rfl, ?_⟩
        have n0_ := Aside0.mk (blk_below (bkA BK125.out) hb); have n1_ := Aside0.mk (blk_below (bkA BK127.out) hb)
        have n2_ := Aside0.mk (below_step (by repeat (first | (with_reducible first | exact HB.out | apply below_alloc | apply pw_below_drewN | apply below_drew1 | refine below_set ?_ GE125.out | refine below_set ?_ GE127.out) | exact HB.out)) hb)
        clear BK125; clear BK127; clear HB; have BK125 := n0_; have BK127 := n1_; have HB := n2_; clear n0_ n1_ n2_; (try clear hb); (try clear hb2); (try clear hk); (try clear hi)
        refine hK.out _ _ ⟨(blk_cell BK127.out 0).trans rfl, (blk_cell BK127.out 1).trans rfl⟩ (fun hHeld => ?_)
        clear hK K
        refine norm_ (a' := ?_) ?_ ?_
        rotate_left
        ·
         show Act.put _ (some 38) _ = _
         simp only [Act.put, List.setIfInBounds_toArray, List.set_cons_zero, List.set_cons_succ, i64_w, i32_w]
         rfl
        refine one_ (i := 8) (N := some 45) #[T,T,T,T,T,T,T,T,T,F,F] rfl rfl (one_of HT_.out (by kernel_rfl)) (by decide) (fun K hK => ?_)
        refine goes_ Try.func42 (by kernel_rfl) rfl #[.int .u64 (IntKind.u64.wrap (bt a0 (ji10)))] (by rfl) rfl rfl (by (try simp only [List.map_toArray, List.map_cons, List.map_nil]); first | done | (simp only [hji10]; rfl) | rfl | (simp only [List.length_drop, List.length_take]; rfl)) ?_
        with_reducible refine (word_New.calls (IntKind.u64.wrap (bt a0 (ji10))) t130 t131 _ A14.out).mono ?_
        rintro e w18 ⟨rfl, hb⟩
        refine ⟨_, rfl, ?_⟩
        have n0_ := Aside0.mk (blk_below (bkA BK125.out) hb); have n1_ := Aside0.mk (blk_below (bkA BK127.out) hb)
        have n2_ := Aside0.mk (below_step (by repeat (first | (with_reducible first | exact HB.out | apply below_alloc | apply pw_below_drewN | apply below_drew1 | refine below_set ?_ GE125.out | refine below_set ?_ GE127.out) | exact HB.out)) hb)
        clear BK125; clear BK127; clear HB; have BK125 := n0_; have BK127 := n1_; have HB := n2_; clear n0_ n1_ n2_; (try clear hb); (try clear hb2); (try clear hk); (try clear hi)
        refine hK.out _ _ ⟨(blk_cell BK127.out 0).trans rfl, (blk_cell BK127.out 1).trans rfl⟩ (fun hHeld => ?_)
        clear hK K
        refine norm_ (a' := ?_) ?_ ?_
        rotate_left
        ·
         show Act.put _ (some 45) _ = _
         simp only [Act.put, List.setIfInBounds_toArray, List.set_cons_zero, List.set_cons_succ, i64_w, i32_w]
         rfl
        refine one_ (i := 9) (N := some 46) #[T,T,T,T,T,T,T,T,T,T,F] rfl rfl (one_of HT_.out (by kernel_rfl)) (by decide) (fun K hK => ?_)
        refine goes_ Try.func40 (by kernel_rfl) rfl #[.agg #[.int .u64 t128, .int .u64 t129], .agg #[.int .u64 t130, .int .u64 t131]] (by rfl) rfl rfl (by (try simp only [List.map_toArray, List.map_cons, List.map_nil]); first | done | rfl | (simp only [List.length_drop, List.length_take]; rfl)) ?_
        with_reducible refine (word_Or.calls t128 t129 t130 t131 t132 t133 _ A15.out).mono ?_
        rintro e w19 ⟨rfl, hb⟩
        refine ⟨_, rfl, ?_⟩
        have n0_ := Aside0.mk (blk_below (bkA BK125.out) hb); have n1_ := Aside0.mk (blk_below (bkA BK127.out) hb)
        have n2_ := Aside0.mk (below_step (by repeat (first | (with_reducible first | exact HB.out | apply below_alloc | apply pw_below_drewN | apply below_drew1 | refine below_set ?_ GE125.out | refine below_set ?_ GE127.out) | exact HB.out)) hb)
        clear BK125; clear BK127; clear HB; have BK125 := n0_; have BK127 := n1_; have HB := n2_; clear n0_ n1_ n2_; (try clear hb); (try clear hb2); (try clear hk); (try clear hi)
        refine hK.out _ _ ⟨(blk_cell BK127.out 0).trans rfl, (blk_cell BK127.out 1).trans rfl⟩ (fun hHeld => ?_)
        clear hK K
        refine norm_ (a' := ?_) ?_ ?_
        rotate_left
        ·
         show Act.put _ (some 46) _ = _
         simp only [Act.put, List.setIfInBounds_toArray, List.set_cons_zero, List.set_cons_succ, i64_w, i32_w]
         rfl
        refine last_ (i := 10) (N := none) #[T,T,T,T,T,T,T,T,T,T,T] rfl rfl (one_of HT_.out (by kernel_rfl)) (by decide) (fun K hK => ?_)
        have hs20 : w19.cell? ⟨gb127, 0, none⟩ = some (.int .u64 x128000_1) := (blk_cell BK127.out 0).trans rfl
        have hfs20 := blk_frozen BK127.out 0
        have hns20_0 := NB125_127.out
        have hms20_0 := NB127_125.out
        have hs21 : w19.cell? ⟨gb127, 1, none⟩ = some (.int .u64 x128001_1) := (blk_cell BK127.out 1).trans rfl
        have hfs21 := blk_frozen BK127.out 1
        have hns21_0 := NB125_127.out
        have hms21_0 := NB127_125.out
        refine skip_ (w1 := ?_) (by rfl) rfl ?_ ?_
        rotate_left
        ·
         go_simp
         rfl
        refine hK.out _ _ ?_
        clear hK K
        refine done_ (done_of HT_.out (by kernel_rfl)) ?_
        try go_wp2
        go_roundg k1
        case measure => have := HK1.out; omega
        case rel => exact ⟨(wrap64 (x34_1 + 1)), (t132), (t133), (by first | rfl | (simp; done) | (simp [*]; done)), H', ⟨by have := HK1.out; omega⟩, ⟨by (with_reducible repeat (first | refine blk_drewN ?_ _ | refine blk_drew ?_ | refine blk_alloc ?_ _)); refine blk_far ?_ NB125_127.out _; (with_reducible repeat (first | refine blk_drewN ?_ _ | refine blk_drew ?_ | refine blk_alloc ?_ _)); refine blk_far ?_ NB125_127.out _; (with_reducible repeat (first | refine blk_drewN ?_ _ | refine blk_drew ?_ | refine blk_alloc ?_ _)); exact BK125.out⟩, ⟨by (with_reducible repeat (first | refine blk_drewN ?_ _ | refine blk_drew ?_ | refine blk_alloc ?_ _)); refine blk_put (cs := #[.int .u64 t132, .int .u64 x128001_1]) ?_ 1 _ rfl; (with_reducible repeat (first | refine blk_drewN ?_ _ | refine blk_drew ?_ | refine blk_alloc ?_ _)); refine blk_put (cs := #[.int .u64 x128000_1, .int .u64 x128001_1]) ?_ 0 _ rfl; (with_reducible repeat (first | refine blk_drewN ?_ _ | refine blk_drew ?_ | refine blk_alloc ?_ _)); exact BK127.out⟩, ⟨by repeat (first | (with_reducible first | exact HB.out | apply below_alloc | apply pw_below_drewN | apply below_drew1 | refine below_set ?_ GE125.out | refine below_set ?_ GE127.out) | exact HB.out)⟩⟩
       ·
        rw [if_neg c12] at H
        exact absurd H (by simp)
      ·
       rw [if_neg c11] at H
       exact absurd H (by simp)
     ·
      rw [if_neg c8] at H
      have c8b0 : decide (x34_1 < (wrap64 ((wrap64 ((wrap64 (Int.tdiv (wrap64 ((wrap64 ((wrap64 (a1 + a2)) + 8)) - 1)) 8)) - (wrap64 (Int.tdiv a1 8)))) - 1))) = false := decide_eq_false c8
      clear c8
      replace H := Option.bind_eq_some_iff.mp H
      obtain ⟨⟨t134, t135⟩, A220, H⟩ := H
      replace H : (if 0 ≤ (wrap64 ((wrap64 (Int.tdiv (wrap64 ((wrap64 ((wrap64 (a1 + a2)) + 8)) - 1)) 8)) - 1)) then (if (wrap64 ((wrap64 (Int.tdiv (wrap64 ((wrap64 ((wrap64 (a1 + a2)) + 8)) - 1)) 8)) - 1)) < (a0.size : Int) then (if 0 ≤ (wrap64 ((wrap64 ((wrap64 ((wrap64 (Int.tdiv (wrap64 ((wrap64 ((wrap64 (a1 + a2)) + 8)) - 1)) 8)) * 8)) - a1)) - a2)) then ((word_New.f (IntKind.u64.wrap (shr .u8 (bt a0 (wrap64 ((wrap64 (Int.tdiv (wrap64 ((wrap64 ((wrap64 (a1 + a2)) + 8)) - 1)) 8)) - 1))) (wrap64 ((wrap64 ((wrap64 ((wrap64 (Int.tdiv (wrap64 ((wrap64 ((wrap64 (a1 + a2)) + 8)) - 1)) 8)) * 8)) - a1)) - a2))))).bind fun bt136 => ((word_Or.f t134 t135 bt136.1 bt136.2).bind fun bt138 => ((word_Cut.f bt138.1 bt138.2 a2).bind fun bt140 => (some (bt140.1, bt140.2, 0))))) else (none)) else (none)) else (none)) = some (r1, r2, r3) := H
      have A22 := Aside0.mk A220
      clear A220
      obtain ⟨ji23, hji23⟩ : ∃ j_ : Int, (wrap64 ((wrap64 (Int.tdiv (wrap64 ((wrap64 ((wrap64 (a1 + a2)) + 8)) - 1)) 8)) - 1)) = j_ := ⟨_, rfl⟩
      replace H : (if 0 ≤ (ji23) then (if (ji23) < (a0.size : Int) then (if 0 ≤ (wrap64 ((wrap64 ((wrap64 ((wrap64 (Int.tdiv (wrap64 ((wrap64 ((wrap64 (a1 + a2)) + 8)) - 1)) 8)) * 8)) - a1)) - a2)) then ((word_New.f (IntKind.u64.wrap (shr .u8 (bt a0 (ji23)) (wrap64 ((wrap64 ((wrap64 ((wrap64 (Int.tdiv (wrap64 ((wrap64 ((wrap64 (a1 + a2)) + 8)) - 1)) 8)) * 8)) - a1)) - a2))))).bind fun bt136 => ((word_Or.f t134 t135 bt136.1 bt136.2).bind fun bt138 => ((word_Cut.f bt138.1 bt138.2 a2).bind fun bt140 => (some (bt140.1, bt140.2, 0))))) else (none)) else (none)) else (none)) = some (r1, r2, r3) := by first | (rw [hji23] at H; exact H) | (simp only [hji23] at H ⊢; exact H)
      (try rw [hji23] at A22)
      have hji23w : (IntKind.i64.wrap ((wrap64 (Int.tdiv (wrap64 ((wrap64 ((wrap64 (a1 + a2)) + 8)) - 1)) 8)) - 1)) = ji23 := (i64_w _).trans hji23
      by_cases c24 : 0 ≤ (ji23)
      ·
       rw [if_pos c24] at H
       have c24b0 : decide (0 ≤ (ji23)) = true := decide_eq_true c24
       clear c24
       by_cases c25 : (ji23) < (a0.size : Int)
       ·
        rw [if_pos c25] at H
        have c25b0 : decide ((ji23) < (a0.size : Int)) = true := decide_eq_true c25
        clear c25
        obtain ⟨ji27, hji27⟩ : ∃ j_ : Int, (wrap64 ((wrap64 ((wrap64 ((wrap64 (Int.tdiv (wrap64 ((wrap64 ((wrap64 (a1 + a2)) + 8)) - 1)) 8)) * 8)) - a1)) - a2)) = j_ := ⟨_, rfl⟩
        replace H : (if 0 ≤ (ji27) then ((word_New.f (IntKind.u64.wrap (shr .u8 (bt a0 (ji23)) (ji27)))).bind fun bt136 => ((word_Or.f t134 t135 bt136.1 bt136.2).bind fun bt138 => ((word_Cut.f bt138.1 bt138.2 a2).bind fun bt140 => (some (bt140.1, bt140.2, 0))))) else (none)) = some (r1, r2, r3) := by first | (rw [hji27] at H; exact H) | (simp only [hji27] at H ⊢; exact H)
        (try rw [hji27] at A22)
        have hji27w : (IntKind.i64.wrap ((wrap64 ((wrap64 ((wrap64 (Int.tdiv (wrap64 ((wrap64 ((wrap64 (a1 + a2)) + 8)) - 1)) 8)) * 8)) - a1)) - a2)) = ji27 := (i64_w _).trans hji27
        by_cases c28 : 0 ≤ (ji27)
        ·
         rw [if_pos c28] at H
         have c28b0 := eq_true c28
         have c28b1 : decide (0 ≤ (ji27)) = true := decide_eq_true c28
         clear c28
         obtain ⟨ji29, hji29⟩ : ∃ j_ : Int, (shr .u8 (bt a0 (ji23)) (ji27)) = j_ := ⟨_, rfl⟩
         replace H : ((word_New.f (IntKind.u64.wrap (ji29))).bind fun bt136 => ((word_Or.f t134 t135 bt136.1 bt136.2).bind fun bt138 => ((word_Cut.f bt138.1 bt138.2 a2).bind fun bt140 => (some (bt140.1, bt140.2, 0))))) = some (r1, r2, r3) := by first | (rw [hji29] at H; exact H) | (simp only [hji29] at H ⊢; exact H)
         (try rw [hji29] at A22)
         have hji29_ : ((bt a0 (ji23)) / 2 ^ min (ji27).toNat 8) = ji29 := hji29
         have hji29z : (ji27) ≤ 8 → ((bt a0 (ji23)) / 2 ^ (ji27).toNat) = ji29 := shr_small hji29
         replace H := Option.bind_eq_some_iff.mp H
         obtain ⟨⟨t136, t137⟩, A300, H⟩ := H
         replace H : ((word_Or.f t134 t135 t136 t137).bind fun bt138 => ((word_Cut.f bt138.1 bt138.2 a2).bind fun bt140 => (some (bt140.1, bt140.2, 0)))) = some (r1, r2, r3) := H
         have A30 := Aside0.mk A300
         clear A300
         replace H := Option.bind_eq_some_iff.mp H
         obtain ⟨⟨t138, t139⟩, A310, H⟩ := H
         replace H : ((word_Cut.f t138 t139 a2).bind fun bt140 => (some (bt140.1, bt140.2, 0))) = some (r1, r2, r3) := H
         have A31 := Aside0.mk A310
         clear A310
         replace H := Option.bind_eq_some_iff.mp H
         obtain ⟨⟨t140, t141⟩, A320, H⟩ := H
         replace H : (some (t140, t141, 0)) = some (r1, r2, r3) := H
         have A32 := Aside0.mk A320
         clear A320
         simp only [Option.some.injEq, Prod.mk.injEq] at H
         obtain ⟨rfl, rfl, rfl⟩ := H
         try go_wp2
         replace BK125 := Aside0.mk (blk_drew BK125.out); replace BK127 := Aside0.mk (blk_drew BK127.out); replace HB := Aside0.mk (below_drew1 HB.out)
         have p26 : 0 ≤ ((ji23) : Int) := of_decide_eq_true (by first | (with_reducible assumption) | assumption)
         have q26 : (ji23) < (a0.size : Int) := of_decide_eq_true (by first | (with_reducible assumption) | assumption)
         have hx26 := bt_at a0 (ji23)
         replace p26 := eq_true p26
         replace q26 := eq_true q26
         refine start_ (n := 14) (S := fun w' => w'.cell? ⟨gb127, 0, none⟩ = some (.int .u64 x128000_1) ∧ w'.cell? ⟨gb127, 1, none⟩ = some (.int .u64 x128001_1)) (ds := [13]) #[F,F,F,F,F,F,F,F,F,F,F,F,F,F] (by kernel_rfl) rfl rfl ⟨(blk_cell BK127.out 0).trans rfl, (blk_cell BK127.out 1).trans rfl⟩ (fun hHeld => ?_); refine with_tabW field_Get.tab12 field_Get.bits12 (fun HT_ HW_ => ?_)
         generalize wr.drew = w33 at BK125 BK127 HB hHeld ⊢
         refine pure_ (i := 1) (N := some 55) (v := ?_) (a' := ?_) #[F,T,F,F,F,F,F,F,F,F,F,F,F,F] rfl rfl (any_of HT_.out (by kernel_rfl)) (fun _ _ _ h => h) (Or.inl ⟨by rfl, ?_⟩) ?_ ?_
         rotate_left
         ·
          intro w'
          go_simp
          with_reducible rfl
         rotate_left
         ·
          simp only [Act.put, List.setIfInBounds_toArray, List.set_cons_zero, List.set_cons_succ, i64_w, i32_w]
          rfl
         refine pure_ (i := 2) (N := some 56) (v := ?_) (a' := ?_) #[F,T,T,F,F,F,F,F,F,F,F,F,F,F] rfl rfl (any_of HT_.out (by kernel_rfl)) (fun _ _ _ h => h) (Or.inl ⟨by rfl, ?_⟩) ?_ ?_
         rotate_left
         ·
          intro w'
          go_simp
          with_reducible rfl
         rotate_left
         ·
          simp only [Act.put, List.setIfInBounds_toArray, List.set_cons_zero, List.set_cons_succ, i64_w, i32_w]
          rfl
         refine pure_ (i := 4) (N := some 58) (v := ?_) (a' := ?_) #[F,T,T,F,T,F,F,F,F,F,F,F,F,F] rfl rfl (any_of HT_.out (by kernel_rfl)) (fun _ _ _ h => h) (Or.inl ⟨by rfl, ?_⟩) ?_ ?_
         rotate_left
         ·
          intro w'
          go_simp
          with_reducible rfl
         rotate_left
         ·
          simp only [Act.put, List.setIfInBounds_toArray, List.set_cons_zero, List.set_cons_succ, i64_w, i32_w]
          rfl
         refine pure_ (i := 5) (N := some 59) (v := ?_) (a' := ?_) #[F,T,T,F,T,T,F,F,F,F,F,F,F,F] rfl rfl (any_of HT_.out (by kernel_rfl)) (fun _ _ _ h => h) (Or.inl ⟨by rfl, ?_⟩) ?_ ?_
         rotate_left
         ·
          intro w'
          go_simp
          with_reducible rfl
         rotate_left
         ·
          simp only [Act.put, List.setIfInBounds_toArray, List.set_cons_zero, List.set_cons_succ, i64_w, i32_w]
          rfl
         refine pure_ (i := 6) (N := some 60) (v := ?_) (a' := ?_) #[F,T,T,F,T,T,T,F,F,F,F,F,F,F] rfl rfl (any_of HT_.out (by kernel_rfl)) (fun _ _ _ h => h) (Or.inl ⟨by rfl, ?_⟩) ?_ ?_
         rotate_left
         ·
          intro w'
          go_simp
          with_reducible rfl
         rotate_left
         ·
          simp only [Act.put, List.setIfInBounds_toArray, List.set_cons_zero, List.set_cons_succ, i64_w, i32_w]
          rfl
         refine pure_ (i := 8) (N := some 62) (v := ?_) (a' := ?_) #[F,T,T,F,T,T,T,F,T,F,F,F,F,F] rfl rfl (any_of HT_.out (by kernel_rfl)) (fun _ _ _ h => h) (Or.inl ⟨by rfl, ?_⟩) ?_ ?_
         rotate_left
         ·
          intro w'
          go_simp
          with_reducible rfl
         rotate_left
         ·
          simp only [Act.put, List.setIfInBounds_toArray, List.set_cons_zero, List.set_cons_succ, i64_w, i32_w]
          rfl
         refine take_ (i := 0) (N := some 54) (v := ?_) (a' := ?_) #[T,T,T,F,T,T,T,F,T,F,F,F,F,F] rfl rfl (take_ofW HT_.out HW_.out (by kernel_rfl)) (fun _ _ _ h => h) (Or.inl ⟨by rfl, ?_⟩) hHeld ?_ ?_
         rotate_left
         ·
          rintro w' ⟨s0, s1⟩
          go_simp
          with_reducible rfl
         rotate_left
         ·
          simp only [Act.put, List.setIfInBounds_toArray, List.set_cons_zero, List.set_cons_succ, i64_w, i32_w]
          rfl
         refine take_ (i := 7) (N := some 61) (v := ?_) (a' := ?_) #[T,T,T,F,T,T,T,T,T,F,F,F,F,F] rfl rfl (take_ofW HT_.out HW_.out (by kernel_rfl)) (fun _ _ _ h => h) (Or.inl ⟨by rfl, ?_⟩) hHeld ?_ ?_
         rotate_left
         ·
          rintro w' ⟨s0, s1⟩
          go_simp
          with_reducible rfl
         rotate_left
         ·
          simp only [Act.put, List.setIfInBounds_toArray, List.set_cons_zero, List.set_cons_succ, i64_w, i32_w]
          rfl
         refine pure_ (i := 9) (N := some 63) (v := ?_) (a' := ?_) #[T,T,T,F,T,T,T,T,T,T,F,F,F,F] rfl rfl (any_of HT_.out (by kernel_rfl)) (fun _ _ _ h => h) (Or.inl ⟨by rfl, ?_⟩) ?_ ?_
         rotate_left
         ·
          intro w'
          go_simp
          with_reducible rfl
         rotate_left
         ·
          simp only [Act.put, List.setIfInBounds_toArray, List.set_cons_zero, List.set_cons_succ, i64_w, i32_w]
          rfl
         refine pure_ (i := 10) (N := some 64) (v := ?_) (a' := ?_) #[T,T,T,F,T,T,T,T,T,T,T,F,F,F] rfl rfl (any_of HT_.out (by kernel_rfl)) (fun _ _ _ h => h) (Or.inl ⟨by rfl, ?_⟩) ?_ ?_
         rotate_left
         ·
          intro w'
          go_simp
          with_reducible rfl
         rotate_left
         ·
          simp only [Act.put, List.setIfInBounds_toArray, List.set_cons_zero, List.set_cons_succ, i64_w, i32_w]
          rfl
         refine one_ (i := 3) (N := some 57) #[T,T,T,T,T,T,T,T,T,T,T,F,F,F] rfl rfl (one_of HT_.out (by kernel_rfl)) (by decide) (fun K hK => ?_)
         refine goes_ Try.func41 (by kernel_rfl) rfl #[.agg #[.int .u64 x128000_1, .int .u64 x128001_1], .int .i64 (wrap64 (8 - (ji27)))] (by rfl) rfl rfl (by (try simp only [List.map_toArray, List.map_cons, List.map_nil]); first | done | (simp only [hji27]; rfl) | rfl | (simp only [List.length_drop, List.length_take]; rfl)) ?_
         with_reducible refine (word_Left.calls x128000_1 x128001_1 (wrap64 (8 - (ji27))) t134 t135 _ A22.out).mono ?_
         rintro e w34 ⟨rfl, hb⟩
         refine ⟨_, rfl, ?_⟩
         have n0_ := Aside0.mk (blk_below (bkA BK125.out) hb); have n1_ := Aside0.mk (blk_below (bkA BK127.out) hb)
         have n2_ := Aside0.mk (below_step (by repeat (first | (with_reducible first | exact HB.out | apply below_alloc | apply pw_below_drewN | apply below_drew1 | refine below_set ?_ GE125.out | refine below_set ?_ GE127.out) | exact HB.out)) hb)
         clear BK125; clear BK127; clear HB; have BK125 := n0_; have BK127 := n1_; have HB := n2_; clear n0_ n1_ n2_; (try clear hb); (try clear hb2); (try clear hk); (try clear hi)
         refine hK.out _ _ ⟨(blk_cell BK127.out 0).trans rfl, (blk_cell BK127.out 1).trans rfl⟩ (fun hHeld => ?_)
         clear hK K
         refine norm_ (a' := ?_) ?_ ?_
         rotate_left
         ·
          show Act.put _ (some 57) _ = _
          simp only [Act.put, List.setIfInBounds_toArray, List.set_cons_zero, List.set_cons_succ, i64_w, i32_w]
          rfl
         refine one_ (i := 11) (N := some 65) #[T,T,T,T,T,T,T,T,T,T,T,T,F,F] rfl rfl (one_of HT_.out (by kernel_rfl)) (by decide) (fun K hK => ?_)
         refine goes_ Try.func42 (by kernel_rfl) rfl #[.int .u64 (IntKind.u64.wrap (ji29))] (by rfl) rfl rfl (by (try simp only [List.map_toArray, List.map_cons, List.map_nil]); first | done | (simp only [hji29]; rfl) | rfl | (simp only [List.length_drop, List.length_take]; rfl)) ?_
         with_reducible refine (word_New.calls (IntKind.u64.wrap (ji29)) t136 t137 _ A30.out).mono ?_
         rintro e w35 ⟨rfl, hb⟩
         refine ⟨_, rfl, ?_⟩
         have n0_ := Aside0.mk (blk_below (bkA BK125.out) hb); have n1_ := Aside0.mk (blk_below (bkA BK127.out) hb)
         have n2_ := Aside0.mk (below_step (by repeat (first | (with_reducible first | exact HB.out | apply below_alloc | apply pw_below_drewN | apply below_drew1 | refine below_set ?_ GE125.out | refine below_set ?_ GE127.out) | exact HB.out)) hb)
         clear BK125; clear BK127; clear HB; have BK125 := n0_; have BK127 := n1_; have HB := n2_; clear n0_ n1_ n2_; (try clear hb); (try clear hb2); (try clear hk); (try clear hi)
         refine hK.out _ _ ⟨(blk_cell BK127.out 0).trans rfl, (blk_cell BK127.out 1).trans rfl⟩ (fun hHeld => ?_)
         clear hK K
         refine norm_ (a' := ?_) ?_ ?_
         rotate_left
         ·
          show Act.put _ (some 65) _ = _
          simp only [Act.put, List.setIfInBounds_toArray, List.set_cons_zero, List.set_cons_succ, i64_w, i32_w]
          rfl
         refine one_ (i := 12) (N := some 66) #[T,T,T,T,T,T,T,T,T,T,T,T,T,F] rfl rfl (one_of HT_.out (by kernel_rfl)) (by decide) (fun K hK => ?_)
         refine goes_ Try.func40 (by kernel_rfl) rfl #[.agg #[.int .u64 t134, .int .u64 t135], .agg #[.int .u64 t136, .int .u64 t137]] (by rfl) rfl rfl (by (try simp only [List.map_toArray, List.map_cons, List.map_nil]); first | done | rfl | (simp only [List.length_drop, List.length_take]; rfl)) ?_
         with_reducible refine (word_Or.calls t134 t135 t136 t137 t138 t139 _ A31.out).mono ?_
         rintro e w36 ⟨rfl, hb⟩
         refine ⟨_, rfl, ?_⟩
         have n0_ := Aside0.mk (blk_below (bkA BK125.out) hb); have n1_ := Aside0.mk (blk_below (bkA BK127.out) hb)
         have n2_ := Aside0.mk (below_step (by repeat (first | (with_reducible first | exact HB.out | apply below_alloc | apply pw_below_drewN | apply below_drew1 | refine below_set ?_ GE125.out | refine below_set ?_ GE127.out) | exact HB.out)) hb)
         clear BK125; clear BK127; clear HB; have BK125 := n0_; have BK127 := n1_; have HB := n2_; clear n0_ n1_ n2_; (try clear hb); (try clear hb2); (try clear hk); (try clear hi)
         refine hK.out _ _ ⟨(blk_cell BK127.out 0).trans rfl, (blk_cell BK127.out 1).trans rfl⟩ (fun hHeld => ?_)
         clear hK K
         refine norm_ (a' := ?_) ?_ ?_
         rotate_left
         ·
          show Act.put _ (some 66) _ = _
          simp only [Act.put, List.setIfInBounds_toArray, List.set_cons_zero, List.set_cons_succ, i64_w, i32_w]
          rfl
         refine last_ (i := 13) (N := none) #[T,T,T,T,T,T,T,T,T,T,T,T,T,T] rfl rfl (one_of HT_.out (by kernel_rfl)) (by decide) (fun K hK => ?_)
         have hs37 : w36.cell? ⟨gb127, 0, none⟩ = some (.int .u64 x128000_1) := (blk_cell BK127.out 0).trans rfl
         have hfs37 := blk_frozen BK127.out 0
         have hns37_0 := NB125_127.out
         have hms37_0 := NB127_125.out
         have hs38 : w36.cell? ⟨gb127, 1, none⟩ = some (.int .u64 x128001_1) := (blk_cell BK127.out 1).trans rfl
         have hfs38 := blk_frozen BK127.out 1
         have hns38_0 := NB125_127.out
         have hms38_0 := NB127_125.out
         refine skip_ (w1 := ?_) (by rfl) rfl ?_ ?_
         rotate_left
         ·
          go_simp
          rfl
         refine hK.out _ _ ?_
         clear hK K
         refine done_ (done_of HT_.out (by kernel_rfl)) ?_
         have hnb39 := NB127_125.out
         have hnc39 := NB125_127.out
         have hcz40_0 : w36.cell? ⟨gb127, 0, none⟩ = some (.int .u64 x128000_1) := (blk_cell BK127.out 0).trans rfl
         have hcz40_1 : w36.cell? ⟨gb127, 1, none⟩ = some (.int .u64 x128001_1) := (blk_cell BK127.out 1).trans rfl
         have hfz40_0 := blk_frozen BK127.out 0
         have hfz40_1 := blk_frozen BK127.out 1
         try go_wp2_with (first | ((with_reducible refine gate_callee (f := 43) rfl ?_); refine goesL_ (some 69) rfl rfl Try.func43 (by kernel_rfl) rfl #[.agg #[.int .u64 t138, .int .u64 t139], .int .i64 a2] rfl (by (try simp only [List.map_toArray, List.map_cons, List.map_nil]); first | done | rfl | (simp only [List.length_drop, List.length_take]; rfl)) ?_; (with_reducible refine (word_Cut.calls t138 t139 a2 t140 t141 _ A32.out).mono ?_); rintro e w41 ⟨rfl, hb⟩; refine ⟨_, rfl, ?_⟩; replace BK125 := Aside0.mk (blk_below (g := gb125) (o := .cells #[.int .u64 0, .int .u64 0] 32 (0, 0)) (by (with_reducible repeat (first | refine blk_drewN ?_ _ | refine blk_drew ?_ | refine blk_alloc ?_ _)); refine blk_far ?_ NB125_127.out _; (with_reducible repeat (first | refine blk_drewN ?_ _ | refine blk_drew ?_ | refine blk_alloc ?_ _)); refine blk_far ?_ NB125_127.out _; (with_reducible repeat (first | refine blk_drewN ?_ _ | refine blk_drew ?_ | refine blk_alloc ?_ _)); exact BK125.out) hb); replace BK127 := Aside0.mk (blk_below (g := gb127) (o := .cells #[.int .u64 t138, .int .u64 t139] 32 (0, 0)) (by (with_reducible repeat (first | refine blk_drewN ?_ _ | refine blk_drew ?_ | refine blk_alloc ?_ _)); refine blk_put (cs := #[.int .u64 t138, .int .u64 x128001_1]) ?_ 1 _ rfl; (with_reducible repeat (first | refine blk_drewN ?_ _ | refine blk_drew ?_ | refine blk_alloc ?_ _)); refine blk_put (cs := #[.int .u64 x128000_1, .int .u64 x128001_1]) ?_ 0 _ rfl; (with_reducible repeat (first | refine blk_drewN ?_ _ | refine blk_drew ?_ | refine blk_alloc ?_ _)); exact BK127.out) hb); replace HB := Aside0.mk (below_step (by repeat (first | (with_reducible first | exact HB.out | apply below_alloc | apply pw_below_drewN | apply below_drew1 | refine below_set ?_ GE125.out | refine below_set ?_ GE127.out) | exact HB.out)) hb); (try clear hb); (try clear hb2); (try clear hk); (try clear hi); have hcz42_0 : w41.cell? ⟨gb125, 0, none⟩ = some (.int .u64 0) := (blk_cell BK125.out 0).trans rfl; have hcz42_1 : w41.cell? ⟨gb125, 1, none⟩ = some (.int .u64 0) := (blk_cell BK125.out 1).trans rfl; have hfz42_0 := blk_frozen BK125.out 0; have hfz42_1 := blk_frozen BK125.out 1))
         refine bodyPost_ret (results_ct rfl _ _ gb125 32 #[.int .u64 t140, .int .u64 t141] (0, 0) _ rfl (by (with_reducible repeat (first | refine blk_drewN ?_ _ | refine blk_drew ?_ | refine blk_alloc ?_ _)); refine blk_put (cs := #[.int .u64 t140, .int .u64 0]) ?_ 1 _ rfl; (with_reducible repeat (first | refine blk_drewN ?_ _ | refine blk_drew ?_ | refine blk_alloc ?_ _)); refine blk_put (cs := #[.int .u64 0, .int .u64 0]) ?_ 0 _ rfl; (with_reducible repeat (first | refine blk_drewN ?_ _ | refine blk_drew ?_ | refine blk_alloc ?_ _)); exact BK125.out) Try.underlying32 rfl (by kernel_rfl)) rfl ?_
         exact ⟨by first | rfl | (simp [errW_none, errW_some] <;> rfl) | (simp only [← hji23, ← hji27, ← hji29]; first | rfl | (simp [errW_none, errW_some] <;> rfl)) | (simp [*, errW_none, errW_some] <;> rfl), by repeat (first | (with_reducible first | exact HB.out | apply below_alloc | apply pw_below_drewN | apply below_drew1 | refine below_set ?_ GE125.out | refine below_set ?_ GE127.out) | exact HB.out)⟩
        ·
         rw [if_neg c28] at H
         exact absurd H (by simp)
       ·
        rw [if_neg c25] at H
        exact absurd H (by simp)
      ·
       rw [if_neg c24] at H
       exact absurd H (by simp)
  ·
   rw [if_neg c5] at H
   have c5b0 : (t126 == 0) = false := beq_eq_false_iff_ne.mpr c5
   have c5b1 : (t126 != 0) = true := bne_iff_ne.mpr c5
   simp only [Option.some.injEq, Prod.mk.injEq] at H
   obtain ⟨rfl, rfl, rfl⟩ := H
   go_enter Try.func31, Try.ntmps31
   go_wp2_with (first | ((with_reducible refine gate_dst (N := 6) rfl ?_); refine box_event ?hg (N := 6) ?hd (cs := #[.int .u64 0, .int .u64 0]) (t := 32) ?hr ?_; (case hd => rfl); (case hg => rfl); (case hr => first | (go_simp; done) | (go_simp; rfl)); intro gb125 hg w43 hbox hb; have BK125 := Aside0.mk (hbox); have GW125 := Aside0.mk ((by rw [hg]; exact (below_size (by repeat (first | (with_reducible first | exact HB.out | apply below_alloc | apply pw_below_drewN | apply below_drew1) | exact HB.out))) : w.heap.size ≤ gb125)); have GE125 := Aside0.mk ((by rw [hg]; exact (below_size (by repeat (first | (with_reducible first | exact HB.out | apply below_alloc | apply pw_below_drewN | apply below_drew1) | exact HB.out))) : w.heap.size ≤ gb125)); replace HB := Aside0.mk (below_step (by repeat (first | (with_reducible first | exact HB.out | apply below_alloc | apply pw_below_drewN | apply below_drew1) | exact HB.out)) hb); clear hb hbox hg) | ((with_reducible refine gate_callee (f := 39) rfl ?_); refine goesL_ (some 17) rfl rfl Try.func39 (by kernel_rfl) rfl #[.string a0, .int .i64 a1, .int .i64 a2] rfl (by (try simp only [List.map_toArray, List.map_cons, List.map_nil]); first | done | rfl | (simp only [List.length_drop, List.length_take]; rfl)) ?_; (with_reducible refine (field_may.calls k a0 a1 a2 t126 _ A4.out).mono ?_); rintro e w' ⟨rfl, ⟨nd, rfl⟩⟩; refine ⟨_, rfl, ?_⟩; (try (rw [drewN_self w43]; generalize hq_ : World.drewN w43 _ = w43; replace BK125 : Aside0 (w43.heap[gb125]? = some (.cells #[.int .u64 0, .int .u64 0] 32 (0, 0))) := ⟨by rw [← hq_]; exact (bkA BK125.out)⟩; replace HB : Aside0 (Below w.heap.size w w43) := ⟨by rw [← hq_]; exact (by repeat (first | (with_reducible first | exact HB.out | apply below_alloc | apply pw_below_drewN | apply below_drew1 | refine below_set ?_ GE125.out) | exact HB.out))⟩; clear hq_)); have hcz44_0 : w43.cell? ⟨gb125, 0, none⟩ = some (.int .u64 0) := (blk_cell BK125.out 0).trans rfl; have hcz44_1 : w43.cell? ⟨gb125, 1, none⟩ = some (.int .u64 0) := (blk_cell BK125.out 1).trans rfl; have hfz44_0 := blk_frozen BK125.out 0; have hfz44_1 := blk_frozen BK125.out 1))
   refine bodyPost_ret (results_ct rfl _ _ gb125 32 #[.int .u64 0, .int .u64 0] (0, 0) _ rfl (by (with_reducible repeat (first | refine blk_drewN ?_ _ | refine blk_drew ?_ | refine blk_alloc ?_ _)); refine blk_put (cs := #[.int .u64 0, .int .u64 0]) ?_ 1 _ rfl; (with_reducible repeat (first | refine blk_drewN ?_ _ | refine blk_drew ?_ | refine blk_alloc ?_ _)); refine blk_put (cs := #[.int .u64 0, .int .u64 0]) ?_ 0 _ rfl; (with_reducible repeat (first | refine blk_drewN ?_ _ | refine blk_drew ?_ | refine blk_alloc ?_ _)); exact BK125.out) Try.underlying32 rfl (by kernel_rfl)) rfl ?_
   exact ⟨by first | rfl | (simp [errW_none, errW_some] <;> rfl) | (simp [*, errW_none, errW_some] <;> rfl), by repeat (first | (with_reducible first | exact HB.out | apply below_alloc | apply pw_below_drewN | apply below_drew1 | refine below_set ?_ GE125.out) | exact HB.out)⟩

-- NOT PRINTED: function 18 (buf_Buf_Get)

/-! ### field_Put: function 32 -/
/-- A row of bytes in a block, whatever mark it bears behind them. -/
structure CRow (w : World) (g : Nat) (l : List Int) : Prop where
  blk : ∃ cur e fr, w.heap[g]? = some (.cells cur e fr) ∧ l.length ≤ fr.1 ∧ cur.toList.take l.length = nums .u8 l
theorem CRow.lt {w : World} {g : Nat} {l : List Int} (h : CRow w g l) : g < w.heap.size := by
  obtain ⟨cur, e, fr, hb, _, _⟩ := h.blk; exact (Array.getElem?_eq_some_iff.1 hb).1
theorem CRow.cell {w : World} {g : Nat} {l : List Int} (h : CRow w g l) {j : Nat} (hj : j < l.length) : w.cell? ⟨g, j, none⟩ = some (.int .u8 (l.getD j 0)) := by
  obtain ⟨cur, e, fr, hb, _, ht⟩ := h.blk
  rw [cell_of_row w g j cur e fr hb]
  have h1 : cur[j]? = (cur.toList.take l.length)[j]? := by rw [List.getElem?_take_of_lt hj]; simp
  rw [h1, ht]
  unfold nums
  simp [List.getD_eq_getElem?_getD, List.getElem?_eq_getElem hj]
theorem CRow.free {w : World} {g : Nat} {l : List Int} (h : CRow w g l) {j : Nat} (hj : j < l.length) : w.frozen? ⟨g, j, none⟩ = false := by
  obtain ⟨cur, e, fr, hb, hf, ht⟩ := h.blk
  simp [World.frozen?, hb]; omega
theorem CRow.below {w w1 : World} {g : Nat} {l : List Int} (h : CRow w g l) (hb : Below w.heap.size w w1) : CRow w1 g l := by
  obtain ⟨cur, e, fr, hk, hf, ht⟩ := h.blk
  exact ⟨cur, e, fr, (hb.block g h.lt).trans hk, hf, ht⟩
theorem CRow.far {w : World} {g : Nat} {l : List Int} (h : CRow w g l) {p : Addr} (hp : g ≠ p.block) (u : Value) : CRow (w.setCell p u) g l := by
  obtain ⟨cur, e, fr, hk, hf, ht⟩ := h.blk
  exact ⟨cur, e, fr, (Below.heap_setCell w p u g hp).trans hk, hf, ht⟩
theorem heap_set_any (w : World) (g i : Nat) (cs : Array Value) (t : TypeId) (fr : Nat × Nat) (v : Value) (hg : w.heap[g]? = some (.cells cs t fr)) :
    (w.setCell ⟨g, i, none⟩ v).heap[g]? = some (.cells (cs.setIfInBounds i v) t fr) := by
  obtain ⟨hlt, hg'⟩ := Array.getElem?_eq_some_iff.1 hg
  simp [World.setCell, hlt]
  rw [Array.getElem_modify, if_pos rfl, hg']
theorem CRow.set {w : World} {g : Nat} {l : List Int} (h : CRow w g l) {j : Nat} (hj : j < l.length) (v : Int) : CRow (w.setCell ⟨g, j, none⟩ (.int .u8 v)) g (l.set j v) := by
  obtain ⟨cur, e, fr, hk, hf, ht⟩ := h.blk
  refine ⟨cur.setIfInBounds j (.int .u8 v), e, fr, heap_set_any w g j cur e fr _ hk, by rw [List.length_set]; exact hf, ?_⟩
  rw [List.length_set, Array.toList_setIfInBounds, List.take_set, ht]
  unfold nums
  rw [List.map_set]
theorem CRow.newBelow (w : World) (e : TypeId) (s : ByteArray) : Below w.heap.size w (Lib.bytesWorld w e s) := bytes_below (Below.refl _ _) (Nat.le_refl _) e s
theorem CRow.new (w : World) (e : TypeId) (s : ByteArray) : CRow (Lib.bytesWorld w e s) w.heap.size (bytesOf s) := by
  refine ⟨_, e, _, Lib.bytesWorld_at_new w e s, ?_, ?_⟩
  · rw [bytesOf_length]; unfold Lib.bytesCells; simp
  · rw [bytesOf_length]
    unfold Lib.bytesCells bytesOf nums
    simp [List.take_append_of_le_length]
theorem CRow.C {w : World} {g : Nat} {l : List Int} (h : CRow w g l) (hl : l.length ≤ 9223372036854775807) : (Kd.int .u8).C w (some ⟨g, 0, none⟩) l.length l :=
  Kd.C_of_reads (d := (0 : Int)) (h1 := fun _ => rfl) ⟨rfl, hl, fun _ => ⟨_, rfl, fun j hj => by rw [add_plain]; exact h.cell hj⟩⟩

def field_Put.at (off width : Int) (i : Nat) : Int := off + width - 1 - i
def field_Put.new (q2 : Int) (v at_ : Int) : Int := if q2 = 1 then Go.bits .or .u8 v ((2 ^ (7 - at_ % 8).toNat % 256)) else Go.bits .andNot .u8 v ((2 ^ (7 - at_ % 8).toNat % 256))
def field_Put.step (off width w0 w1 : Int) (i : Nat) (l : List Int) : Option (List Int) :=
  (word_Right.f w0 w1 i).bind fun p => (word_And.f p.1 p.2 0 1).bind fun q => some (l.set (field_Put.at off width i / 8).toNat (field_Put.new q.2 (rd l (field_Put.at off width i / 8)) (field_Put.at off width i)))
def field_Put.l (off width w0 w1 : Int) (l0 : List Int) : Nat → Option (List Int)
  | 0 => some l0
  | i + 1 => (field_Put.l off width w0 w1 l0 i).bind (field_Put.step off width w0 w1 i)
def field_Put.f (k : Nat) (a0 : ByteArray) (a1 : Int) (a2 : Int) (a3_0 : Int) (a3_1 : Int) : Option (ByteArray × Int) :=
  (field_may.f k a0 a1 a2).bind fun e => if e = 0 then (if 0 ≤ a1 ∧ 1 ≤ a2 ∧ a2 ≤ 128 ∧ a1 + a2 ≤ 8 * (a0.size : Int) ∧ a0.size ≤ 281474976710656 then (field_Put.l a1 a2 a3_0 a3_1 (bytesOf a0) a2.toNat).bind fun l => some (strOfNums l, 0) else none) else some (⟨#[]⟩, e)
theorem field_Put.mono : ∀ a0 a1 a2 a3 a4 k, LeO (field_Put.f k a0 a1 a2 a3 a4) (field_Put.f (k + 1) a0 a1 a2 a3 a4) := by
  intro a0 a1 a2 a3 a4 k
  unfold field_Put.f
  exact LeO.bind (field_may.mono _ _ _ _) (fun _ => LeO.refl _)
theorem field_Put.l_len {off width w0 w1 : Int} {l0 : List Int} : ∀ {n : Nat} {l : List Int}, field_Put.l off width w0 w1 l0 n = some l → l.length = l0.length := by
  intro n
  induction n with
  | zero => intro l h; obtain rfl := Option.some.inj h; rfl
  | succ n ih =>
    intro l h
    obtain ⟨l1, h1, h⟩ := Option.bind_eq_some_iff.mp h
    obtain ⟨p, hp, h⟩ := Option.bind_eq_some_iff.mp h
    obtain ⟨q, hq, h⟩ := Option.bind_eq_some_iff.mp h
    obtain rfl := Option.some.inj h
    rw [List.length_set, ih h1]
theorem field_Put.l_next {off width w0 w1 : Int} {l0 l l2 : List Int} {i : Nat} (h0 : field_Put.l off width w0 w1 l0 i = some l) (h : field_Put.l off width w0 w1 l0 (i + 1) = some l2) :
    ∃ p1 p2 q1 q2, word_Right.f w0 w1 i = some (p1, p2) ∧ word_And.f p1 p2 0 1 = some (q1, q2) ∧ l2 = l.set (field_Put.at off width i / 8).toNat (field_Put.new q2 (rd l (field_Put.at off width i / 8)) (field_Put.at off width i)) := by
  obtain ⟨l1, h1, h⟩ := Option.bind_eq_some_iff.mp h
  obtain rfl := Option.some.inj (h0.symm.trans h1)
  obtain ⟨p, hp, h⟩ := Option.bind_eq_some_iff.mp h
  obtain ⟨q, hq, h⟩ := Option.bind_eq_some_iff.mp h
  exact ⟨p.1, p.2, q.1, q.2, hp, hq, (Option.some.inj h).symm⟩
theorem field_Put.fld (p1 p2 : Int) (W : World) : (Instr.field 32 (Value.agg #[.int .u64 p1, .int .u64 p2]) 1).run Try.prog W = .ok (.int .u64 p2) W := by kernel_rfl
theorem field_Put.l_le {off width w0 w1 : Int} {l0 : List Int} {n : Nat} : ∀ {d : Nat} {l : List Int}, field_Put.l off width w0 w1 l0 (n + d) = some l → ∃ l1, field_Put.l off width w0 w1 l0 n = some l1 := by
  intro d
  induction d with
  | zero => intro l h; exact ⟨l, h⟩
  | succ d ih =>
    intro l h
    obtain ⟨l1, h1, _⟩ := Option.bind_eq_some_iff.mp h
    exact ih h1
theorem field_Put.bad (k : Nat) (a0 : ByteArray) (a1 : Int) (a2 : Int) (a3_0 : Int) (a3_1 : Int) (e : Int) (w : World) (he : field_may.f k a0 a1 a2 = some e) (hne : ¬ e = 0) :
    Calls Try.prog 32 #[.string a0, .int .i64 a1, .int .i64 a2, .agg #[.int .u64 a3_0, .int .u64 a3_1]] w fun x w' => x = .returned (.tuple #[.string ⟨#[]⟩, .int .i64 e]) ∧ Below w.heap.size w w' := by
  have h1 : (e == 0) = false := by simpa using hne
  have h2 : (e != 0) = true := by simpa using hne
  have HE := Aside0.mk he
  clear he hne
  go_enter Try.func32, Try.ntmps32
  go_wp2_with (go_at_call 39; (with_reducible refine (field_may.calls k _ _ _ e _ HE.out).mono ?_); rintro x w1 ⟨rfl, ⟨n, rfl⟩⟩)
  go_ret2
  exact ⟨rfl, pw_below_drewN ((Below.refl _ _).alloc (Nat.le_refl _) _) _⟩
structure field_Put.At (off width w0 w1 : Int) (s : ByteArray) (w wr : World) (g : Nat) (i : Nat) (l : List Int) : Prop where
  eq : field_Put.l off width w0 w1 (bytesOf s) i = some l
  box : wr.heap[w.heap.size]? = some (.cells #[.int .u64 w0, .int .u64 w1] 32 (0, 0))
  row : CRow wr g l
  bel : Below w.heap.size w wr
  ge : w.heap.size < g
theorem field_Put.good (k : Nat) (s : ByteArray) (off width w0 w1 : Int) (l : List Int) (w : World) (he : field_may.f k s off width = some 0) (h0 : 0 ≤ off) (h1 : 1 ≤ width) (h2 : width ≤ 128) (h3 : off + width ≤ 8 * (s.size : Int)) (h4 : s.size ≤ 281474976710656)
    (hl : field_Put.l off width w0 w1 (bytesOf s) width.toNat = some l) :
    Calls Try.prog 32 #[.string s, .int .i64 off, .int .i64 width, .agg #[.int .u64 w0, .int .u64 w1]] w fun x w' => x = .returned (.tuple #[.string (strOfNums l), .int .i64 0]) ∧ Below w.heap.size w w' := by
  have HE := Aside0.mk he
  have HL := Aside0.mk hl
  have kb := fun W => print_bytes (P := Try.prog) 9 50 5 Try.underlying9 Try.underlying50 Try.underlying5 s W
  clear he hl
  go_enter Try.func32, Try.ntmps32
  go_wp2_with (go_at_call 39; (with_reducible refine (field_may.calls k _ _ _ 0 _ HE.out).mono ?_); rintro x w1 ⟨rfl, ⟨n, rfl⟩⟩)
  have hW := Lib.bytesWorld_size ((w.alloc (Obj.cells #[Value.int IntKind.u64 w0, Value.int IntKind.u64 w1] 32)).drewN n) 5 s
  go_loopg [25] width.toNat (fun d v25 wr => ∃ (i : Nat) (l : List Int), v25 = .int .i64 i ∧ Aside0 (i + d = width.toNat) ∧ field_Put.At off width w0 w1 s w wr (w.heap.size + 1) i l)
  case atStart =>
    have hb := CRow.newBelow ((w.alloc (Obj.cells #[Value.int IntKind.u64 w0, Value.int IntKind.u64 w1] 32)).drewN n) 5 s
    have hr := CRow.new ((w.alloc (Obj.cells #[Value.int IntKind.u64 w0, Value.int IntKind.u64 w1] 32)).drewN n) 5 s
    have hs : ((w.alloc (Obj.cells #[Value.int IntKind.u64 w0, Value.int IntKind.u64 w1] 32)).drewN n).heap.size = w.heap.size + 1 := by simp
    have h0 : Below w.heap.size w ((w.alloc (Obj.cells #[Value.int IntKind.u64 w0, Value.int IntKind.u64 w1] 32)).drewN n) := pw_below_drewN ((Below.refl _ _).alloc (Nat.le_refl _) _) _
    have h1 : ((w.alloc (Obj.cells #[Value.int IntKind.u64 w0, Value.int IntKind.u64 w1] 32)).drewN n).heap[w.heap.size]? = some (.cells #[.int .u64 w0, .int .u64 w1] 32 (0, 0)) := by
      have := blk_new w (Obj.cells #[Value.int IntKind.u64 w0, Value.int IntKind.u64 w1] 32)
      simpa using this
    refine ⟨0, bytesOf s, rfl, ⟨by omega⟩, ⟨rfl, blk_below h1 hb, ?_, h0.trans (hb.mono h0.size), by omega⟩⟩
    rw [hs] at hr
    exact hr
  case round =>
    obtain ⟨i, l1, rfl, HD, hA⟩ := hrel
    have HA := Aside0.mk hA
    have hlen : l1.length = s.size := by rw [field_Put.l_len hA.eq, bytesOf_length]
    by_cases hi : i < width.toNat
    · have hlt : decide ((i : Int) < width) = true := decide_eq_true (by omega)
      obtain ⟨l2, hl2⟩ : ∃ l2, field_Put.l off width w0 w1 (bytesOf s) (i + 1) = some l2 := field_Put.l_le (d := width.toNat - (i + 1)) (by rw [show i + 1 + (width.toNat - (i + 1)) = width.toNat by omega]; exact HL.out)
      obtain ⟨p1, p2, q1, q2, hp, hq, hst⟩ := field_Put.l_next hA.eq hl2
      have HL2 := Aside0.mk hl2
      have HP := Aside0.mk hp
      have HQ := Aside0.mk hq
      have HST := Aside0.mk hst
      clear hl2 hp hq hst
      have hfld := fun W => field_Put.fld q1 q2 W
      have hb0 : wr.cell? ⟨w.heap.size, 0, none⟩ = some (.int .u64 w0) := by
        have := hA.box; simp [World.cell?, this]
      have hb1 : wr.cell? ⟨w.heap.size, 1, none⟩ = some (.int .u64 w1) := by
        have := hA.box; simp [World.cell?, this]
      have huW_ := Try.underlying32
      clear hA
      have hatl : ((off + width - 1 - ↑i) / 8).toNat < l1.length := by rw [hlen]; omega
      have hrest : ∀ (W : World) (v : Int), CRow W (w.heap.size + 1) (l1.set ((off + width - 1 - ↑i) / 8).toNat v) → v = field_Put.new q2 (l1.getD ((off + width - 1 - ↑i) / 8).toNat 0) (off + width - 1 - ↑i) → W.heap[w.heap.size]? = some (.cells #[.int .u64 w0, .int .u64 w1] 32 (0, 0)) → Below w.heap.size w W → field_Put.At off width w0 w1 s w W (w.heap.size + 1) (i + 1) l2 := by
        intro W v h1 h2 h3 h4
        refine ⟨HL2.out, h3, ?_, h4, by omega⟩
        rw [HST.out]
        have e : field_Put.at off width i = off + width - 1 - ↑i := rfl
        rw [e]
        have e2 : rd l1 ((off + width - 1 - ↑i) / 8) = l1.getD ((off + width - 1 - ↑i) / 8).toNat 0 := by rfl
        rw [e2, ← h2]
        exact h1
      have HR := Aside0.mk hrest
      clear hrest
      by_cases hq1 : q2 = 1
      · have hqq : (q2 == 1) = true := by simpa using hq1
        have HQ1 := Aside0.mk hq1
        clear hq1
        go_wp2_with (go_at_call 45; (with_reducible refine (word_Right.calls _ _ _ p1 p2 _ HP.out).mono ?_); rintro e wa ⟨rfl, hb⟩; have HB1 := Aside0.mk hb; clear hb)
        go_wp2_with (go_at_call 42; (with_reducible refine (word_New.calls _ 0 1 _ rfl).mono ?_); rintro e wb ⟨rfl, hb⟩; have HB2 := Aside0.mk hb; clear hb)
        go_wp2_with (go_at_call 44; (with_reducible refine (word_And.calls _ _ _ _ q1 q2 _ HQ.out).mono ?_); rintro e wc ⟨rfl, hb⟩; have HB3 := Aside0.mk (HB1.out.trans ((HB2.out.trans (hb.mono HB2.out.size)).mono HB1.out.size)); clear hb; have hc3 := (HA.out.row.below HB3.out).cell hatl; have hf3 := (HA.out.row.below HB3.out).free hatl)
        go_roundg (width.toNat - 1 - i)
        case measure => have := HD.out; omega
        case rel =>
          refine ⟨i + 1, l2, by go_num, ⟨by have := HD.out; omega⟩, HR.out _ _ ((HA.out.row.below HB3.out).set hatl _) ?_ (blk_far (blk_below HA.out.box HB3.out) (by show w.heap.size ≠ w.heap.size + 1; omega) _) (below_set (HA.out.bel.trans (HB3.out.mono HA.out.bel.size)) (by omega))⟩
          unfold field_Put.new
          rw [if_pos HQ1.out, List.getD_eq_getElem?_getD]
      · have hqq : (q2 == 1) = false := by simpa using hq1
        have HQ1 := Aside0.mk hq1
        clear hq1
        go_wp2_with (go_at_call 45; (with_reducible refine (word_Right.calls _ _ _ p1 p2 _ HP.out).mono ?_); rintro e wa ⟨rfl, hb⟩; have HB1 := Aside0.mk hb; clear hb)
        go_wp2_with (go_at_call 42; (with_reducible refine (word_New.calls _ 0 1 _ rfl).mono ?_); rintro e wb ⟨rfl, hb⟩; have HB2 := Aside0.mk hb; clear hb)
        go_wp2_with (go_at_call 44; (with_reducible refine (word_And.calls _ _ _ _ q1 q2 _ HQ.out).mono ?_); rintro e wc ⟨rfl, hb⟩; have HB3 := Aside0.mk (HB1.out.trans ((HB2.out.trans (hb.mono HB2.out.size)).mono HB1.out.size)); clear hb; have hc3 := (HA.out.row.below HB3.out).cell hatl; have hf3 := (HA.out.row.below HB3.out).free hatl)
        go_roundg (width.toNat - 1 - i)
        case measure => have := HD.out; omega
        case rel =>
          refine ⟨i + 1, l2, by go_num, ⟨by have := HD.out; omega⟩, HR.out _ _ ((HA.out.row.below HB3.out).set hatl _) ?_ (blk_far (blk_below HA.out.box HB3.out) (by show w.heap.size ≠ w.heap.size + 1; omega) _) (below_set (HA.out.bel.trans (HB3.out.mono HA.out.bel.size)) (by omega))⟩
          unfold field_Put.new
          rw [if_neg HQ1.out, List.getD_eq_getElem?_getD]
    · have hlt : decide ((i : Int) < width) = false := decide_eq_false (by omega)
      obtain rfl : i = width.toNat := by have := HD.out; omega
      obtain rfl := Option.some.inj (hA.eq.symm.trans HL.out)
      have hcv := Kd.C_string (P := Try.prog) (dst := 9) (c := (grownCap ((w.alloc (Obj.cells #[Value.int IntKind.u64 w0, Value.int IntKind.u64 w1] 32)).drewN n) s.size 0 5)) Try.underlying50 Try.underlying5 Try.underlying9 (hA.row.C (by omega))
      rw [hlen] at hcv
      have HBel := Aside0.mk hA.bel
      clear hA
      go_wp2
      go_ret2
      exact ⟨rfl, HBel.out⟩
theorem field_Put.calls (k : Nat) (a0 : ByteArray) (a1 : Int) (a2 : Int) (a3_0 : Int) (a3_1 : Int) (r1 : ByteArray) (r2 : Int) (w : World) (h : field_Put.f k a0 a1 a2 a3_0 a3_1 = some (r1, r2)) :
    Calls Try.prog 32 #[.string a0, .int .i64 a1, .int .i64 a2, .agg #[.int .u64 a3_0, .int .u64 a3_1]] w fun e w' => e = .returned (.tuple #[.string r1, .int .i64 r2]) ∧ Below w.heap.size w w' := by
  unfold field_Put.f at h
  obtain ⟨e, he, h⟩ := Option.bind_eq_some_iff.mp h
  by_cases h0 : e = 0
  · subst h0
    rw [if_pos rfl] at h
    split at h
    · rename_i hc
      obtain ⟨l, hl, h⟩ := Option.bind_eq_some_iff.mp h
      obtain ⟨rfl, rfl⟩ := Prod.mk.inj (Option.some.inj h)
      exact field_Put.good k a0 a1 a2 a3_0 a3_1 l w he hc.1 hc.2.1 hc.2.2.1 hc.2.2.2.1 hc.2.2.2.2 hl
    · exact absurd h (by simp)
  · rw [if_neg h0] at h
    obtain ⟨rfl, rfl⟩ := Prod.mk.inj (Option.some.inj h)
    exact field_Put.bad k a0 a1 a2 a3_0 a3_1 e w he h0

-- NOT PRINTED: function 19 (buf_Buf_Put)

end Go.Proofs.Ytdjdgkjikibgaaa.PBuf
