-- Written by wip/turnprint.py, a program of this session (the kit's print, turned).
import Derived.Test.YtgpahhobifdapaaPFieldx0
import Derived.Test.YtgpahhobifdapaaPFieldx1
import Derived.Test.YtgpahhobifdapaaPFieldx3
import Derived.Test.YtgpahhobifdapaaPFieldx4
namespace Go.Proofs.Ytgpahhobifdapaa.PField
open Go.RowKit Go.Proofs.YtgpahhobifdapaaW.PrintWords Go.Proofs.YtgpahhobifdapaaW.PrintLast Go.Proofs.YtgpahhobifdapaaW.PrintMore
attribute [local go_sem] max2_int min2_int max_two min_two max_three min_three max_four min_four   -- for this text's walks alone
set_option linter.unusedVariables false
set_option linter.unusedSimpArgs false

attribute [local go_sem high] eqA25
attribute [local go_sem high] xorA_u8 xorA_u16 xorA_u32 xorA_u64
/-! ### turnoutlaw02_is: function 32 -/
def turnoutlaw02_is.f (k : Nat) (a0 : ByteArray) (a1 : Int) (a2 : Int) (a3 : Int) : Option (Bool) := (field_Get.f k a0 a1 a2).bind fun bt149 => (if bt149.2.2 = 0 then ((turnoutlaw02_low.f a3).bind fun bt153 => (some (bt149.1 == bt153.1 && (bt149.2.1 == bt153.2)))) else (some false))
theorem turnoutlaw02_is.mono : ∀ a0 a1 a2 a3 k, LeO (turnoutlaw02_is.f k a0 a1 a2 a3) (turnoutlaw02_is.f (k + 1) a0 a1 a2 a3) := by
  intro a0 a1 a2 a3 k
  unfold turnoutlaw02_is.f
  repeat' first
    | (with_reducible exact field_Get.mono _ _ _ _)
    | (with_reducible exact LeO.refl _)
    | (with_reducible exact LeO.none _)
    | (with_reducible refine LeO.ite ?_ ?_)
    | (with_reducible refine LeO.bind ?_ (fun _ => ?_))
    | exact field_Get.mono _ _ _ _
    | exact LeO.none _
    | refine LeO.ite ?_ ?_
    | refine LeO.bind ?_ (fun _ => ?_)
def turnoutlaw02_is.T2 : Bool × List (List Nat × List Nat) := (true, [([], []), ([0], [0]), ([1], [1]), ([2], [2]), ([2], [2]), ([4, 2, 2], [2, 4]), ([3, 5, 2], [2, 3, 5]), ([2, 6], [2, 6]), ([7, 5, 0, 1, 2, 3, 4, 5, 6, 7], [7])])
def turnoutlaw02_is.B2 : List Nat := [0, 1, 3, 7, 7, 23, 63, 127, 255]
theorem turnoutlaw02_is.tab2 : rtab .any (opsOf Try.f32 2) = turnoutlaw02_is.T2 := by kernel_rfl
theorem turnoutlaw02_is.bits2 : waitsOk turnoutlaw02_is.T2.2 turnoutlaw02_is.B2 = true := by kernel_rfl
set_option maxHeartbeats 8000000 in
set_option maxRecDepth 100000 in
theorem turnoutlaw02_is.calls (k : Nat) (a0 : ByteArray) (a1 : Int) (a2 : Int) (a3 : Int) (r : Bool) (w : World) (h : turnoutlaw02_is.f k a0 a1 a2 a3 = some r) :
   Calls Try.prog 32 #[.string a0, .int .i64 a1, .int .i64 a2, .int .u64 a3] w fun e w' => e = .returned (.bool r) ∧ Below w.heap.size w w' := by
  have hu25 := Try.underlying25
  have HB := Aside0.mk (Below.refl w.heap.size w)
  have H : ((field_Get.f k a0 a1 a2).bind fun bt149 => (if bt149.2.2 = 0 then ((turnoutlaw02_low.f a3).bind fun bt153 => (some (bt149.1 == bt153.1 && (bt149.2.1 == bt153.2)))) else (some false))) = some r := h
  clear h
  replace H := Option.bind_eq_some_iff.mp H
  obtain ⟨⟨t149, t150, t151⟩, A50, H⟩ := H
  replace H : (if t151 = 0 then ((turnoutlaw02_low.f a3).bind fun bt153 => (some (t149 == bt153.1 && (t150 == bt153.2)))) else (some false)) = some r := H
  have A5 := Aside0.mk A50
  clear A50
  by_cases c6 : t151 = 0
  ·
   rw [if_pos c6] at H
   have c6b0 : (t151 == 0) = true := beq_iff_eq.mpr c6
   have c6b1 : (t151 != 0) = false := bne_eq_false_iff_eq.mpr c6
   clear c6
   replace H := Option.bind_eq_some_iff.mp H
   obtain ⟨⟨t153, t154⟩, A70, H⟩ := H
   replace H : (some (t149 == t153 && (t150 == t154))) = some r := H
   have A7 := Aside0.mk A70
   clear A70
   obtain rfl := Option.some.inj H
   go_enter Try.func32, Try.ntmps32
   try go_wp2_with (first | ((with_reducible refine gate_callee (f := 13) rfl ?_); refine goesL_ (some 15) rfl rfl Try.func13 (by kernel_rfl) rfl #[.string a0, .int .i64 a1, .int .i64 a2] rfl (by (try simp only [List.map_toArray, List.map_cons, List.map_nil]); first | done | rfl | (simp only [List.length_drop, List.length_take]; rfl)) ?_; (with_reducible refine (field_Get.calls k a0 a1 a2 t149 t150 t151 _ A5.out).mono ?_); rintro e w8 ⟨rfl, hb⟩; refine ⟨_, rfl, ?_⟩; replace HB := Aside0.mk (below_step (by repeat (first | (with_reducible first | exact HB.out | apply below_alloc | apply pw_below_drewN | apply below_drew1) | exact HB.out)) hb); (try clear hb); (try clear hb2); (try clear hk); (try clear hi)) | ((with_reducible refine gate_dst (N := 9) rfl ?_); refine box_event ?hg (N := 9) ?hd (cs := #[.int .u64 0, .int .u64 0]) (t := 25) ?hr ?_; (case hd => rfl); (case hg => rfl); (case hr => first | (go_simp; done) | (go_simp; rfl)); intro gb152 hg w9 hbox hb; have BK152 := Aside0.mk (hbox); have GW152 := Aside0.mk ((by rw [hg]; exact (below_size (by repeat (first | (with_reducible first | exact HB.out | apply below_alloc | apply pw_below_drewN | apply below_drew1) | exact HB.out))) : w.heap.size ≤ gb152)); have GE152 := Aside0.mk ((by rw [hg]; exact (below_size (by repeat (first | (with_reducible first | exact HB.out | apply below_alloc | apply pw_below_drewN | apply below_drew1) | exact HB.out))) : w.heap.size ≤ gb152)); replace HB := Aside0.mk (below_step (by repeat (first | (with_reducible first | exact HB.out | apply below_alloc | apply pw_below_drewN | apply below_drew1) | exact HB.out)) hb); clear hb hbox hg; have hcz10_0 : w9.cell? ⟨gb152, 0, none⟩ = some (.int .u64 0) := (blk_cell BK152.out 0).trans rfl; have hcz10_1 : w9.cell? ⟨gb152, 1, none⟩ = some (.int .u64 0) := (blk_cell BK152.out 1).trans rfl; have hfz10_0 := blk_frozen BK152.out 0; have hfz10_1 := blk_frozen BK152.out 1))
   have n0_ : Aside0 (((w9.setCell ⟨gb152, 0, none⟩ (.int .u64 t149)).setCell ⟨gb152, 1, none⟩ (.int .u64 t150)).heap[gb152]? = some (.cells #[.int .u64 t149, .int .u64 t150] 25 (0, 0))) := ⟨by (with_reducible repeat (first | refine blk_drewN ?_ _ | refine blk_drew ?_ | refine blk_alloc ?_ _)); refine blk_put (cs := #[.int .u64 t149, .int .u64 0]) ?_ 1 _ rfl; (with_reducible repeat (first | refine blk_drewN ?_ _ | refine blk_drew ?_ | refine blk_alloc ?_ _)); refine blk_put (cs := #[.int .u64 0, .int .u64 0]) ?_ 0 _ rfl; (with_reducible repeat (first | refine blk_drewN ?_ _ | refine blk_drew ?_ | refine blk_alloc ?_ _)); exact BK152.out⟩
   have n1_ : Aside0 (Below w.heap.size w ((w9.setCell ⟨gb152, 0, none⟩ (.int .u64 t149)).setCell ⟨gb152, 1, none⟩ (.int .u64 t150))) := ⟨by repeat (first | (with_reducible first | exact HB.out | apply below_alloc | apply pw_below_drewN | apply below_drew1 | refine below_set ?_ GE152.out) | exact HB.out)⟩
   (try clear BK152); (try clear HB); generalize ((w9.setCell ⟨gb152, 0, none⟩ (.int .u64 t149)).setCell ⟨gb152, 1, none⟩ (.int .u64 t150)) = w11 at n0_ n1_ ⊢; have BK152 := n0_; have HB := n1_; clear n0_ n1_; replace BK152 := Aside0.mk (blk_drew BK152.out); replace HB := Aside0.mk (below_drew1 HB.out)
   refine start_ (n := 9) (S := fun w' => w'.cell? ⟨gb152, 0, none⟩ = some (.int .u64 t149) ∧ w'.cell? ⟨gb152, 1, none⟩ = some (.int .u64 t150)) (ds := []) #[F,F,F,F,F,F,F,F,F] (by kernel_rfl) rfl rfl ⟨(blk_cell BK152.out 0).trans rfl, (blk_cell BK152.out 1).trans rfl⟩ (fun hHeld => ?_); refine with_tabW turnoutlaw02_is.tab2 turnoutlaw02_is.bits2 (fun HT_ HW_ => ?_)
   generalize w11.drew = w12 at BK152 HB hHeld ⊢
   refine pure_ (i := 0) (N := some 18) (v := ?_) (a' := ?_) #[T,F,F,F,F,F,F,F,F] rfl rfl (any_of HT_.out (by kernel_rfl)) (fun _ _ _ h => h) (Or.inl ⟨by rfl, ?_⟩) ?_ ?_
   rotate_left
   ·
    intro w'
    go_simp
    with_reducible rfl
   rotate_left
   ·
    simp only [Act.put, List.setIfInBounds_toArray, List.set_cons_zero, List.set_cons_succ, i64_w, i32_w]
    rfl
   refine pure_ (i := 1) (N := some 19) (v := ?_) (a' := ?_) #[T,T,F,F,F,F,F,F,F] rfl rfl (any_of HT_.out (by kernel_rfl)) (fun _ _ _ h => h) (Or.inl ⟨by rfl, ?_⟩) ?_ ?_
   rotate_left
   ·
    intro w'
    go_simp
    with_reducible rfl
   rotate_left
   ·
    simp only [Act.put, List.setIfInBounds_toArray, List.set_cons_zero, List.set_cons_succ, i64_w, i32_w]
    rfl
   refine pure_ (i := 2) (N := some 20) (v := ?_) (a' := ?_) #[T,T,T,F,F,F,F,F,F] rfl rfl (any_of HT_.out (by kernel_rfl)) (fun _ _ _ h => h) (Or.inl ⟨by rfl, ?_⟩) ?_ ?_
   rotate_left
   ·
    intro w'
    go_simp
    with_reducible rfl
   rotate_left
   ·
    simp only [Act.put, List.setIfInBounds_toArray, List.set_cons_zero, List.set_cons_succ, i64_w, i32_w]
    rfl
   refine pure_ (i := 4) (N := some 22) (v := ?_) (a' := ?_) #[T,T,T,F,T,F,F,F,F] rfl rfl (any_of HT_.out (by kernel_rfl)) (fun _ _ _ h => h) (Or.inl ⟨by rfl, ?_⟩) ?_ ?_
   rotate_left
   ·
    intro w'
    go_simp
    with_reducible rfl
   rotate_left
   ·
    simp only [Act.put, List.setIfInBounds_toArray, List.set_cons_zero, List.set_cons_succ, i64_w, i32_w]
    rfl
   refine take_ (i := 3) (N := some 21) (v := ?_) (a' := ?_) #[T,T,T,T,T,F,F,F,F] rfl rfl (take_ofW HT_.out HW_.out (by kernel_rfl)) (fun _ _ _ h => h) (Or.inl ⟨by rfl, ?_⟩) hHeld ?_ ?_
   rotate_left
   ·
    rintro w' ⟨s0, s1⟩
    go_simp
    with_reducible rfl
   rotate_left
   ·
    simp only [Act.put, List.setIfInBounds_toArray, List.set_cons_zero, List.set_cons_succ, i64_w, i32_w]
    rfl
   refine one_ (i := 5) (N := some 23) #[T,T,T,T,T,T,F,F,F] rfl rfl (one_of HT_.out (by kernel_rfl)) (by decide) (fun K hK => ?_)
   refine goes_ Try.func28 (by kernel_rfl) rfl #[.int .u64 a3] (by rfl) rfl rfl (by (try simp only [List.map_toArray, List.map_cons, List.map_nil]); first | done | rfl | (simp only [List.length_drop, List.length_take]; rfl)) ?_
   with_reducible refine (turnoutlaw02_low.calls a3 t153 t154 _ A7.out).mono ?_
   rintro e w13 ⟨rfl, hb⟩
   refine ⟨_, rfl, ?_⟩
   have n0_ := Aside0.mk (blk_below (bkA BK152.out) hb)
   have n1_ := Aside0.mk (below_step (by repeat (first | (with_reducible first | exact HB.out | apply below_alloc | apply pw_below_drewN | apply below_drew1 | refine below_set ?_ GE152.out) | exact HB.out)) hb)
   clear BK152; clear HB; have BK152 := n0_; have HB := n1_; clear n0_ n1_; (try clear hb); (try clear hb2); (try clear hk); (try clear hi)
   refine hK.out _ _ ⟨(blk_cell BK152.out 0).trans rfl, (blk_cell BK152.out 1).trans rfl⟩ (fun hHeld => ?_)
   clear hK K
   refine norm_ (a' := ?_) ?_ ?_
   rotate_left
   ·
    show Act.put _ (some 23) _ = _
    simp only [Act.put, List.setIfInBounds_toArray, List.set_cons_zero, List.set_cons_succ, i64_w, i32_w]
    rfl
   refine pure_ (i := 6) (N := some 24) (v := ?_) (a' := ?_) #[T,T,T,T,T,T,T,F,F] rfl rfl (any_of HT_.out (by kernel_rfl)) (fun _ _ _ h => h) (Or.inl ⟨by rfl, ?_⟩) ?_ ?_
   rotate_left
   ·
    intro w'
    go_simp
    with_reducible rfl
   rotate_left
   ·
    simp only [Act.put, List.setIfInBounds_toArray, List.set_cons_zero, List.set_cons_succ, i64_w, i32_w]
    rfl
   refine pure_ (i := 7) (N := some 25) (v := ?_) (a' := ?_) #[T,T,T,T,T,T,T,T,F] rfl rfl (any_of HT_.out (by kernel_rfl)) (fun _ _ _ h => h) (Or.inl ⟨by rfl, ?_⟩) ?_ ?_
   rotate_left
   ·
    intro w'
    go_simp
    with_reducible rfl
   rotate_left
   ·
    simp only [Act.put, List.setIfInBounds_toArray, List.set_cons_zero, List.set_cons_succ, i64_w, i32_w]
    rfl
   refine pure_ (i := 8) (N := some 8) (v := ?_) (a' := ?_) #[T,T,T,T,T,T,T,T,T] rfl rfl (any_of HT_.out (by kernel_rfl)) (fun _ _ _ h => h) (Or.inl ⟨by rfl, ?_⟩) ?_ ?_
   rotate_left
   ·
    intro w'
    go_simp
    with_reducible rfl
   rotate_left
   ·
    simp only [Act.put, List.setIfInBounds_toArray, List.set_cons_zero, List.set_cons_succ, i64_w, i32_w]
    rfl
   refine done_ (done_of HT_.out (by kernel_rfl)) ?_
   try go_wp2
   go_ret
   exact ⟨by first | rfl | (simp [errW_none, errW_some] <;> rfl) | (simp [*, errW_none, errW_some] <;> rfl), by repeat (first | (with_reducible first | exact HB.out | apply below_alloc | apply pw_below_drewN | apply below_drew1 | refine below_set ?_ GE152.out) | exact HB.out)⟩
  ·
   rw [if_neg c6] at H
   have c6b0 : (t151 == 0) = false := beq_eq_false_iff_ne.mpr c6
   have c6b1 : (t151 != 0) = true := bne_iff_ne.mpr c6
   obtain rfl := Option.some.inj H
   go_enter Try.func32, Try.ntmps32
   try go_wp2_with (first | ((with_reducible refine gate_callee (f := 13) rfl ?_); refine goesL_ (some 15) rfl rfl Try.func13 (by kernel_rfl) rfl #[.string a0, .int .i64 a1, .int .i64 a2] rfl (by (try simp only [List.map_toArray, List.map_cons, List.map_nil]); first | done | rfl | (simp only [List.length_drop, List.length_take]; rfl)) ?_; (with_reducible refine (field_Get.calls k a0 a1 a2 t149 t150 t151 _ A5.out).mono ?_); rintro e w14 ⟨rfl, hb⟩; refine ⟨_, rfl, ?_⟩; replace HB := Aside0.mk (below_step (by repeat (first | (with_reducible first | exact HB.out | apply below_alloc | apply pw_below_drewN | apply below_drew1) | exact HB.out)) hb); (try clear hb); (try clear hb2); (try clear hk); (try clear hi)) | ((with_reducible refine gate_dst (N := 9) rfl ?_); refine box_event ?hg (N := 9) ?hd (cs := #[.int .u64 0, .int .u64 0]) (t := 25) ?hr ?_; (case hd => rfl); (case hg => rfl); (case hr => first | (go_simp; done) | (go_simp; rfl)); intro gb152 hg w15 hbox hb; have BK152 := Aside0.mk (hbox); have GW152 := Aside0.mk ((by rw [hg]; exact (below_size (by repeat (first | (with_reducible first | exact HB.out | apply below_alloc | apply pw_below_drewN | apply below_drew1) | exact HB.out))) : w.heap.size ≤ gb152)); have GE152 := Aside0.mk ((by rw [hg]; exact (below_size (by repeat (first | (with_reducible first | exact HB.out | apply below_alloc | apply pw_below_drewN | apply below_drew1) | exact HB.out))) : w.heap.size ≤ gb152)); replace HB := Aside0.mk (below_step (by repeat (first | (with_reducible first | exact HB.out | apply below_alloc | apply pw_below_drewN | apply below_drew1) | exact HB.out)) hb); clear hb hbox hg; have hcz16_0 : w15.cell? ⟨gb152, 0, none⟩ = some (.int .u64 0) := (blk_cell BK152.out 0).trans rfl; have hcz16_1 : w15.cell? ⟨gb152, 1, none⟩ = some (.int .u64 0) := (blk_cell BK152.out 1).trans rfl; have hfz16_0 := blk_frozen BK152.out 0; have hfz16_1 := blk_frozen BK152.out 1))
   have n0_ : Aside0 (((w15.setCell ⟨gb152, 0, none⟩ (.int .u64 t149)).setCell ⟨gb152, 1, none⟩ (.int .u64 t150)).heap[gb152]? = some (.cells #[.int .u64 t149, .int .u64 t150] 25 (0, 0))) := ⟨by (with_reducible repeat (first | refine blk_drewN ?_ _ | refine blk_drew ?_ | refine blk_alloc ?_ _)); refine blk_put (cs := #[.int .u64 t149, .int .u64 0]) ?_ 1 _ rfl; (with_reducible repeat (first | refine blk_drewN ?_ _ | refine blk_drew ?_ | refine blk_alloc ?_ _)); refine blk_put (cs := #[.int .u64 0, .int .u64 0]) ?_ 0 _ rfl; (with_reducible repeat (first | refine blk_drewN ?_ _ | refine blk_drew ?_ | refine blk_alloc ?_ _)); exact BK152.out⟩
   have n1_ : Aside0 (Below w.heap.size w ((w15.setCell ⟨gb152, 0, none⟩ (.int .u64 t149)).setCell ⟨gb152, 1, none⟩ (.int .u64 t150))) := ⟨by repeat (first | (with_reducible first | exact HB.out | apply below_alloc | apply pw_below_drewN | apply below_drew1 | refine below_set ?_ GE152.out) | exact HB.out)⟩
   (try clear BK152); (try clear HB); generalize ((w15.setCell ⟨gb152, 0, none⟩ (.int .u64 t149)).setCell ⟨gb152, 1, none⟩ (.int .u64 t150)) = w17 at n0_ n1_ ⊢; have BK152 := n0_; have HB := n1_; clear n0_ n1_; replace BK152 := Aside0.mk (blk_drew BK152.out); replace HB := Aside0.mk (below_drew1 HB.out)
   refine start_ (n := 9) (S := fun w' => True) (ds := []) #[F,F,F,F,F,F,F,F,F] (by kernel_rfl) rfl rfl trivial (fun hHeld => ?_); refine with_tabW turnoutlaw02_is.tab2 turnoutlaw02_is.bits2 (fun HT_ HW_ => ?_)
   generalize w17.drew = w18 at BK152 HB hHeld ⊢
   refine pure_ (i := 0) (N := some 18) (v := ?_) (a' := ?_) #[T,F,F,F,F,F,F,F,F] rfl rfl (any_of HT_.out (by kernel_rfl)) (fun _ _ _ h => h) (Or.inl ⟨by rfl, ?_⟩) ?_ ?_
   rotate_left
   ·
    intro w'
    go_simp
    with_reducible rfl
   rotate_left
   ·
    simp only [Act.put, List.setIfInBounds_toArray, List.set_cons_zero, List.set_cons_succ, i64_w, i32_w]
    rfl
   refine pure_ (i := 1) (N := some 19) (v := ?_) (a' := ?_) #[T,T,F,F,F,F,F,F,F] rfl rfl (any_of HT_.out (by kernel_rfl)) (fun _ _ _ h => h) (Or.inl ⟨by rfl, ?_⟩) ?_ ?_
   rotate_left
   ·
    intro w'
    go_simp
    with_reducible rfl
   rotate_left
   ·
    simp only [Act.put, List.setIfInBounds_toArray, List.set_cons_zero, List.set_cons_succ, i64_w, i32_w]
    rfl
   refine pure_ (i := 2) (N := some 20) (v := ?_) (a' := ?_) #[T,T,T,F,F,F,F,F,F] rfl rfl (any_of HT_.out (by kernel_rfl)) (fun _ _ _ h => h) (Or.inl ⟨by rfl, ?_⟩) ?_ ?_
   rotate_left
   ·
    intro w'
    go_simp
    with_reducible rfl
   rotate_left
   ·
    simp only [Act.put, List.setIfInBounds_toArray, List.set_cons_zero, List.set_cons_succ, i64_w, i32_w]
    rfl
   refine pure_ (i := 3) (N := some 21) (v := undef) (a' := ?_) #[T,T,T,T,F,F,F,F,F] rfl rfl (any_of HT_.out (by kernel_rfl)) (fun _ _ _ h => h) (Or.inr ⟨by rfl, rfl⟩) ?_ ?_
   rotate_left
   ·
    simp only [Act.put, List.setIfInBounds_toArray, List.set_cons_zero, List.set_cons_succ, i64_w, i32_w]
    rfl
   refine pure_ (i := 4) (N := some 22) (v := undef) (a' := ?_) #[T,T,T,T,T,F,F,F,F] rfl rfl (any_of HT_.out (by kernel_rfl)) (fun _ _ _ h => h) (Or.inr ⟨by rfl, rfl⟩) ?_ ?_
   rotate_left
   ·
    simp only [Act.put, List.setIfInBounds_toArray, List.set_cons_zero, List.set_cons_succ, i64_w, i32_w]
    rfl
   refine pure_ (i := 5) (N := some 23) (v := undef) (a' := ?_) #[T,T,T,T,T,T,F,F,F] rfl rfl (any_of HT_.out (by kernel_rfl)) (fun _ _ _ h => h) (Or.inr ⟨by rfl, rfl⟩) ?_ ?_
   rotate_left
   ·
    simp only [Act.put, List.setIfInBounds_toArray, List.set_cons_zero, List.set_cons_succ, i64_w, i32_w]
    rfl
   refine pure_ (i := 6) (N := some 24) (v := undef) (a' := ?_) #[T,T,T,T,T,T,T,F,F] rfl rfl (any_of HT_.out (by kernel_rfl)) (fun _ _ _ h => h) (Or.inr ⟨by rfl, rfl⟩) ?_ ?_
   rotate_left
   ·
    simp only [Act.put, List.setIfInBounds_toArray, List.set_cons_zero, List.set_cons_succ, i64_w, i32_w]
    rfl
   refine pure_ (i := 7) (N := some 25) (v := ?_) (a' := ?_) #[T,T,T,T,T,T,T,T,F] rfl rfl (any_of HT_.out (by kernel_rfl)) (fun _ _ _ h => h) (Or.inl ⟨by rfl, ?_⟩) ?_ ?_
   rotate_left
   ·
    intro w'
    go_simp
    with_reducible rfl
   rotate_left
   ·
    simp only [Act.put, List.setIfInBounds_toArray, List.set_cons_zero, List.set_cons_succ, i64_w, i32_w]
    rfl
   refine pure_ (i := 8) (N := some 8) (v := ?_) (a' := ?_) #[T,T,T,T,T,T,T,T,T] rfl rfl (any_of HT_.out (by kernel_rfl)) (fun _ _ _ h => h) (Or.inl ⟨by rfl, ?_⟩) ?_ ?_
   rotate_left
   ·
    intro w'
    go_simp
    with_reducible rfl
   rotate_left
   ·
    simp only [Act.put, List.setIfInBounds_toArray, List.set_cons_zero, List.set_cons_succ, i64_w, i32_w]
    rfl
   refine done_ (done_of HT_.out (by kernel_rfl)) ?_
   try go_wp2
   go_ret
   exact ⟨by first | rfl | (simp [errW_none, errW_some] <;> rfl) | (simp [*, errW_none, errW_some] <;> rfl), by repeat (first | (with_reducible first | exact HB.out | apply below_alloc | apply pw_below_drewN | apply below_drew1 | refine below_set ?_ GE152.out) | exact HB.out)⟩

/-! ### turnoutlaw02_awake: function 12 -/
def turnoutlaw02_awake.f (k : Nat)  : Option (Bool) := (field_Get.f k (⟨#[18, 52]⟩ : ByteArray) 8 9).bind fun bt155 => ((turnoutlaw02_low.f 15).bind fun bt159 => ((field_Put.f k (⟨#[18, 52]⟩ : ByteArray) 4 4 bt159.1 bt159.2).bind fun bt161 => ((turnoutlaw02_low.f 31).bind fun bt163 => ((field_Text.f bt163.1 bt163.2 5).bind fun bt165 => ((turnoutlaw02_low.f 511).bind fun bt167 => ((field_Text.f bt167.1 bt167.2 9).bind fun bt169 => ((turnoutlaw02_is.f k (⟨#[18, 52]⟩ : ByteArray) 4 4 2).bind fun t171 => (if t171 = true then ((turnoutlaw02_is.f k (⟨#[18, 52]⟩ : ByteArray) 4 8 35).bind fun t172 => (if t172 = true then ((turnoutlaw02_is.f k (⟨#[18, 52]⟩ : ByteArray) 0 16 4660).bind fun t173 => (if t173 = true then (if bt155.2.2 = 4 then (if bt161.1.toList = ([31, 52] : List UInt8) then (if bt161.2 = 0 then (if bt165.1.toList = ([31] : List UInt8) then (if bt165.2 = 0 then (if bt169.1.toList = ([1, 255] : List UInt8) then (if bt169.2 = 0 then ((field_Prefix.f k (⟨#[18]⟩ : ByteArray) (⟨#[19]⟩ : ByteArray)).bind fun t174 => (some (t174 == 7))) else (some false)) else (some false)) else (some false)) else (some false)) else (some false)) else (some false)) else (some false)) else (some false))) else (some false))) else (some false)))))))))
theorem turnoutlaw02_awake.mono : ∀ k, LeO (turnoutlaw02_awake.f k ) (turnoutlaw02_awake.f (k + 1) ) := by
  intro  k
  unfold turnoutlaw02_awake.f
  repeat' first
    | (with_reducible exact field_Get.mono _ _ _ _)
    | (with_reducible exact field_Prefix.mono _ _ _)
    | (with_reducible exact field_Put.mono _ _ _ _ _ _)
    | (with_reducible exact turnoutlaw02_is.mono _ _ _ _ _)
    | (with_reducible exact LeO.refl _)
    | (with_reducible exact LeO.none _)
    | (with_reducible refine LeO.ite ?_ ?_)
    | (with_reducible refine LeO.bind ?_ (fun _ => ?_))
    | exact field_Get.mono _ _ _ _
    | exact field_Prefix.mono _ _ _
    | exact field_Put.mono _ _ _ _ _ _
    | exact turnoutlaw02_is.mono _ _ _ _ _
    | exact LeO.none _
    | refine LeO.ite ?_ ?_
    | refine LeO.bind ?_ (fun _ => ?_)
set_option maxHeartbeats 8000000 in
set_option maxRecDepth 100000 in
theorem turnoutlaw02_awake.calls (k : Nat)  (r : Bool) (w : World) (h : turnoutlaw02_awake.f k  = some r) (hr_ : Aside0 (r = true)) :
   Calls Try.prog 12 #[] w fun e w' => e = .returned (.bool r) ∧ Below w.heap.size w w' := by
  have hu25 := Try.underlying25
  have HB := Aside0.mk (Below.refl w.heap.size w)
  have H : ((field_Get.f k (⟨#[18, 52]⟩ : ByteArray) 8 9).bind fun bt155 => ((turnoutlaw02_low.f 15).bind fun bt159 => ((field_Put.f k (⟨#[18, 52]⟩ : ByteArray) 4 4 bt159.1 bt159.2).bind fun bt161 => ((turnoutlaw02_low.f 31).bind fun bt163 => ((field_Text.f bt163.1 bt163.2 5).bind fun bt165 => ((turnoutlaw02_low.f 511).bind fun bt167 => ((field_Text.f bt167.1 bt167.2 9).bind fun bt169 => ((turnoutlaw02_is.f k (⟨#[18, 52]⟩ : ByteArray) 4 4 2).bind fun t171 => (if t171 = true then ((turnoutlaw02_is.f k (⟨#[18, 52]⟩ : ByteArray) 4 8 35).bind fun t172 => (if t172 = true then ((turnoutlaw02_is.f k (⟨#[18, 52]⟩ : ByteArray) 0 16 4660).bind fun t173 => (if t173 = true then (if bt155.2.2 = 4 then (if bt161.1.toList = ([31, 52] : List UInt8) then (if bt161.2 = 0 then (if bt165.1.toList = ([31] : List UInt8) then (if bt165.2 = 0 then (if bt169.1.toList = ([1, 255] : List UInt8) then (if bt169.2 = 0 then ((field_Prefix.f k (⟨#[18]⟩ : ByteArray) (⟨#[19]⟩ : ByteArray)).bind fun t174 => (some (t174 == 7))) else (some false)) else (some false)) else (some false)) else (some false)) else (some false)) else (some false)) else (some false)) else (some false))) else (some false))) else (some false)))))))))) = some r := h
  clear h
  replace H := Option.bind_eq_some_iff.mp H
  obtain ⟨⟨t155, t156, t157⟩, A10, H⟩ := H
  replace H : ((turnoutlaw02_low.f 15).bind fun bt159 => ((field_Put.f k (⟨#[18, 52]⟩ : ByteArray) 4 4 bt159.1 bt159.2).bind fun bt161 => ((turnoutlaw02_low.f 31).bind fun bt163 => ((field_Text.f bt163.1 bt163.2 5).bind fun bt165 => ((turnoutlaw02_low.f 511).bind fun bt167 => ((field_Text.f bt167.1 bt167.2 9).bind fun bt169 => ((turnoutlaw02_is.f k (⟨#[18, 52]⟩ : ByteArray) 4 4 2).bind fun t171 => (if t171 = true then ((turnoutlaw02_is.f k (⟨#[18, 52]⟩ : ByteArray) 4 8 35).bind fun t172 => (if t172 = true then ((turnoutlaw02_is.f k (⟨#[18, 52]⟩ : ByteArray) 0 16 4660).bind fun t173 => (if t173 = true then (if t157 = 4 then (if bt161.1.toList = ([31, 52] : List UInt8) then (if bt161.2 = 0 then (if bt165.1.toList = ([31] : List UInt8) then (if bt165.2 = 0 then (if bt169.1.toList = ([1, 255] : List UInt8) then (if bt169.2 = 0 then ((field_Prefix.f k (⟨#[18]⟩ : ByteArray) (⟨#[19]⟩ : ByteArray)).bind fun t174 => (some (t174 == 7))) else (some false)) else (some false)) else (some false)) else (some false)) else (some false)) else (some false)) else (some false)) else (some false))) else (some false))) else (some false))))))))) = some r := H
  have A1 := Aside0.mk A10
  clear A10
  replace H := Option.bind_eq_some_iff.mp H
  obtain ⟨⟨t159, t160⟩, A20, H⟩ := H
  replace H : ((field_Put.f k (⟨#[18, 52]⟩ : ByteArray) 4 4 t159 t160).bind fun bt161 => ((turnoutlaw02_low.f 31).bind fun bt163 => ((field_Text.f bt163.1 bt163.2 5).bind fun bt165 => ((turnoutlaw02_low.f 511).bind fun bt167 => ((field_Text.f bt167.1 bt167.2 9).bind fun bt169 => ((turnoutlaw02_is.f k (⟨#[18, 52]⟩ : ByteArray) 4 4 2).bind fun t171 => (if t171 = true then ((turnoutlaw02_is.f k (⟨#[18, 52]⟩ : ByteArray) 4 8 35).bind fun t172 => (if t172 = true then ((turnoutlaw02_is.f k (⟨#[18, 52]⟩ : ByteArray) 0 16 4660).bind fun t173 => (if t173 = true then (if t157 = 4 then (if bt161.1.toList = ([31, 52] : List UInt8) then (if bt161.2 = 0 then (if bt165.1.toList = ([31] : List UInt8) then (if bt165.2 = 0 then (if bt169.1.toList = ([1, 255] : List UInt8) then (if bt169.2 = 0 then ((field_Prefix.f k (⟨#[18]⟩ : ByteArray) (⟨#[19]⟩ : ByteArray)).bind fun t174 => (some (t174 == 7))) else (some false)) else (some false)) else (some false)) else (some false)) else (some false)) else (some false)) else (some false)) else (some false))) else (some false))) else (some false)))))))) = some r := H
  have A2 := Aside0.mk A20
  clear A20
  replace H := Option.bind_eq_some_iff.mp H
  obtain ⟨⟨t161, t162⟩, A30, H⟩ := H
  replace H : ((turnoutlaw02_low.f 31).bind fun bt163 => ((field_Text.f bt163.1 bt163.2 5).bind fun bt165 => ((turnoutlaw02_low.f 511).bind fun bt167 => ((field_Text.f bt167.1 bt167.2 9).bind fun bt169 => ((turnoutlaw02_is.f k (⟨#[18, 52]⟩ : ByteArray) 4 4 2).bind fun t171 => (if t171 = true then ((turnoutlaw02_is.f k (⟨#[18, 52]⟩ : ByteArray) 4 8 35).bind fun t172 => (if t172 = true then ((turnoutlaw02_is.f k (⟨#[18, 52]⟩ : ByteArray) 0 16 4660).bind fun t173 => (if t173 = true then (if t157 = 4 then (if t161.toList = ([31, 52] : List UInt8) then (if t162 = 0 then (if bt165.1.toList = ([31] : List UInt8) then (if bt165.2 = 0 then (if bt169.1.toList = ([1, 255] : List UInt8) then (if bt169.2 = 0 then ((field_Prefix.f k (⟨#[18]⟩ : ByteArray) (⟨#[19]⟩ : ByteArray)).bind fun t174 => (some (t174 == 7))) else (some false)) else (some false)) else (some false)) else (some false)) else (some false)) else (some false)) else (some false)) else (some false))) else (some false))) else (some false))))))) = some r := H
  have A3 := Aside0.mk A30
  clear A30
  replace H := Option.bind_eq_some_iff.mp H
  obtain ⟨⟨t163, t164⟩, A40, H⟩ := H
  replace H : ((field_Text.f t163 t164 5).bind fun bt165 => ((turnoutlaw02_low.f 511).bind fun bt167 => ((field_Text.f bt167.1 bt167.2 9).bind fun bt169 => ((turnoutlaw02_is.f k (⟨#[18, 52]⟩ : ByteArray) 4 4 2).bind fun t171 => (if t171 = true then ((turnoutlaw02_is.f k (⟨#[18, 52]⟩ : ByteArray) 4 8 35).bind fun t172 => (if t172 = true then ((turnoutlaw02_is.f k (⟨#[18, 52]⟩ : ByteArray) 0 16 4660).bind fun t173 => (if t173 = true then (if t157 = 4 then (if t161.toList = ([31, 52] : List UInt8) then (if t162 = 0 then (if bt165.1.toList = ([31] : List UInt8) then (if bt165.2 = 0 then (if bt169.1.toList = ([1, 255] : List UInt8) then (if bt169.2 = 0 then ((field_Prefix.f k (⟨#[18]⟩ : ByteArray) (⟨#[19]⟩ : ByteArray)).bind fun t174 => (some (t174 == 7))) else (some false)) else (some false)) else (some false)) else (some false)) else (some false)) else (some false)) else (some false)) else (some false))) else (some false))) else (some false)))))) = some r := H
  have A4 := Aside0.mk A40
  clear A40
  replace H := Option.bind_eq_some_iff.mp H
  obtain ⟨⟨t165, t166⟩, A50, H⟩ := H
  replace H : ((turnoutlaw02_low.f 511).bind fun bt167 => ((field_Text.f bt167.1 bt167.2 9).bind fun bt169 => ((turnoutlaw02_is.f k (⟨#[18, 52]⟩ : ByteArray) 4 4 2).bind fun t171 => (if t171 = true then ((turnoutlaw02_is.f k (⟨#[18, 52]⟩ : ByteArray) 4 8 35).bind fun t172 => (if t172 = true then ((turnoutlaw02_is.f k (⟨#[18, 52]⟩ : ByteArray) 0 16 4660).bind fun t173 => (if t173 = true then (if t157 = 4 then (if t161.toList = ([31, 52] : List UInt8) then (if t162 = 0 then (if t165.toList = ([31] : List UInt8) then (if t166 = 0 then (if bt169.1.toList = ([1, 255] : List UInt8) then (if bt169.2 = 0 then ((field_Prefix.f k (⟨#[18]⟩ : ByteArray) (⟨#[19]⟩ : ByteArray)).bind fun t174 => (some (t174 == 7))) else (some false)) else (some false)) else (some false)) else (some false)) else (some false)) else (some false)) else (some false)) else (some false))) else (some false))) else (some false))))) = some r := H
  have A5 := Aside0.mk A50
  clear A50
  replace H := Option.bind_eq_some_iff.mp H
  obtain ⟨⟨t167, t168⟩, A60, H⟩ := H
  replace H : ((field_Text.f t167 t168 9).bind fun bt169 => ((turnoutlaw02_is.f k (⟨#[18, 52]⟩ : ByteArray) 4 4 2).bind fun t171 => (if t171 = true then ((turnoutlaw02_is.f k (⟨#[18, 52]⟩ : ByteArray) 4 8 35).bind fun t172 => (if t172 = true then ((turnoutlaw02_is.f k (⟨#[18, 52]⟩ : ByteArray) 0 16 4660).bind fun t173 => (if t173 = true then (if t157 = 4 then (if t161.toList = ([31, 52] : List UInt8) then (if t162 = 0 then (if t165.toList = ([31] : List UInt8) then (if t166 = 0 then (if bt169.1.toList = ([1, 255] : List UInt8) then (if bt169.2 = 0 then ((field_Prefix.f k (⟨#[18]⟩ : ByteArray) (⟨#[19]⟩ : ByteArray)).bind fun t174 => (some (t174 == 7))) else (some false)) else (some false)) else (some false)) else (some false)) else (some false)) else (some false)) else (some false)) else (some false))) else (some false))) else (some false)))) = some r := H
  have A6 := Aside0.mk A60
  clear A60
  replace H := Option.bind_eq_some_iff.mp H
  obtain ⟨⟨t169, t170⟩, A70, H⟩ := H
  replace H : ((turnoutlaw02_is.f k (⟨#[18, 52]⟩ : ByteArray) 4 4 2).bind fun t171 => (if t171 = true then ((turnoutlaw02_is.f k (⟨#[18, 52]⟩ : ByteArray) 4 8 35).bind fun t172 => (if t172 = true then ((turnoutlaw02_is.f k (⟨#[18, 52]⟩ : ByteArray) 0 16 4660).bind fun t173 => (if t173 = true then (if t157 = 4 then (if t161.toList = ([31, 52] : List UInt8) then (if t162 = 0 then (if t165.toList = ([31] : List UInt8) then (if t166 = 0 then (if t169.toList = ([1, 255] : List UInt8) then (if t170 = 0 then ((field_Prefix.f k (⟨#[18]⟩ : ByteArray) (⟨#[19]⟩ : ByteArray)).bind fun t174 => (some (t174 == 7))) else (some false)) else (some false)) else (some false)) else (some false)) else (some false)) else (some false)) else (some false)) else (some false))) else (some false))) else (some false))) = some r := H
  have A7 := Aside0.mk A70
  clear A70
  replace H := Option.bind_eq_some_iff.mp H
  obtain ⟨t171, A80, H⟩ := H
  replace H : (if t171 = true then ((turnoutlaw02_is.f k (⟨#[18, 52]⟩ : ByteArray) 4 8 35).bind fun t172 => (if t172 = true then ((turnoutlaw02_is.f k (⟨#[18, 52]⟩ : ByteArray) 0 16 4660).bind fun t173 => (if t173 = true then (if t157 = 4 then (if t161.toList = ([31, 52] : List UInt8) then (if t162 = 0 then (if t165.toList = ([31] : List UInt8) then (if t166 = 0 then (if t169.toList = ([1, 255] : List UInt8) then (if t170 = 0 then ((field_Prefix.f k (⟨#[18]⟩ : ByteArray) (⟨#[19]⟩ : ByteArray)).bind fun t174 => (some (t174 == 7))) else (some false)) else (some false)) else (some false)) else (some false)) else (some false)) else (some false)) else (some false)) else (some false))) else (some false))) else (some false)) = some r := H
  have A8 := Aside0.mk A80
  clear A80
  by_cases c9 : t171 = true
  ·
   subst c9
   have H1 : ((turnoutlaw02_is.f k (⟨#[18, 52]⟩ : ByteArray) 4 8 35).bind fun t172 => (if t172 = true then ((turnoutlaw02_is.f k (⟨#[18, 52]⟩ : ByteArray) 0 16 4660).bind fun t173 => (if t173 = true then (if t157 = 4 then (if t161.toList = ([31, 52] : List UInt8) then (if t162 = 0 then (if t165.toList = ([31] : List UInt8) then (if t166 = 0 then (if t169.toList = ([1, 255] : List UInt8) then (if t170 = 0 then ((field_Prefix.f k (⟨#[18]⟩ : ByteArray) (⟨#[19]⟩ : ByteArray)).bind fun t174 => (some (t174 == 7))) else (some false)) else (some false)) else (some false)) else (some false)) else (some false)) else (some false)) else (some false)) else (some false))) else (some false))) = some r := by rw [if_pos rfl] at H; exact H
   clear H; have H := H1; clear H1
   replace H := Option.bind_eq_some_iff.mp H
   obtain ⟨t172, A100, H⟩ := H
   replace H : (if t172 = true then ((turnoutlaw02_is.f k (⟨#[18, 52]⟩ : ByteArray) 0 16 4660).bind fun t173 => (if t173 = true then (if t157 = 4 then (if t161.toList = ([31, 52] : List UInt8) then (if t162 = 0 then (if t165.toList = ([31] : List UInt8) then (if t166 = 0 then (if t169.toList = ([1, 255] : List UInt8) then (if t170 = 0 then ((field_Prefix.f k (⟨#[18]⟩ : ByteArray) (⟨#[19]⟩ : ByteArray)).bind fun t174 => (some (t174 == 7))) else (some false)) else (some false)) else (some false)) else (some false)) else (some false)) else (some false)) else (some false)) else (some false))) else (some false)) = some r := H
   have A10 := Aside0.mk A100
   clear A100
   by_cases c11 : t172 = true
   ·
    subst c11
    have H1 : ((turnoutlaw02_is.f k (⟨#[18, 52]⟩ : ByteArray) 0 16 4660).bind fun t173 => (if t173 = true then (if t157 = 4 then (if t161.toList = ([31, 52] : List UInt8) then (if t162 = 0 then (if t165.toList = ([31] : List UInt8) then (if t166 = 0 then (if t169.toList = ([1, 255] : List UInt8) then (if t170 = 0 then ((field_Prefix.f k (⟨#[18]⟩ : ByteArray) (⟨#[19]⟩ : ByteArray)).bind fun t174 => (some (t174 == 7))) else (some false)) else (some false)) else (some false)) else (some false)) else (some false)) else (some false)) else (some false)) else (some false))) = some r := by rw [if_pos rfl] at H; exact H
    clear H; have H := H1; clear H1
    replace H := Option.bind_eq_some_iff.mp H
    obtain ⟨t173, A120, H⟩ := H
    replace H : (if t173 = true then (if t157 = 4 then (if t161.toList = ([31, 52] : List UInt8) then (if t162 = 0 then (if t165.toList = ([31] : List UInt8) then (if t166 = 0 then (if t169.toList = ([1, 255] : List UInt8) then (if t170 = 0 then ((field_Prefix.f k (⟨#[18]⟩ : ByteArray) (⟨#[19]⟩ : ByteArray)).bind fun t174 => (some (t174 == 7))) else (some false)) else (some false)) else (some false)) else (some false)) else (some false)) else (some false)) else (some false)) else (some false)) = some r := H
    have A12 := Aside0.mk A120
    clear A120
    by_cases c13 : t173 = true
    ·
     subst c13
     have H1 : (if t157 = 4 then (if t161.toList = ([31, 52] : List UInt8) then (if t162 = 0 then (if t165.toList = ([31] : List UInt8) then (if t166 = 0 then (if t169.toList = ([1, 255] : List UInt8) then (if t170 = 0 then ((field_Prefix.f k (⟨#[18]⟩ : ByteArray) (⟨#[19]⟩ : ByteArray)).bind fun t174 => (some (t174 == 7))) else (some false)) else (some false)) else (some false)) else (some false)) else (some false)) else (some false)) else (some false)) = some r := by rw [if_pos rfl] at H; exact H
     clear H; have H := H1; clear H1
     by_cases c14 : t157 = 4
     ·
      rw [if_pos c14] at H
      have c14b0 : (t157 == 4) = true := beq_iff_eq.mpr c14
      have c14b1 : (t157 != 4) = false := bne_eq_false_iff_eq.mpr c14
      clear c14
      by_cases c15 : t161.toList = ([31, 52] : List UInt8)
      ·
       rw [if_pos c15] at H
       have c15b0 : (t161.toList == ([31, 52] : List UInt8)) = true := beq_iff_eq.mpr c15
       have c15b1 : (t161.toList != ([31, 52] : List UInt8)) = false := bne_eq_false_iff_eq.mpr c15
       clear c15
       by_cases c16 : t162 = 0
       ·
        rw [if_pos c16] at H
        have c16b0 : (t162 == 0) = true := beq_iff_eq.mpr c16
        have c16b1 : (t162 != 0) = false := bne_eq_false_iff_eq.mpr c16
        clear c16
        by_cases c17 : t165.toList = ([31] : List UInt8)
        ·
         rw [if_pos c17] at H
         have c17b0 : (t165.toList == ([31] : List UInt8)) = true := beq_iff_eq.mpr c17
         have c17b1 : (t165.toList != ([31] : List UInt8)) = false := bne_eq_false_iff_eq.mpr c17
         clear c17
         by_cases c18 : t166 = 0
         ·
          rw [if_pos c18] at H
          have c18b0 : (t166 == 0) = true := beq_iff_eq.mpr c18
          have c18b1 : (t166 != 0) = false := bne_eq_false_iff_eq.mpr c18
          clear c18
          by_cases c19 : t169.toList = ([1, 255] : List UInt8)
          ·
           rw [if_pos c19] at H
           have c19b0 : (t169.toList == ([1, 255] : List UInt8)) = true := beq_iff_eq.mpr c19
           have c19b1 : (t169.toList != ([1, 255] : List UInt8)) = false := bne_eq_false_iff_eq.mpr c19
           clear c19
           by_cases c20 : t170 = 0
           ·
            rw [if_pos c20] at H
            have c20b0 : (t170 == 0) = true := beq_iff_eq.mpr c20
            have c20b1 : (t170 != 0) = false := bne_eq_false_iff_eq.mpr c20
            clear c20
            replace H := Option.bind_eq_some_iff.mp H
            obtain ⟨t174, A210, H⟩ := H
            replace H : (some (t174 == 7)) = some r := H
            have A21 := Aside0.mk A210
            clear A210
            obtain rfl := Option.some.inj H
            go_enter Try.func12, Try.ntmps12
            go_wp2_with (first | ((with_reducible refine gate_callee (f := 13) rfl ?_); refine goesL_ (some 10) rfl rfl Try.func13 (by kernel_rfl) rfl #[.string (⟨#[18, 52]⟩ : ByteArray), .int .i64 8, .int .i64 9] rfl (by (try simp only [List.map_toArray, List.map_cons, List.map_nil]); first | done | rfl | (simp only [List.length_drop, List.length_take]; rfl)) ?_; (with_reducible refine (field_Get.calls k (⟨#[18, 52]⟩ : ByteArray) 8 9 t155 t156 t157 _ A1.out).mono ?_); rintro e w22 ⟨rfl, hb⟩; refine ⟨_, rfl, ?_⟩; replace HB := Aside0.mk (below_step (by repeat (first | (with_reducible first | exact HB.out | apply below_alloc | apply pw_below_drewN | apply below_drew1) | exact HB.out)) hb); (try clear hb); (try clear hb2); (try clear hk); (try clear hi)) | ((with_reducible refine gate_dst (N := 1) rfl ?_); refine box_event ?hg (N := 1) ?hd (cs := #[.int .u64 0, .int .u64 0]) (t := 25) ?hr ?_; (case hd => rfl); (case hg => rfl); (case hr => first | (go_simp; done) | (go_simp; rfl)); intro gb158 hg w23 hbox hb; have BK158 := Aside0.mk (hbox); have GW158 := Aside0.mk ((by rw [hg]; exact (below_size (by repeat (first | (with_reducible first | exact HB.out | apply below_alloc | apply pw_below_drewN | apply below_drew1) | exact HB.out))) : w.heap.size ≤ gb158)); have GE158 := Aside0.mk ((by rw [hg]; exact (below_size (by repeat (first | (with_reducible first | exact HB.out | apply below_alloc | apply pw_below_drewN | apply below_drew1) | exact HB.out))) : w.heap.size ≤ gb158)); replace HB := Aside0.mk (below_step (by repeat (first | (with_reducible first | exact HB.out | apply below_alloc | apply pw_below_drewN | apply below_drew1) | exact HB.out)) hb); clear hb hbox hg; have hcz24_0 : w23.cell? ⟨gb158, 0, none⟩ = some (.int .u64 0) := (blk_cell BK158.out 0).trans rfl; have hcz24_1 : w23.cell? ⟨gb158, 1, none⟩ = some (.int .u64 0) := (blk_cell BK158.out 1).trans rfl; have hfz24_0 := blk_frozen BK158.out 0; have hfz24_1 := blk_frozen BK158.out 1) | ((with_reducible refine gate_callee (f := 28) rfl ?_); refine goesL_ (some 14) rfl rfl Try.func28 (by kernel_rfl) rfl #[.int .u64 15] rfl (by (try simp only [List.map_toArray, List.map_cons, List.map_nil]); first | done | rfl | (simp only [List.length_drop, List.length_take]; rfl)) ?_; (with_reducible refine (turnoutlaw02_low.calls 15 t159 t160 _ A2.out).mono ?_); rintro e w25 ⟨rfl, hb⟩; refine ⟨_, rfl, ?_⟩; replace BK158 := Aside0.mk (blk_below (g := gb158) (o := .cells #[.int .u64 t155, .int .u64 t156] 25 (0, 0)) (by (with_reducible repeat (first | refine blk_drewN ?_ _ | refine blk_drew ?_ | refine blk_alloc ?_ _)); refine blk_put (cs := #[.int .u64 t155, .int .u64 0]) ?_ 1 _ rfl; (with_reducible repeat (first | refine blk_drewN ?_ _ | refine blk_drew ?_ | refine blk_alloc ?_ _)); refine blk_put (cs := #[.int .u64 0, .int .u64 0]) ?_ 0 _ rfl; (with_reducible repeat (first | refine blk_drewN ?_ _ | refine blk_drew ?_ | refine blk_alloc ?_ _)); exact BK158.out) hb); replace HB := Aside0.mk (below_step (by repeat (first | (with_reducible first | exact HB.out | apply below_alloc | apply pw_below_drewN | apply below_drew1 | refine below_set ?_ GE158.out) | exact HB.out)) hb); (try clear hb); (try clear hb2); (try clear hk); (try clear hi)) | ((with_reducible refine gate_callee (f := 15) rfl ?_); refine goesL_ (some 15) rfl rfl Try.func15 (by kernel_rfl) rfl #[.string (⟨#[18, 52]⟩ : ByteArray), .int .i64 4, .int .i64 4, .agg #[.int .u64 t159, .int .u64 t160]] rfl (by (try simp only [List.map_toArray, List.map_cons, List.map_nil]); first | done | rfl | (simp only [List.length_drop, List.length_take]; rfl)) ?_; (with_reducible refine (field_Put.calls k (⟨#[18, 52]⟩ : ByteArray) 4 4 t159 t160 t161 t162 _ A3.out).mono ?_); rintro e w26 ⟨rfl, hb⟩; refine ⟨_, rfl, ?_⟩; replace BK158 := Aside0.mk (blk_below (bkA BK158.out) hb); replace HB := Aside0.mk (below_step (by repeat (first | (with_reducible first | exact HB.out | apply below_alloc | apply pw_below_drewN | apply below_drew1 | refine below_set ?_ GE158.out) | exact HB.out)) hb); (try clear hb); (try clear hb2); (try clear hk); (try clear hi)) | ((with_reducible refine gate_callee (f := 28) rfl ?_); refine goesL_ (some 19) rfl rfl Try.func28 (by kernel_rfl) rfl #[.int .u64 31] rfl (by (try simp only [List.map_toArray, List.map_cons, List.map_nil]); first | done | rfl | (simp only [List.length_drop, List.length_take]; rfl)) ?_; (with_reducible refine (turnoutlaw02_low.calls 31 t163 t164 _ A4.out).mono ?_); rintro e w27 ⟨rfl, hb⟩; refine ⟨_, rfl, ?_⟩; replace BK158 := Aside0.mk (blk_below (bkA BK158.out) hb); replace HB := Aside0.mk (below_step (by repeat (first | (with_reducible first | exact HB.out | apply below_alloc | apply pw_below_drewN | apply below_drew1 | refine below_set ?_ GE158.out) | exact HB.out)) hb); (try clear hb); (try clear hb2); (try clear hk); (try clear hi)) | ((with_reducible refine gate_callee (f := 21) rfl ?_); refine goesL_ (some 20) rfl rfl Try.func21 (by kernel_rfl) rfl #[.agg #[.int .u64 t163, .int .u64 t164], .int .i64 5] rfl (by (try simp only [List.map_toArray, List.map_cons, List.map_nil]); first | done | rfl | (simp only [List.length_drop, List.length_take]; rfl)) ?_; (with_reducible refine (field_Text.calls t163 t164 5 t165 t166 _ A5.out).mono ?_); rintro e w28 ⟨rfl, hb⟩; refine ⟨_, rfl, ?_⟩; replace BK158 := Aside0.mk (blk_below (bkA BK158.out) hb); replace HB := Aside0.mk (below_step (by repeat (first | (with_reducible first | exact HB.out | apply below_alloc | apply pw_below_drewN | apply below_drew1 | refine below_set ?_ GE158.out) | exact HB.out)) hb); (try clear hb); (try clear hb2); (try clear hk); (try clear hi)) | ((with_reducible refine gate_callee (f := 28) rfl ?_); refine goesL_ (some 24) rfl rfl Try.func28 (by kernel_rfl) rfl #[.int .u64 511] rfl (by (try simp only [List.map_toArray, List.map_cons, List.map_nil]); first | done | rfl | (simp only [List.length_drop, List.length_take]; rfl)) ?_; (with_reducible refine (turnoutlaw02_low.calls 511 t167 t168 _ A6.out).mono ?_); rintro e w29 ⟨rfl, hb⟩; refine ⟨_, rfl, ?_⟩; replace BK158 := Aside0.mk (blk_below (bkA BK158.out) hb); replace HB := Aside0.mk (below_step (by repeat (first | (with_reducible first | exact HB.out | apply below_alloc | apply pw_below_drewN | apply below_drew1 | refine below_set ?_ GE158.out) | exact HB.out)) hb); (try clear hb); (try clear hb2); (try clear hk); (try clear hi)) | ((with_reducible refine gate_callee (f := 21) rfl ?_); refine goesL_ (some 25) rfl rfl Try.func21 (by kernel_rfl) rfl #[.agg #[.int .u64 t167, .int .u64 t168], .int .i64 9] rfl (by (try simp only [List.map_toArray, List.map_cons, List.map_nil]); first | done | rfl | (simp only [List.length_drop, List.length_take]; rfl)) ?_; (with_reducible refine (field_Text.calls t167 t168 9 t169 t170 _ A7.out).mono ?_); rintro e w30 ⟨rfl, hb⟩; refine ⟨_, rfl, ?_⟩; replace BK158 := Aside0.mk (blk_below (bkA BK158.out) hb); replace HB := Aside0.mk (below_step (by repeat (first | (with_reducible first | exact HB.out | apply below_alloc | apply pw_below_drewN | apply below_drew1 | refine below_set ?_ GE158.out) | exact HB.out)) hb); (try clear hb); (try clear hb2); (try clear hk); (try clear hi)) | ((with_reducible refine gate_callee (f := 32) rfl ?_); refine goesL_ (some 28) rfl rfl Try.func32 (by kernel_rfl) rfl #[.string (⟨#[18, 52]⟩ : ByteArray), .int .i64 4, .int .i64 4, .int .u64 2] rfl (by (try simp only [List.map_toArray, List.map_cons, List.map_nil]); first | done | rfl | (simp only [List.length_drop, List.length_take]; rfl)) ?_; (with_reducible refine (turnoutlaw02_is.calls k (⟨#[18, 52]⟩ : ByteArray) 4 4 2 true _ A8.out).mono ?_); rintro e w31 ⟨rfl, hb⟩; refine ⟨_, rfl, ?_⟩; replace BK158 := Aside0.mk (blk_below (bkA BK158.out) hb); replace HB := Aside0.mk (below_step (by repeat (first | (with_reducible first | exact HB.out | apply below_alloc | apply pw_below_drewN | apply below_drew1 | refine below_set ?_ GE158.out) | exact HB.out)) hb); (try clear hb); (try clear hb2); (try clear hk); (try clear hi)) | (go_at_call 32; (with_reducible refine (turnoutlaw02_is.calls k (⟨#[18, 52]⟩ : ByteArray) 4 8 35 true _ A10.out).mono ?_); rintro e w32 ⟨rfl, hb⟩; replace BK158 := Aside0.mk (blk_below (bkA BK158.out) hb); replace HB := Aside0.mk (below_step (by repeat (first | (with_reducible first | exact HB.out | apply below_alloc | apply pw_below_drewN | apply below_drew1 | refine below_set ?_ GE158.out) | exact HB.out)) hb); (try clear hb); (try clear hb2); (try clear hk); (try clear hi)) | (go_at_call 32; (with_reducible refine (turnoutlaw02_is.calls k (⟨#[18, 52]⟩ : ByteArray) 0 16 4660 true _ A12.out).mono ?_); rintro e w33 ⟨rfl, hb⟩; replace BK158 := Aside0.mk (blk_below (bkA BK158.out) hb); replace HB := Aside0.mk (below_step (by repeat (first | (with_reducible first | exact HB.out | apply below_alloc | apply pw_below_drewN | apply below_drew1 | refine below_set ?_ GE158.out) | exact HB.out)) hb); (try clear hb); (try clear hb2); (try clear hk); (try clear hi)) | (go_at_call 20; (with_reducible refine (field_Prefix.calls k (⟨#[18]⟩ : ByteArray) (⟨#[19]⟩ : ByteArray) t174 _ A21.out).mono ?_); rintro e w' ⟨rfl, ⟨nd, rfl⟩⟩))
            go_ret
            exact ⟨by first | rfl | (simp [errW_none, errW_some] <;> rfl) | (simp [*, errW_none, errW_some] <;> rfl), by repeat (first | (with_reducible first | exact HB.out | apply below_alloc | apply pw_below_drewN | apply below_drew1 | refine below_set ?_ GE158.out) | exact HB.out)⟩
           ·
            rw [if_neg c20] at H
            have c20b0 : (t170 == 0) = false := beq_eq_false_iff_ne.mpr c20
            have c20b1 : (t170 != 0) = true := bne_iff_ne.mpr c20
            exact absurd ((Option.some.inj H).trans hr_.out) (by decide)
          ·
           rw [if_neg c19] at H
           have c19b0 : (t169.toList == ([1, 255] : List UInt8)) = false := beq_eq_false_iff_ne.mpr c19
           have c19b1 : (t169.toList != ([1, 255] : List UInt8)) = true := bne_iff_ne.mpr c19
           exact absurd ((Option.some.inj H).trans hr_.out) (by decide)
         ·
          rw [if_neg c18] at H
          have c18b0 : (t166 == 0) = false := beq_eq_false_iff_ne.mpr c18
          have c18b1 : (t166 != 0) = true := bne_iff_ne.mpr c18
          exact absurd ((Option.some.inj H).trans hr_.out) (by decide)
        ·
         rw [if_neg c17] at H
         have c17b0 : (t165.toList == ([31] : List UInt8)) = false := beq_eq_false_iff_ne.mpr c17
         have c17b1 : (t165.toList != ([31] : List UInt8)) = true := bne_iff_ne.mpr c17
         exact absurd ((Option.some.inj H).trans hr_.out) (by decide)
       ·
        rw [if_neg c16] at H
        have c16b0 : (t162 == 0) = false := beq_eq_false_iff_ne.mpr c16
        have c16b1 : (t162 != 0) = true := bne_iff_ne.mpr c16
        exact absurd ((Option.some.inj H).trans hr_.out) (by decide)
      ·
       rw [if_neg c15] at H
       have c15b0 : (t161.toList == ([31, 52] : List UInt8)) = false := beq_eq_false_iff_ne.mpr c15
       have c15b1 : (t161.toList != ([31, 52] : List UInt8)) = true := bne_iff_ne.mpr c15
       exact absurd ((Option.some.inj H).trans hr_.out) (by decide)
     ·
      rw [if_neg c14] at H
      have c14b0 : (t157 == 4) = false := beq_eq_false_iff_ne.mpr c14
      have c14b1 : (t157 != 4) = true := bne_iff_ne.mpr c14
      exact absurd ((Option.some.inj H).trans hr_.out) (by decide)
    ·
     replace c13 := Bool.eq_false_iff.mpr c13
     subst c13
     have H1 : (some false) = some r := by rw [if_neg (show ¬ (false = true) by decide)] at H; exact H
     clear H; have H := H1; clear H1
     exact absurd ((Option.some.inj H).trans hr_.out) (by decide)
   ·
    replace c11 := Bool.eq_false_iff.mpr c11
    subst c11
    have H1 : (some false) = some r := by rw [if_neg (show ¬ (false = true) by decide)] at H; exact H
    clear H; have H := H1; clear H1
    exact absurd ((Option.some.inj H).trans hr_.out) (by decide)
  ·
   replace c9 := Bool.eq_false_iff.mpr c9
   subst c9
   have H1 : (some false) = some r := by rw [if_neg (show ¬ (false = true) by decide)] at H; exact H
   clear H; have H := H1; clear H1
   exact absurd ((Option.some.inj H).trans hr_.out) (by decide)

/-! ### turnoutref02_May: function 35 -/
def turnoutref02_May.j0 : Nat → ByteArray → Int → Int → Bool → Option (Int)
  | 0, _, _, _, _ => none
  | k + 1, x0, x1, x2, x16 => if x16 = true then (some 1) else (if x1 > (wrap64 ((wrap64 (8 * (x0.size : Int))) - x2)) then (some 4) else (some 0))
def turnoutref02_May.f (k : Nat) (a0 : ByteArray) (a1 : Int) (a2 : Int) : Option (Int) := if a2 < 1 then (turnoutref02_May.j0 k a0 a1 a2 true) else (if a2 > 128 then (turnoutref02_May.j0 k a0 a1 a2 true) else (turnoutref02_May.j0 k a0 a1 a2 (decide (a1 < 0))))
theorem turnoutref02_May.mono_l : ∀ k, (∀ y0 y1 y2 y3, LeO (turnoutref02_May.j0 k y0 y1 y2 y3) (turnoutref02_May.j0 (k + 1) y0 y1 y2 y3))
  | 0 => fun _ _ _ _ r h => by simp [turnoutref02_May.j0] at h
  | k + 1 => by
   have ih0 := turnoutref02_May.mono_l k
   ·
    intro y0 y1 y2 y3
    unfold turnoutref02_May.j0
    repeat' first
    | (with_reducible exact ih0 _ _ _ _)
    | (with_reducible exact LeO.refl _)
    | (with_reducible exact LeO.none _)
    | (with_reducible refine LeO.ite ?_ ?_)
    | (with_reducible refine LeO.bind ?_ (fun _ => ?_))
    | exact ih0 _ _ _ _
    | exact LeO.none _
    | refine LeO.ite ?_ ?_
    | refine LeO.bind ?_ (fun _ => ?_)
theorem turnoutref02_May.mono : ∀ a0 a1 a2 k, LeO (turnoutref02_May.f k a0 a1 a2) (turnoutref02_May.f (k + 1) a0 a1 a2) := by
  intro a0 a1 a2 k
  have ih0 := turnoutref02_May.mono_l k
  unfold turnoutref02_May.f
  repeat' first
    | (with_reducible exact ih0 _ _ _ _)
    | (with_reducible exact LeO.refl _)
    | (with_reducible exact LeO.none _)
    | (with_reducible refine LeO.ite ?_ ?_)
    | (with_reducible refine LeO.bind ?_ (fun _ => ?_))
    | exact ih0 _ _ _ _
    | exact LeO.none _
    | refine LeO.ite ?_ ?_
    | refine LeO.bind ?_ (fun _ => ?_)
set_option maxHeartbeats 8000000 in
set_option maxRecDepth 100000 in
theorem turnoutref02_May.calls (k : Nat) (a0 : ByteArray) (a1 : Int) (a2 : Int) (r : Int) (w : World) (h : turnoutref02_May.f k a0 a1 a2 = some r) :
   Calls Try.prog 35 #[.string a0, .int .i64 a1, .int .i64 a2] w fun e w' => e = .returned (.int .i64 r) ∧ Drawn0 w w' := by
  have H : (if a2 < 1 then (turnoutref02_May.j0 k a0 a1 a2 true) else (if a2 > 128 then (turnoutref02_May.j0 k a0 a1 a2 true) else (turnoutref02_May.j0 k a0 a1 a2 (decide (a1 < 0))))) = some r := h
  clear h
  have HC4 := Aside0.mk H
  clear H
  go_enter Try.func35, Try.ntmps35
  go_upto_region 1 with (fail)
  go_cut [16] (fun v16 wc => ∃ (kq : Nat) (x16_3 : Bool), v16 = .bool x16_3 ∧ Aside0 (turnoutref02_May.j0 kq a0 a1 a2 x16_3 = some r) ∧ Aside0 (kq ≤ k) ∧ Drawn0 w wc)
  case first =>
   have H := HC4.out
   clear HC4
   by_cases c5 : a2 < 1
   ·
    rw [if_pos c5] at H
    have c5b0 : decide (a2 < 1) = true := decide_eq_true c5
    clear c5
    (first | rw [c5b0] | (simp only [i64_w, i32_w]; rw [c5b0]) | skip)
    have H' := Aside0.mk H
    clear H
    go_wp2
    go_meet
    case rel => exact ⟨_, (true), (by first | rfl | (simp; done) | (simp [*]; done)), H', ⟨by first | omega | exact Nat.le_refl _⟩, by repeat (first | exact Drawn0.refl _ | apply Drawn0.step)⟩
   ·
    rw [if_neg c5] at H
    have c5b0 : decide (a2 < 1) = false := decide_eq_false c5
    clear c5
    (first | rw [c5b0] | (simp only [i64_w, i32_w]; rw [c5b0]) | skip)
    by_cases c6 : a2 > 128
    ·
     rw [if_pos c6] at H
     have c6b0 : decide (128 < a2) = true := decide_eq_true c6
     clear c6
     have H' := Aside0.mk H
     clear H
     go_wp2
     go_meet
     case rel => exact ⟨_, (true), (by first | rfl | (simp; done) | (simp [*]; done)), H', ⟨by first | omega | exact Nat.le_refl _⟩, by repeat (first | exact Drawn0.refl _ | apply Drawn0.step)⟩
    ·
     rw [if_neg c6] at H
     have c6b0 : decide (128 < a2) = false := decide_eq_false c6
     clear c6
     have H' := Aside0.mk H
     clear H
     go_wp2
     go_meet
     case rel => exact ⟨_, (decide (a1 < 0)), (by first | rfl | (simp; done) | (simp [*]; done)), H', ⟨by first | omega | exact Nat.le_refl _⟩, by repeat (first | exact Drawn0.refl _ | apply Drawn0.step)⟩
  case rest =>
   clear HC4
   try clear p2
   try clear c3
   try clear c5
   try clear c5b0
   try clear c6
   try clear c6b0
   obtain ⟨kq, x16_3, rfl, HA, HJ3, ⟨mc3, rfl⟩⟩ := hcut
   cases kq with
   | zero => exact absurd HA.out (by simp [turnoutref02_May.j0])
   | succ kj3 =>
    have H := HA.out
    clear HA
    simp only [turnoutref02_May.j0] at H
    by_cases c7 : x16_3 = true
    ·
     subst c7
     have H1 : (some 1) = some r := by rw [if_pos rfl] at H; exact H
     clear H; have H := H1; clear H1
     obtain rfl := Option.some.inj H
     go_wp2
     go_ret
     exact ⟨by first | rfl | (simp; done) | (simp [*]; done), by repeat (first | exact Drawn0.refl _ | apply Drawn0.step)⟩
    ·
     replace c7 := Bool.eq_false_iff.mpr c7
     subst c7
     have H1 : (if a1 > (wrap64 ((wrap64 (8 * (a0.size : Int))) - a2)) then (some 4) else (some 0)) = some r := by rw [if_neg (show ¬ (false = true) by decide)] at H; exact H
     clear H; have H := H1; clear H1
     by_cases c8 : a1 > (wrap64 ((wrap64 (8 * (a0.size : Int))) - a2))
     ·
      rw [if_pos c8] at H
      have c8b0 : decide ((wrap64 ((wrap64 (8 * (a0.size : Int))) - a2)) < a1) = true := decide_eq_true c8
      clear c8
      obtain rfl := Option.some.inj H
      go_wp2
      go_ret
      exact ⟨by first | rfl | (simp; done) | (simp [*]; done), by repeat (first | exact Drawn0.refl _ | apply Drawn0.step)⟩
     ·
      rw [if_neg c8] at H
      have c8b0 : decide ((wrap64 ((wrap64 (8 * (a0.size : Int))) - a2)) < a1) = false := decide_eq_false c8
      clear c8
      obtain rfl := Option.some.inj H
      go_wp2
      go_ret
      exact ⟨by first | rfl | (simp; done) | (simp [*]; done), by repeat (first | exact Drawn0.refl _ | apply Drawn0.step)⟩

/-! ### turnoutref02_Twice: function 36 -/
def turnoutref02_Twice.f (a0_0 : Int) (a0_1 : Int) (a1 : Int) : Option (Int × Int) := some (IntKind.u64.wrap ((IntKind.u64.wrap (a0_0 * 2)) + (IntKind.u64.wrap (Int.tdiv a0_1 9223372036854775808))), IntKind.u64.wrap ((IntKind.u64.wrap (a0_1 * 2)) + a1))
set_option maxHeartbeats 8000000 in
set_option maxRecDepth 100000 in
theorem turnoutref02_Twice.calls (a0_0 : Int) (a0_1 : Int) (a1 : Int) (r1 : Int) (r2 : Int) (w : World) (h : turnoutref02_Twice.f a0_0 a0_1 a1 = some (r1, r2)) :
   Calls Try.prog 36 #[.agg #[.int .u64 a0_0, .int .u64 a0_1], .int .u64 a1] w fun e w' => e = .returned (.agg #[.int .u64 r1, .int .u64 r2]) ∧ Below w.heap.size w w' := by
  have hu25 := Try.underlying25
  have HB := Aside0.mk (Below.refl w.heap.size w)
  have H : (some (IntKind.u64.wrap ((IntKind.u64.wrap (a0_0 * 2)) + (IntKind.u64.wrap (Int.tdiv a0_1 9223372036854775808))), IntKind.u64.wrap ((IntKind.u64.wrap (a0_1 * 2)) + a1))) = some (r1, r2) := h
  clear h
  simp only [Option.some.injEq, Prod.mk.injEq] at H
  obtain ⟨rfl, rfl⟩ := H
  go_enter Try.func36, Try.ntmps36
  go_wp2_with (first | ((with_reducible refine gate_dst (N := 2) rfl ?_); refine box_event ?hg (N := 2) ?hd (cs := #[.int .u64 a0_0, .int .u64 a0_1]) (t := 25) ?hr ?_; (case hd => rfl); (case hg => rfl); (case hr => first | (go_simp; done) | (go_simp; rfl)); intro gb175 hg w3 hbox hb; have BK175 := Aside0.mk (hbox); have GW175 := Aside0.mk ((by rw [hg]; exact (below_size (by repeat (first | (with_reducible first | exact HB.out | apply below_alloc | apply pw_below_drewN | apply below_drew1) | exact HB.out))) : w.heap.size ≤ gb175)); have GE175 := Aside0.mk ((by rw [hg]; exact (below_size (by repeat (first | (with_reducible first | exact HB.out | apply below_alloc | apply pw_below_drewN | apply below_drew1) | exact HB.out))) : w.heap.size ≤ gb175)); replace HB := Aside0.mk (below_step (by repeat (first | (with_reducible first | exact HB.out | apply below_alloc | apply pw_below_drewN | apply below_drew1) | exact HB.out)) hb); clear hb hbox hg) | ((with_reducible refine gate_dst (N := 4) rfl ?_); refine box_event ?hg (N := 4) ?hd (cs := #[.int .u64 0, .int .u64 0]) (t := 25) ?hr ?_; (case hd => rfl); (case hg => rfl); (case hr => first | (go_simp; done) | (go_simp; rfl)); intro gb176 hg w4 hbox hb; have BK176 := Aside0.mk (hbox); have GW176 := Aside0.mk ((by rw [hg]; exact (below_size (by repeat (first | (with_reducible first | exact HB.out | apply below_alloc | apply pw_below_drewN | apply below_drew1 | refine below_set ?_ GE175.out) | exact HB.out))) : w.heap.size ≤ gb176)); have GE176 := Aside0.mk ((by rw [hg]; exact (below_size (by repeat (first | (with_reducible first | exact HB.out | apply below_alloc | apply pw_below_drewN | apply below_drew1 | refine below_set ?_ GE175.out) | exact HB.out))) : w.heap.size ≤ gb176)); replace HB := Aside0.mk (below_step (by repeat (first | (with_reducible first | exact HB.out | apply below_alloc | apply pw_below_drewN | apply below_drew1 | refine below_set ?_ GE175.out) | exact HB.out)) hb); have NB175_176 := Aside0.mk ((by rw [hg]; exact Nat.ne_of_lt (blk_lt (bkA BK175.out)) : gb175 ≠ gb176)); have NB176_175 := Aside0.mk ((by rw [hg]; exact Nat.ne_of_gt (blk_lt (bkA BK175.out)) : gb176 ≠ gb175)); replace BK175 := Aside0.mk (blk_below (bkA BK175.out) hb); clear hb hbox hg; have hnb5 := NB175_176.out; have hnc5 := NB176_175.out; have hcz6_0 : w4.cell? ⟨gb175, 0, none⟩ = some (.int .u64 a0_0) := (blk_cell BK175.out 0).trans rfl; have hcz6_1 : w4.cell? ⟨gb175, 1, none⟩ = some (.int .u64 a0_1) := (blk_cell BK175.out 1).trans rfl; have hfz6_0 := blk_frozen BK175.out 0; have hfz6_1 := blk_frozen BK175.out 1; have hcz7_0 : w4.cell? ⟨gb176, 0, none⟩ = some (.int .u64 0) := (blk_cell BK176.out 0).trans rfl; have hcz7_1 : w4.cell? ⟨gb176, 1, none⟩ = some (.int .u64 0) := (blk_cell BK176.out 1).trans rfl; have hfz7_0 := blk_frozen BK176.out 0; have hfz7_1 := blk_frozen BK176.out 1))
  refine bodyPost_ret (results_cell_row rfl _ _ gb176 25 #[.int .u64 (IntKind.u64.wrap ((IntKind.u64.wrap (a0_0 * 2)) + (IntKind.u64.wrap (Int.tdiv a0_1 9223372036854775808)))), .int .u64 (IntKind.u64.wrap ((IntKind.u64.wrap (a0_1 * 2)) + a1))] (0, 0) _ rfl (by (with_reducible repeat (first | refine blk_drewN ?_ _ | refine blk_drew ?_ | refine blk_alloc ?_ _)); refine blk_put (cs := #[.int .u64 (IntKind.u64.wrap ((IntKind.u64.wrap (a0_0 * 2)) + (IntKind.u64.wrap (Int.tdiv a0_1 9223372036854775808)))), .int .u64 0]) ?_ 1 _ rfl; (with_reducible repeat (first | refine blk_drewN ?_ _ | refine blk_drew ?_ | refine blk_alloc ?_ _)); refine blk_put (cs := #[.int .u64 0, .int .u64 0]) ?_ 0 _ rfl; (with_reducible repeat (first | refine blk_drewN ?_ _ | refine blk_drew ?_ | refine blk_alloc ?_ _)); exact BK176.out) Try.underlying25 rfl (by kernel_rfl)) rfl ?_
  exact ⟨by first | rfl | (simp [errW_none, errW_some] <;> rfl) | (simp [*, errW_none, errW_some] <;> rfl), by repeat (first | (with_reducible first | exact HB.out | apply below_alloc | apply pw_below_drewN | apply below_drew1 | refine below_set ?_ GE175.out | refine below_set ?_ GE176.out) | exact HB.out)⟩

/-! ### turnoutref02_Bit: function 37 -/
def turnoutref02_Bit.l0 : Nat → Int → Int → Option (Int)
  | 0, _, _ => none
  | k + 1, x5, x6 => if x6 < 7 then (turnoutref02_Bit.l0 k (wrap64 (Int.tdiv x5 2)) (wrap64 (x6 + 1))) else (some (IntKind.u64.wrap (Int.tmod x5 2)))
def turnoutref02_Bit.f (k : Nat) (a0 : ByteArray) (a1 : Int) : Option (Int) := if 0 ≤ (wrap64 (Int.tdiv a1 8)) then (if (wrap64 (Int.tdiv a1 8)) < (a0.size : Int) then (turnoutref02_Bit.l0 k (wrap64 (bt a0 (wrap64 (Int.tdiv a1 8)))) (Int.tmod a1 8)) else (none)) else (none)
theorem turnoutref02_Bit.mono_l : ∀ k, (∀ y0 y1, LeO (turnoutref02_Bit.l0 k y0 y1) (turnoutref02_Bit.l0 (k + 1) y0 y1))
  | 0 => fun _ _ r h => by simp [turnoutref02_Bit.l0] at h
  | k + 1 => by
   have ih0 := turnoutref02_Bit.mono_l k
   ·
    intro y0 y1
    unfold turnoutref02_Bit.l0
    repeat' first
    | (with_reducible exact ih0 _ _)
    | (with_reducible exact LeO.refl _)
    | (with_reducible exact LeO.none _)
    | (with_reducible refine LeO.ite ?_ ?_)
    | (with_reducible refine LeO.bind ?_ (fun _ => ?_))
    | exact ih0 _ _
    | exact LeO.none _
    | refine LeO.ite ?_ ?_
    | refine LeO.bind ?_ (fun _ => ?_)
theorem turnoutref02_Bit.mono : ∀ a0 a1 k, LeO (turnoutref02_Bit.f k a0 a1) (turnoutref02_Bit.f (k + 1) a0 a1) := by
  intro a0 a1 k
  have ih0 := turnoutref02_Bit.mono_l k
  unfold turnoutref02_Bit.f
  repeat' first
    | (with_reducible exact ih0 _ _)
    | (with_reducible exact LeO.refl _)
    | (with_reducible exact LeO.none _)
    | (with_reducible refine LeO.ite ?_ ?_)
    | (with_reducible refine LeO.bind ?_ (fun _ => ?_))
    | exact ih0 _ _
    | exact LeO.none _
    | refine LeO.ite ?_ ?_
    | refine LeO.bind ?_ (fun _ => ?_)
set_option maxHeartbeats 8000000 in
set_option maxRecDepth 100000 in
theorem turnoutref02_Bit.calls (k : Nat) (a0 : ByteArray) (a1 : Int) (r : Int) (w : World) (h : turnoutref02_Bit.f k a0 a1 = some r) :
   Calls Try.prog 37 #[.string a0, .int .i64 a1] w fun e w' => e = .returned (.int .u64 r) ∧ Drawn0 w w' := by
  have H : (if 0 ≤ (wrap64 (Int.tdiv a1 8)) then (if (wrap64 (Int.tdiv a1 8)) < (a0.size : Int) then (turnoutref02_Bit.l0 k (wrap64 (bt a0 (wrap64 (Int.tdiv a1 8)))) (Int.tmod a1 8)) else (none)) else (none)) = some r := h
  clear h
  obtain ⟨ji3, hji3⟩ : ∃ j_ : Int, (wrap64 (Int.tdiv a1 8)) = j_ := ⟨_, rfl⟩
  replace H : (if 0 ≤ (ji3) then (if (ji3) < (a0.size : Int) then (turnoutref02_Bit.l0 k (wrap64 (bt a0 (ji3))) (Int.tmod a1 8)) else (none)) else (none)) = some r := by first | (rw [hji3] at H; exact H) | (simp only [hji3] at H ⊢; exact H)
  have hji3w : (IntKind.i64.wrap (Int.tdiv a1 8)) = ji3 := (i64_w _).trans hji3
  by_cases c4 : 0 ≤ (ji3)
  ·
   rw [if_pos c4] at H
   have c4b0 : decide (0 ≤ (ji3)) = true := decide_eq_true c4
   clear c4
   by_cases c5 : (ji3) < (a0.size : Int)
   ·
    rw [if_pos c5] at H
    have c5b0 : decide ((ji3) < (a0.size : Int)) = true := decide_eq_true c5
    clear c5
    have H' := Aside0.mk H
    clear H
    have p6 : 0 ≤ ((ji3) : Int) := of_decide_eq_true (by first | (with_reducible assumption) | assumption)
    have q6 : (ji3) < (a0.size : Int) := of_decide_eq_true (by first | (with_reducible assumption) | assumption)
    have hx6 := bt_at a0 (ji3)
    replace p6 := eq_true p6
    replace q6 := eq_true q6
    go_enter Try.func37, Try.ntmps37
    go_wp2
    go_loopg [5, 6] k (fun kq v5 v6 w' => ∃ (x5_1 : Int) (x6_1 : Int), v5 = .int .i64 x5_1 ∧ v6 = .int .i64 x6_1 ∧ Aside0 (turnoutref02_Bit.l0 kq x5_1 x6_1 = some r) ∧ Aside0 (kq ≤ k) ∧ Drawn0 w w')
    case atStart => exact ⟨(wrap64 (bt a0 (ji3))), (Int.tmod a1 8), (by first | rfl | (simp; done) | (simp only [← hji3] <;> (first | rfl | simp)) | (simp [*]; done)), (by first | rfl | (simp; done) | (simp [*]; done)), H', ⟨Nat.le_refl _⟩, by repeat (first | exact Drawn0.refl _ | apply Drawn0.step)⟩
    case round =>
     clear H'
     try clear p2
     try clear c3
     try clear c4
     try clear c4b0
     try clear c5
     try clear c5b0
     try clear p6
     try clear q6
     try clear hx6
     try clear p6
     try clear q6
     obtain ⟨x5_1, x6_1, rfl, rfl, HA, HK1, ⟨m1, rfl⟩⟩ := hrel
     cases gk with
     | zero => exact absurd HA.out (by simp [turnoutref02_Bit.l0])
     | succ k1 =>
      have H := HA.out
      clear HA
      simp only [turnoutref02_Bit.l0] at H
      by_cases c7 : x6_1 < 7
      ·
       rw [if_pos c7] at H
       have c7b0 : decide (x6_1 < 7) = true := decide_eq_true c7
       clear c7
       have H' := Aside0.mk H
       clear H
       go_wp2
       go_roundg k1
       case measure => have := HK1.out; omega
       case rel => exact ⟨(wrap64 (Int.tdiv x5_1 2)), (wrap64 (x6_1 + 1)), (by first | rfl | (simp; done) | (simp [*]; done)), (by first | rfl | (simp; done) | (simp [*]; done)), H', ⟨by have := HK1.out; omega⟩, by repeat (first | exact Drawn0.refl _ | apply Drawn0.step)⟩
      ·
       rw [if_neg c7] at H
       have c7b0 : decide (x6_1 < 7) = false := decide_eq_false c7
       clear c7
       obtain rfl := Option.some.inj H
       go_wp2
       go_ret
       exact ⟨by first | rfl | (simp; done) | (simp only [← hji3] <;> (first | rfl | simp)) | (simp [*]; done), by repeat (first | exact Drawn0.refl _ | apply Drawn0.step)⟩
   ·
    rw [if_neg c5] at H
    exact absurd H (by simp)
  ·
   rw [if_neg c4] at H
   exact absurd H (by simp)

end Go.Proofs.Ytgpahhobifdapaa.PField
