-- Written by wip/turnprint.py, a program of this session (the kit's print, turned).
import Derived.Test.YtgpahhobifdapaaPFieldx0
import Derived.Test.YtgpahhobifdapaaPFieldx1
import Derived.Test.YtgpahhobifdapaaPFieldx2
import Derived.Test.YtgpahhobifdapaaPFieldx3
import Derived.Test.YtgpahhobifdapaaPFieldx5
import Derived.Test.YtgpahhobifdapaaPFieldx6
namespace Go.Proofs.Ytgpahhobifdapaa.PField
open Go.RowKit Go.Proofs.YtgpahhobifdapaaW.PrintWords Go.Proofs.YtgpahhobifdapaaW.PrintLast Go.Proofs.YtgpahhobifdapaaW.PrintMore
attribute [local go_sem] max2_int min2_int max_two min_two max_three min_three max_four min_four   -- for this text's walks alone
set_option linter.unusedVariables false
set_option linter.unusedSimpArgs false

attribute [local go_sem high] eqA25
attribute [local go_sem high] xorA_u8 xorA_u16 xorA_u32 xorA_u64
/-! ### turnoutlaw02_FieldTwo: function 6 -/
def turnoutlaw02_FieldTwo.j0 : Nat → ByteArray → Int → Int → Int → Bool → Option (Bool)
  | 0, _, _, _, _, _ => none
  | k + 1, x0, x1, x2, x3, x26 => if x26 = true then ((turnoutlaw02_awake.f k).bind fun t229 => (some t229)) else ((field_Get.f k x0 x1 x2).bind fun bt230 => (if bt230.2.2 = 0 then (if (IntKind.u64.wrap (wrap64 (x2 - 1))) = 0 then (none) else ((field_Get.f k x0 x1 (wrap64 (1 + (wrap64 (Int.tmod (IntKind.u64.wrap (x3)) (IntKind.u64.wrap (wrap64 (x2 - 1)))))))).bind fun bt234 => ((field_Get.f k x0 (wrap64 (x1 + (wrap64 (1 + (wrap64 (Int.tmod (IntKind.u64.wrap (x3)) (IntKind.u64.wrap (wrap64 (x2 - 1))))))))) (wrap64 (x2 - (wrap64 (1 + (wrap64 (Int.tmod (IntKind.u64.wrap (x3)) (IntKind.u64.wrap (wrap64 (x2 - 1)))))))))).bind fun bt238 => (if bt234.2.2 = 0 then (if bt238.2.2 = 0 then ((word_Left.f bt234.1 bt234.2.1 (wrap64 (x2 - (wrap64 (1 + (wrap64 (Int.tmod (IntKind.u64.wrap (x3)) (IntKind.u64.wrap (wrap64 (x2 - 1)))))))))).bind fun bt242 => ((word_Or.f bt242.1 bt242.2 bt238.1 bt238.2.1).bind fun bt244 => (some (bt244.1 == bt230.1 && (bt244.2 == bt230.2.1))))) else (some false)) else (some false))))) else (some (bt230.1 == 0 && (bt230.2.1 == 0)))))
def turnoutlaw02_FieldTwo.f (k : Nat) (a0 : ByteArray) (a1 : Int) (a2 : Int) (a3 : Int) : Option (Bool) := if (a0.size : Int) > 3000 then (turnoutlaw02_FieldTwo.j0 k a0 a1 a2 a3 true) else (if a2 < 2 then (turnoutlaw02_FieldTwo.j0 k a0 a1 a2 a3 true) else ((turnoutlaw02_awake.f k).bind fun t228 => (turnoutlaw02_FieldTwo.j0 k a0 a1 a2 a3 (!t228))))
theorem turnoutlaw02_FieldTwo.mono_l : ∀ k, (∀ y0 y1 y2 y3 y4, LeO (turnoutlaw02_FieldTwo.j0 k y0 y1 y2 y3 y4) (turnoutlaw02_FieldTwo.j0 (k + 1) y0 y1 y2 y3 y4))
  | 0 => fun _ _ _ _ _ r h => by simp [turnoutlaw02_FieldTwo.j0] at h
  | k + 1 => by
   have ih0 := turnoutlaw02_FieldTwo.mono_l k
   ·
    intro y0 y1 y2 y3 y4
    unfold turnoutlaw02_FieldTwo.j0
    repeat' first
    | (with_reducible exact ih0 _ _ _ _ _)
    | (with_reducible exact field_Get.mono _ _ _ _)
    | (with_reducible exact turnoutlaw02_awake.mono _)
    | (with_reducible exact LeO.refl _)
    | (with_reducible exact LeO.none _)
    | (with_reducible refine LeO.ite ?_ ?_)
    | (with_reducible refine LeO.bind ?_ (fun _ => ?_))
    | exact ih0 _ _ _ _ _
    | exact field_Get.mono _ _ _ _
    | exact turnoutlaw02_awake.mono _
    | exact LeO.none _
    | refine LeO.ite ?_ ?_
    | refine LeO.bind ?_ (fun _ => ?_)
theorem turnoutlaw02_FieldTwo.mono : ∀ a0 a1 a2 a3 k, LeO (turnoutlaw02_FieldTwo.f k a0 a1 a2 a3) (turnoutlaw02_FieldTwo.f (k + 1) a0 a1 a2 a3) := by
  intro a0 a1 a2 a3 k
  have ih0 := turnoutlaw02_FieldTwo.mono_l k
  unfold turnoutlaw02_FieldTwo.f
  repeat' first
    | (with_reducible exact ih0 _ _ _ _ _)
    | (with_reducible exact field_Get.mono _ _ _ _)
    | (with_reducible exact turnoutlaw02_awake.mono _)
    | (with_reducible exact LeO.refl _)
    | (with_reducible exact LeO.none _)
    | (with_reducible refine LeO.ite ?_ ?_)
    | (with_reducible refine LeO.bind ?_ (fun _ => ?_))
    | exact ih0 _ _ _ _ _
    | exact field_Get.mono _ _ _ _
    | exact turnoutlaw02_awake.mono _
    | exact LeO.none _
    | refine LeO.ite ?_ ?_
    | refine LeO.bind ?_ (fun _ => ?_)
def turnoutlaw02_FieldTwo.T9 : Bool × List (List Nat × List Nat) := (true, [([], []), ([0], [0]), ([1], [1]), ([2], [2]), ([3, 2], [2, 3]), ([2, 4], [2, 4]), ([5, 2], [5]), ([6], [6]), ([6], [6]), ([6], [6]), ([8, 9, 6], [6, 8, 9]), ([7, 10, 6, 6], [6, 7, 10]), ([6], [6]), ([11, 12, 11, 6], [6, 11, 12]), ([6], [6]), ([13, 14, 6], [6, 13, 14]), ([6, 15], [6, 15]), ([16, 13, 0, 1, 2, 3, 4, 5, 6, 7, 8, 9, 10, 11, 12, 13, 14, 15, 16], [16])])
def turnoutlaw02_FieldTwo.B9 : List Nat := [0, 1, 3, 7, 15, 31, 63, 127, 127, 127, 895, 2047, 127, 8191, 127, 32767, 65535, 131071]
theorem turnoutlaw02_FieldTwo.tab9 : rtab .any (opsOf Try.f6 9) = turnoutlaw02_FieldTwo.T9 := by kernel_rfl
theorem turnoutlaw02_FieldTwo.bits9 : waitsOk turnoutlaw02_FieldTwo.T9.2 turnoutlaw02_FieldTwo.B9 = true := by kernel_rfl
set_option maxHeartbeats 8000000 in
set_option maxRecDepth 100000 in
theorem turnoutlaw02_FieldTwo.calls (k : Nat) (a0 : ByteArray) (a1 : Int) (a2 : Int) (a3 : Int) (r : Bool) (w : World) (h : turnoutlaw02_FieldTwo.f k a0 a1 a2 a3 = some r) (hr_ : Aside0 (r = true)) (HAW12 : Aside0 (∀ k r, turnoutlaw02_awake.f k = some r → r = true)) :
   Calls Try.prog 6 #[.string a0, .int .i64 a1, .int .i64 a2, .int .i64 a3] w fun e w' => e = .returned (.bool r) ∧ Below w.heap.size w w' := by
  have hu25 := Try.underlying25
  have HB := Aside0.mk (Below.refl w.heap.size w)
  have H : (if (a0.size : Int) > 3000 then (turnoutlaw02_FieldTwo.j0 k a0 a1 a2 a3 true) else (if a2 < 2 then (turnoutlaw02_FieldTwo.j0 k a0 a1 a2 a3 true) else ((turnoutlaw02_awake.f k).bind fun t228 => (turnoutlaw02_FieldTwo.j0 k a0 a1 a2 a3 (!t228))))) = some r := h
  clear h
  have HC5 := Aside0.mk H
  clear H
  go_enter Try.func6, Try.ntmps6
  go_upto_region 1 with (fail)
  go_cut [26] (fun v26 wc => ∃ (kq : Nat) (x26_4 : Bool), v26 = .bool x26_4 ∧ Aside0 (turnoutlaw02_FieldTwo.j0 kq a0 a1 a2 a3 x26_4 = some r) ∧ Aside0 (kq ≤ k) ∧ Aside0 (Below w.heap.size w wc))
  case first =>
   have H := HC5.out
   clear HC5
   by_cases c6 : (a0.size : Int) > 3000
   ·
    rw [if_pos c6] at H
    have c6b0 : decide (3000 < (a0.size : Int)) = true := decide_eq_true c6
    have c6b1 : decide (3000 < a0.size) = true := decide_eq_true (by omega)
    clear c6
    (first | rw [c6b0] | (simp only [i64_w, i32_w]; rw [c6b0]) | skip)
    have H' := Aside0.mk H
    clear H
    go_wp2
    go_meet
    case rel => exact ⟨_, (true), (by first | rfl | (simp; done) | (simp [*]; done)), H', ⟨by first | omega | exact Nat.le_refl _⟩, ⟨by repeat (first | (with_reducible first | exact HB.out | apply below_alloc | apply pw_below_drewN | apply below_drew1) | exact HB.out)⟩⟩
   ·
    rw [if_neg c6] at H
    have c6b0 : decide (3000 < (a0.size : Int)) = false := decide_eq_false c6
    have c6b1 : decide (3000 < a0.size) = false := decide_eq_false (by omega)
    clear c6
    (first | rw [c6b0] | (simp only [i64_w, i32_w]; rw [c6b0]) | skip)
    by_cases c7 : a2 < 2
    ·
     rw [if_pos c7] at H
     have c7b0 : decide (a2 < 2) = true := decide_eq_true c7
     clear c7
     have H' := Aside0.mk H
     clear H
     go_wp2
     go_meet
     case rel => exact ⟨_, (true), (by first | rfl | (simp; done) | (simp [*]; done)), H', ⟨by first | omega | exact Nat.le_refl _⟩, ⟨by repeat (first | (with_reducible first | exact HB.out | apply below_alloc | apply pw_below_drewN | apply below_drew1) | exact HB.out)⟩⟩
    ·
     rw [if_neg c7] at H
     have c7b0 : decide (a2 < 2) = false := decide_eq_false c7
     clear c7
     replace H := Option.bind_eq_some_iff.mp H
     obtain ⟨t228, A80, H⟩ := H
     replace H : (turnoutlaw02_FieldTwo.j0 k a0 a1 a2 a3 (!t228)) = some r := H
     have A8 := Aside0.mk A80
     clear A80
     have H' := Aside0.mk H
     clear H
     go_wp2_with (first | (go_at_call 12; (with_reducible refine (turnoutlaw02_awake.calls k  t228 _ A8.out ⟨HAW12.out _ _ A8.out⟩).mono ?_); rintro e w9 ⟨rfl, hb⟩; replace HB := Aside0.mk (below_step (by repeat (first | (with_reducible first | exact HB.out | apply below_alloc | apply pw_below_drewN | apply below_drew1) | exact HB.out)) hb); (try clear hb); (try clear hb2); (try clear hk); (try clear hi)))
     go_meet
     case rel => exact ⟨_, (!t228), (by first | rfl | (simp; done) | (simp [*]; done)), H', ⟨by first | omega | exact Nat.le_refl _⟩, ⟨by repeat (first | (with_reducible first | exact HB.out | apply below_alloc | apply pw_below_drewN | apply below_drew1) | exact HB.out)⟩⟩
  case rest =>
   clear HC5
   try clear p2
   try clear c6
   try clear c6b0
   try clear c6b1
   try clear c7
   try clear c7b0
   obtain ⟨kq, x26_4, rfl, HA, HJ4, HB⟩ := hcut
   cases kq with
   | zero => exact absurd HA.out (by simp [turnoutlaw02_FieldTwo.j0])
   | succ kj4 =>
    have H := HA.out
    clear HA
    simp only [turnoutlaw02_FieldTwo.j0] at H
    by_cases c10 : x26_4 = true
    ·
     subst c10
     have H1 : ((turnoutlaw02_awake.f kj4).bind fun t229 => (some t229)) = some r := by rw [if_pos rfl] at H; exact H
     clear H; have H := H1; clear H1
     replace H := Option.bind_eq_some_iff.mp H
     obtain ⟨t229, A110, H⟩ := H
     replace H : (some t229) = some r := H
     have A11 := Aside0.mk A110
     clear A110
     obtain rfl := Option.some.inj H
     go_wp2_with (first | ((with_reducible refine gate_callee (f := 12) rfl ?_); refine goesL_ (some 27) rfl rfl Try.func12 (by kernel_rfl) rfl #[] rfl (by (try simp only [List.map_toArray, List.map_cons, List.map_nil]); first | done | rfl | (simp only [List.length_drop, List.length_take]; rfl)) ?_; (with_reducible refine (turnoutlaw02_awake.calls kj4  t229 _ A11.out ⟨HAW12.out _ _ A11.out⟩).mono ?_); rintro e w12 ⟨rfl, hb⟩; refine ⟨_, rfl, ?_⟩; replace HB := Aside0.mk (below_step (by repeat (first | (with_reducible first | exact HB.out | apply below_alloc | apply pw_below_drewN | apply below_drew1) | exact HB.out)) hb); (try clear hb); (try clear hb2); (try clear hk); (try clear hi)))
     go_ret
     exact ⟨by first | rfl | (simp [errW_none, errW_some] <;> rfl) | (simp [*, errW_none, errW_some] <;> rfl), by repeat (first | (with_reducible first | exact HB.out | apply below_alloc | apply pw_below_drewN | apply below_drew1) | exact HB.out)⟩
    ·
     replace c10 := Bool.eq_false_iff.mpr c10
     subst c10
     have H1 : ((field_Get.f kj4 a0 a1 a2).bind fun bt230 => (if bt230.2.2 = 0 then (if (IntKind.u64.wrap (wrap64 (a2 - 1))) = 0 then (none) else ((field_Get.f kj4 a0 a1 (wrap64 (1 + (wrap64 (Int.tmod (IntKind.u64.wrap (a3)) (IntKind.u64.wrap (wrap64 (a2 - 1)))))))).bind fun bt234 => ((field_Get.f kj4 a0 (wrap64 (a1 + (wrap64 (1 + (wrap64 (Int.tmod (IntKind.u64.wrap (a3)) (IntKind.u64.wrap (wrap64 (a2 - 1))))))))) (wrap64 (a2 - (wrap64 (1 + (wrap64 (Int.tmod (IntKind.u64.wrap (a3)) (IntKind.u64.wrap (wrap64 (a2 - 1)))))))))).bind fun bt238 => (if bt234.2.2 = 0 then (if bt238.2.2 = 0 then ((word_Left.f bt234.1 bt234.2.1 (wrap64 (a2 - (wrap64 (1 + (wrap64 (Int.tmod (IntKind.u64.wrap (a3)) (IntKind.u64.wrap (wrap64 (a2 - 1)))))))))).bind fun bt242 => ((word_Or.f bt242.1 bt242.2 bt238.1 bt238.2.1).bind fun bt244 => (some (bt244.1 == bt230.1 && (bt244.2 == bt230.2.1))))) else (some false)) else (some false))))) else (some (bt230.1 == 0 && (bt230.2.1 == 0))))) = some r := by rw [if_neg (show ¬ (false = true) by decide)] at H; exact H
     clear H; have H := H1; clear H1
     replace H := Option.bind_eq_some_iff.mp H
     obtain ⟨⟨t230, t231, t232⟩, A130, H⟩ := H
     replace H : (if t232 = 0 then (if (IntKind.u64.wrap (wrap64 (a2 - 1))) = 0 then (none) else ((field_Get.f kj4 a0 a1 (wrap64 (1 + (wrap64 (Int.tmod (IntKind.u64.wrap (a3)) (IntKind.u64.wrap (wrap64 (a2 - 1)))))))).bind fun bt234 => ((field_Get.f kj4 a0 (wrap64 (a1 + (wrap64 (1 + (wrap64 (Int.tmod (IntKind.u64.wrap (a3)) (IntKind.u64.wrap (wrap64 (a2 - 1))))))))) (wrap64 (a2 - (wrap64 (1 + (wrap64 (Int.tmod (IntKind.u64.wrap (a3)) (IntKind.u64.wrap (wrap64 (a2 - 1)))))))))).bind fun bt238 => (if bt234.2.2 = 0 then (if bt238.2.2 = 0 then ((word_Left.f bt234.1 bt234.2.1 (wrap64 (a2 - (wrap64 (1 + (wrap64 (Int.tmod (IntKind.u64.wrap (a3)) (IntKind.u64.wrap (wrap64 (a2 - 1)))))))))).bind fun bt242 => ((word_Or.f bt242.1 bt242.2 bt238.1 bt238.2.1).bind fun bt244 => (some (bt244.1 == t230 && (bt244.2 == t231))))) else (some false)) else (some false))))) else (some (t230 == 0 && (t231 == 0)))) = some r := H
     have A13 := Aside0.mk A130
     clear A130
     by_cases c14 : t232 = 0
     ·
      rw [if_pos c14] at H
      have c14b0 : (t232 == 0) = true := beq_iff_eq.mpr c14
      have c14b1 : (t232 != 0) = false := bne_eq_false_iff_eq.mpr c14
      clear c14
      by_cases c15 : (IntKind.u64.wrap (wrap64 (a2 - 1))) = 0
      ·
       rw [if_pos c15] at H
       exact absurd H (by simp)
      ·
       rw [if_neg c15] at H
       have c15b0 : ((IntKind.u64.wrap (wrap64 (a2 - 1))) == 0) = false := beq_eq_false_iff_ne.mpr c15
       have c15b1 : ((IntKind.u64.wrap (wrap64 (a2 - 1))) != 0) = true := bne_iff_ne.mpr c15
       replace H := Option.bind_eq_some_iff.mp H
       obtain ⟨⟨t234, t235, t236⟩, A160, H⟩ := H
       replace H : ((field_Get.f kj4 a0 (wrap64 (a1 + (wrap64 (1 + (wrap64 (Int.tmod (IntKind.u64.wrap (a3)) (IntKind.u64.wrap (wrap64 (a2 - 1))))))))) (wrap64 (a2 - (wrap64 (1 + (wrap64 (Int.tmod (IntKind.u64.wrap (a3)) (IntKind.u64.wrap (wrap64 (a2 - 1)))))))))).bind fun bt238 => (if t236 = 0 then (if bt238.2.2 = 0 then ((word_Left.f t234 t235 (wrap64 (a2 - (wrap64 (1 + (wrap64 (Int.tmod (IntKind.u64.wrap (a3)) (IntKind.u64.wrap (wrap64 (a2 - 1)))))))))).bind fun bt242 => ((word_Or.f bt242.1 bt242.2 bt238.1 bt238.2.1).bind fun bt244 => (some (bt244.1 == t230 && (bt244.2 == t231))))) else (some false)) else (some false))) = some r := H
       have A16 := Aside0.mk A160
       clear A160
       replace H := Option.bind_eq_some_iff.mp H
       obtain ⟨⟨t238, t239, t240⟩, A170, H⟩ := H
       replace H : (if t236 = 0 then (if t240 = 0 then ((word_Left.f t234 t235 (wrap64 (a2 - (wrap64 (1 + (wrap64 (Int.tmod (IntKind.u64.wrap (a3)) (IntKind.u64.wrap (wrap64 (a2 - 1)))))))))).bind fun bt242 => ((word_Or.f bt242.1 bt242.2 t238 t239).bind fun bt244 => (some (bt244.1 == t230 && (bt244.2 == t231))))) else (some false)) else (some false)) = some r := H
       have A17 := Aside0.mk A170
       clear A170
       by_cases c18 : t236 = 0
       ·
        rw [if_pos c18] at H
        have c18b0 : (t236 == 0) = true := beq_iff_eq.mpr c18
        have c18b1 : (t236 != 0) = false := bne_eq_false_iff_eq.mpr c18
        clear c18
        by_cases c19 : t240 = 0
        ·
         rw [if_pos c19] at H
         have c19b0 : (t240 == 0) = true := beq_iff_eq.mpr c19
         have c19b1 : (t240 != 0) = false := bne_eq_false_iff_eq.mpr c19
         clear c19
         replace H := Option.bind_eq_some_iff.mp H
         obtain ⟨⟨t242, t243⟩, A200, H⟩ := H
         replace H : ((word_Or.f t242 t243 t238 t239).bind fun bt244 => (some (bt244.1 == t230 && (bt244.2 == t231)))) = some r := H
         have A20 := Aside0.mk A200
         clear A200
         replace H := Option.bind_eq_some_iff.mp H
         obtain ⟨⟨t244, t245⟩, A210, H⟩ := H
         replace H : (some (t244 == t230 && (t245 == t231))) = some r := H
         have A21 := Aside0.mk A210
         clear A210
         obtain rfl := Option.some.inj H
         try go_wp2_with (first | ((with_reducible refine gate_callee (f := 13) rfl ?_); refine goesL_ (some 32) rfl rfl Try.func13 (by kernel_rfl) rfl #[.string a0, .int .i64 a1, .int .i64 a2] rfl (by (try simp only [List.map_toArray, List.map_cons, List.map_nil]); first | done | rfl | (simp only [List.length_drop, List.length_take]; rfl)) ?_; (with_reducible refine (field_Get.calls kj4 a0 a1 a2 t230 t231 t232 _ A13.out).mono ?_); rintro e w22 ⟨rfl, hb⟩; refine ⟨_, rfl, ?_⟩; replace HB := Aside0.mk (below_step (by repeat (first | (with_reducible first | exact HB.out | apply below_alloc | apply pw_below_drewN | apply below_drew1) | exact HB.out)) hb); (try clear hb); (try clear hb2); (try clear hk); (try clear hi)) | ((with_reducible refine gate_dst (N := 9) rfl ?_); refine box_event ?hg (N := 9) ?hd (cs := #[.int .u64 0, .int .u64 0]) (t := 25) ?hr ?_; (case hd => rfl); (case hg => rfl); (case hr => first | (go_simp; done) | (go_simp; rfl)); intro gb233 hg w23 hbox hb; have BK233 := Aside0.mk (hbox); have GW233 := Aside0.mk ((by rw [hg]; exact (below_size (by repeat (first | (with_reducible first | exact HB.out | apply below_alloc | apply pw_below_drewN | apply below_drew1) | exact HB.out))) : w.heap.size ≤ gb233)); have GE233 := Aside0.mk ((by rw [hg]; exact (below_size (by repeat (first | (with_reducible first | exact HB.out | apply below_alloc | apply pw_below_drewN | apply below_drew1) | exact HB.out))) : w.heap.size ≤ gb233)); replace HB := Aside0.mk (below_step (by repeat (first | (with_reducible first | exact HB.out | apply below_alloc | apply pw_below_drewN | apply below_drew1) | exact HB.out)) hb); clear hb hbox hg; have hcz24_0 : w23.cell? ⟨gb233, 0, none⟩ = some (.int .u64 0) := (blk_cell BK233.out 0).trans rfl; have hcz24_1 : w23.cell? ⟨gb233, 1, none⟩ = some (.int .u64 0) := (blk_cell BK233.out 1).trans rfl; have hfz24_0 := blk_frozen BK233.out 0; have hfz24_1 := blk_frozen BK233.out 1) | ((with_reducible refine gate_callee (f := 13) rfl ?_); refine goesL_ (some 52) rfl rfl Try.func13 (by kernel_rfl) rfl #[.string a0, .int .i64 a1, .int .i64 (wrap64 (1 + (wrap64 (Int.tmod (IntKind.u64.wrap (a3)) (IntKind.u64.wrap (wrap64 (a2 - 1)))))))] rfl (by (try simp only [List.map_toArray, List.map_cons, List.map_nil]); first | done | rfl | (simp only [List.length_drop, List.length_take]; rfl)) ?_; (with_reducible refine (field_Get.calls kj4 a0 a1 (wrap64 (1 + (wrap64 (Int.tmod (IntKind.u64.wrap (a3)) (IntKind.u64.wrap (wrap64 (a2 - 1))))))) t234 t235 t236 _ A16.out).mono ?_); rintro e w25 ⟨rfl, hb⟩; refine ⟨_, rfl, ?_⟩; replace BK233 := Aside0.mk (blk_below (g := gb233) (o := .cells #[.int .u64 t230, .int .u64 t231] 25 (0, 0)) (by (with_reducible repeat (first | refine blk_drewN ?_ _ | refine blk_drew ?_ | refine blk_alloc ?_ _)); refine blk_put (cs := #[.int .u64 t230, .int .u64 0]) ?_ 1 _ rfl; (with_reducible repeat (first | refine blk_drewN ?_ _ | refine blk_drew ?_ | refine blk_alloc ?_ _)); refine blk_put (cs := #[.int .u64 0, .int .u64 0]) ?_ 0 _ rfl; (with_reducible repeat (first | refine blk_drewN ?_ _ | refine blk_drew ?_ | refine blk_alloc ?_ _)); exact BK233.out) hb); replace HB := Aside0.mk (below_step (by repeat (first | (with_reducible first | exact HB.out | apply below_alloc | apply pw_below_drewN | apply below_drew1 | refine below_set ?_ GE233.out) | exact HB.out)) hb); (try clear hb); (try clear hb2); (try clear hk); (try clear hi)) | ((with_reducible refine gate_dst (N := 12) rfl ?_); refine box_event ?hg (N := 12) ?hd (cs := #[.int .u64 0, .int .u64 0]) (t := 25) ?hr ?_; (case hd => rfl); (case hg => rfl); (case hr => first | (go_simp; done) | (go_simp; rfl)); intro gb237 hg w26 hbox hb; have BK237 := Aside0.mk (hbox); have GW237 := Aside0.mk ((by rw [hg]; exact (below_size (by repeat (first | (with_reducible first | exact HB.out | apply below_alloc | apply pw_below_drewN | apply below_drew1 | refine below_set ?_ GE233.out) | exact HB.out))) : w.heap.size ≤ gb237)); have GE237 := Aside0.mk ((by rw [hg]; exact (below_size (by repeat (first | (with_reducible first | exact HB.out | apply below_alloc | apply pw_below_drewN | apply below_drew1 | refine below_set ?_ GE233.out) | exact HB.out))) : w.heap.size ≤ gb237)); replace HB := Aside0.mk (below_step (by repeat (first | (with_reducible first | exact HB.out | apply below_alloc | apply pw_below_drewN | apply below_drew1 | refine below_set ?_ GE233.out) | exact HB.out)) hb); have NB233_237 := Aside0.mk ((by rw [hg]; exact Nat.ne_of_lt (blk_lt (bkA BK233.out)) : gb233 ≠ gb237)); have NB237_233 := Aside0.mk ((by rw [hg]; exact Nat.ne_of_gt (blk_lt (bkA BK233.out)) : gb237 ≠ gb233)); replace BK233 := Aside0.mk (blk_below (bkA BK233.out) hb); clear hb hbox hg; have hnb27 := NB237_233.out; have hnc27 := NB233_237.out; have hcz28_0 : w26.cell? ⟨gb237, 0, none⟩ = some (.int .u64 0) := (blk_cell BK237.out 0).trans rfl; have hcz28_1 : w26.cell? ⟨gb237, 1, none⟩ = some (.int .u64 0) := (blk_cell BK237.out 1).trans rfl; have hfz28_0 := blk_frozen BK237.out 0; have hfz28_1 := blk_frozen BK237.out 1) | ((with_reducible refine gate_callee (f := 13) rfl ?_); refine goesL_ (some 63) rfl rfl Try.func13 (by kernel_rfl) rfl #[.string a0, .int .i64 (wrap64 (a1 + (wrap64 (1 + (wrap64 (Int.tmod (IntKind.u64.wrap (a3)) (IntKind.u64.wrap (wrap64 (a2 - 1))))))))), .int .i64 (wrap64 (a2 - (wrap64 (1 + (wrap64 (Int.tmod (IntKind.u64.wrap (a3)) (IntKind.u64.wrap (wrap64 (a2 - 1)))))))))] rfl (by (try simp only [List.map_toArray, List.map_cons, List.map_nil]); first | done | rfl | (simp only [List.length_drop, List.length_take]; rfl)) ?_; (with_reducible refine (field_Get.calls kj4 a0 (wrap64 (a1 + (wrap64 (1 + (wrap64 (Int.tmod (IntKind.u64.wrap (a3)) (IntKind.u64.wrap (wrap64 (a2 - 1))))))))) (wrap64 (a2 - (wrap64 (1 + (wrap64 (Int.tmod (IntKind.u64.wrap (a3)) (IntKind.u64.wrap (wrap64 (a2 - 1))))))))) t238 t239 t240 _ A17.out).mono ?_); rintro e w29 ⟨rfl, hb⟩; refine ⟨_, rfl, ?_⟩; replace BK233 := Aside0.mk (blk_below (g := gb233) (o := .cells #[.int .u64 t230, .int .u64 t231] 25 (0, 0)) (by (with_reducible repeat (first | refine blk_drewN ?_ _ | refine blk_drew ?_ | refine blk_alloc ?_ _)); refine blk_far ?_ NB233_237.out _; (with_reducible repeat (first | refine blk_drewN ?_ _ | refine blk_drew ?_ | refine blk_alloc ?_ _)); refine blk_far ?_ NB233_237.out _; (with_reducible repeat (first | refine blk_drewN ?_ _ | refine blk_drew ?_ | refine blk_alloc ?_ _)); exact BK233.out) hb); replace BK237 := Aside0.mk (blk_below (g := gb237) (o := .cells #[.int .u64 t234, .int .u64 t235] 25 (0, 0)) (by (with_reducible repeat (first | refine blk_drewN ?_ _ | refine blk_drew ?_ | refine blk_alloc ?_ _)); refine blk_put (cs := #[.int .u64 t234, .int .u64 0]) ?_ 1 _ rfl; (with_reducible repeat (first | refine blk_drewN ?_ _ | refine blk_drew ?_ | refine blk_alloc ?_ _)); refine blk_put (cs := #[.int .u64 0, .int .u64 0]) ?_ 0 _ rfl; (with_reducible repeat (first | refine blk_drewN ?_ _ | refine blk_drew ?_ | refine blk_alloc ?_ _)); exact BK237.out) hb); replace HB := Aside0.mk (below_step (by repeat (first | (with_reducible first | exact HB.out | apply below_alloc | apply pw_below_drewN | apply below_drew1 | refine below_set ?_ GE233.out | refine below_set ?_ GE237.out) | exact HB.out)) hb); (try clear hb); (try clear hb2); (try clear hk); (try clear hi)) | ((with_reducible refine gate_dst (N := 14) rfl ?_); refine box_event ?hg (N := 14) ?hd (cs := #[.int .u64 0, .int .u64 0]) (t := 25) ?hr ?_; (case hd => rfl); (case hg => rfl); (case hr => first | (go_simp; done) | (go_simp; rfl)); intro gb241 hg w30 hbox hb; have BK241 := Aside0.mk (hbox); have GW241 := Aside0.mk ((by rw [hg]; exact (below_size (by repeat (first | (with_reducible first | exact HB.out | apply below_alloc | apply pw_below_drewN | apply below_drew1 | refine below_set ?_ GE233.out | refine below_set ?_ GE237.out) | exact HB.out))) : w.heap.size ≤ gb241)); have GE241 := Aside0.mk ((by rw [hg]; exact (below_size (by repeat (first | (with_reducible first | exact HB.out | apply below_alloc | apply pw_below_drewN | apply below_drew1 | refine below_set ?_ GE233.out | refine below_set ?_ GE237.out) | exact HB.out))) : w.heap.size ≤ gb241)); replace HB := Aside0.mk (below_step (by repeat (first | (with_reducible first | exact HB.out | apply below_alloc | apply pw_below_drewN | apply below_drew1 | refine below_set ?_ GE233.out | refine below_set ?_ GE237.out) | exact HB.out)) hb); have NB233_241 := Aside0.mk ((by rw [hg]; exact Nat.ne_of_lt (blk_lt (bkA BK233.out)) : gb233 ≠ gb241)); have NB241_233 := Aside0.mk ((by rw [hg]; exact Nat.ne_of_gt (blk_lt (bkA BK233.out)) : gb241 ≠ gb233)); replace BK233 := Aside0.mk (blk_below (bkA BK233.out) hb); have NB237_241 := Aside0.mk ((by rw [hg]; exact Nat.ne_of_lt (blk_lt (bkA BK237.out)) : gb237 ≠ gb241)); have NB241_237 := Aside0.mk ((by rw [hg]; exact Nat.ne_of_gt (blk_lt (bkA BK237.out)) : gb241 ≠ gb237)); replace BK237 := Aside0.mk (blk_below (bkA BK237.out) hb); clear hb hbox hg; have hnb31 := NB241_233.out; have hnc31 := NB233_241.out; have hnb32 := NB241_237.out; have hnc32 := NB237_241.out; have hcz33_0 : w30.cell? ⟨gb241, 0, none⟩ = some (.int .u64 0) := (blk_cell BK241.out 0).trans rfl; have hcz33_1 : w30.cell? ⟨gb241, 1, none⟩ = some (.int .u64 0) := (blk_cell BK241.out 1).trans rfl; have hfz33_0 := blk_frozen BK241.out 0; have hfz33_1 := blk_frozen BK241.out 1))
         have n0_ : Aside0 (((w30.setCell ⟨gb241, 0, none⟩ (.int .u64 t238)).setCell ⟨gb241, 1, none⟩ (.int .u64 t239)).heap[gb233]? = some (.cells #[.int .u64 t230, .int .u64 t231] 25 (0, 0))) := ⟨by (with_reducible repeat (first | refine blk_drewN ?_ _ | refine blk_drew ?_ | refine blk_alloc ?_ _)); refine blk_far ?_ NB233_241.out _; (with_reducible repeat (first | refine blk_drewN ?_ _ | refine blk_drew ?_ | refine blk_alloc ?_ _)); refine blk_far ?_ NB233_241.out _; (with_reducible repeat (first | refine blk_drewN ?_ _ | refine blk_drew ?_ | refine blk_alloc ?_ _)); exact BK233.out⟩
         have n1_ : Aside0 (((w30.setCell ⟨gb241, 0, none⟩ (.int .u64 t238)).setCell ⟨gb241, 1, none⟩ (.int .u64 t239)).heap[gb237]? = some (.cells #[.int .u64 t234, .int .u64 t235] 25 (0, 0))) := ⟨by (with_reducible repeat (first | refine blk_drewN ?_ _ | refine blk_drew ?_ | refine blk_alloc ?_ _)); refine blk_far ?_ NB237_241.out _; (with_reducible repeat (first | refine blk_drewN ?_ _ | refine blk_drew ?_ | refine blk_alloc ?_ _)); refine blk_far ?_ NB237_241.out _; (with_reducible repeat (first | refine blk_drewN ?_ _ | refine blk_drew ?_ | refine blk_alloc ?_ _)); exact BK237.out⟩
         have n2_ : Aside0 (((w30.setCell ⟨gb241, 0, none⟩ (.int .u64 t238)).setCell ⟨gb241, 1, none⟩ (.int .u64 t239)).heap[gb241]? = some (.cells #[.int .u64 t238, .int .u64 t239] 25 (0, 0))) := ⟨by (with_reducible repeat (first | refine blk_drewN ?_ _ | refine blk_drew ?_ | refine blk_alloc ?_ _)); refine blk_put (cs := #[.int .u64 t238, .int .u64 0]) ?_ 1 _ rfl; (with_reducible repeat (first | refine blk_drewN ?_ _ | refine blk_drew ?_ | refine blk_alloc ?_ _)); refine blk_put (cs := #[.int .u64 0, .int .u64 0]) ?_ 0 _ rfl; (with_reducible repeat (first | refine blk_drewN ?_ _ | refine blk_drew ?_ | refine blk_alloc ?_ _)); exact BK241.out⟩
         have n3_ : Aside0 (Below w.heap.size w ((w30.setCell ⟨gb241, 0, none⟩ (.int .u64 t238)).setCell ⟨gb241, 1, none⟩ (.int .u64 t239))) := ⟨by repeat (first | (with_reducible first | exact HB.out | apply below_alloc | apply pw_below_drewN | apply below_drew1 | refine below_set ?_ GE233.out | refine below_set ?_ GE237.out | refine below_set ?_ GE241.out) | exact HB.out)⟩
         (try clear BK233); (try clear BK237); (try clear BK241); (try clear HB); generalize ((w30.setCell ⟨gb241, 0, none⟩ (.int .u64 t238)).setCell ⟨gb241, 1, none⟩ (.int .u64 t239)) = w34 at n0_ n1_ n2_ n3_ ⊢; have BK233 := n0_; have BK237 := n1_; have BK241 := n2_; have HB := n3_; clear n0_ n1_ n2_ n3_; replace BK233 := Aside0.mk (blk_drew BK233.out); replace BK237 := Aside0.mk (blk_drew BK237.out); replace BK241 := Aside0.mk (blk_drew BK241.out); replace HB := Aside0.mk (below_drew1 HB.out)
         refine start_ (n := 18) (S := fun w' => w'.cell? ⟨gb237, 0, none⟩ = some (.int .u64 t234) ∧ w'.cell? ⟨gb237, 1, none⟩ = some (.int .u64 t235) ∧ w'.cell? ⟨gb241, 0, none⟩ = some (.int .u64 t238) ∧ w'.cell? ⟨gb241, 1, none⟩ = some (.int .u64 t239) ∧ w'.cell? ⟨gb233, 0, none⟩ = some (.int .u64 t230) ∧ w'.cell? ⟨gb233, 1, none⟩ = some (.int .u64 t231)) (ds := []) #[F,F,F,F,F,F,F,F,F,F,F,F,F,F,F,F,F,F] (by kernel_rfl) rfl rfl ⟨(blk_cell BK237.out 0).trans rfl, (blk_cell BK237.out 1).trans rfl, (blk_cell BK241.out 0).trans rfl, (blk_cell BK241.out 1).trans rfl, (blk_cell BK233.out 0).trans rfl, (blk_cell BK233.out 1).trans rfl⟩ (fun hHeld => ?_); refine with_tabW turnoutlaw02_FieldTwo.tab9 turnoutlaw02_FieldTwo.bits9 (fun HT_ HW_ => ?_)
         generalize w34.drew = w35 at BK233 BK237 BK241 HB hHeld ⊢
         refine pure_ (i := 0) (N := some 66) (v := ?_) (a' := ?_) #[T,F,F,F,F,F,F,F,F,F,F,F,F,F,F,F,F,F] rfl rfl (any_of HT_.out (by kernel_rfl)) (fun _ _ _ h => h) (Or.inl ⟨by rfl, ?_⟩) ?_ ?_
         rotate_left
         ·
          intro w'
          go_simp
          with_reducible rfl
         rotate_left
         ·
          simp only [Act.put, List.setIfInBounds_toArray, List.set_cons_zero, List.set_cons_succ, i64_w, i32_w]
          rfl
         refine pure_ (i := 1) (N := some 67) (v := ?_) (a' := ?_) #[T,T,F,F,F,F,F,F,F,F,F,F,F,F,F,F,F,F] rfl rfl (any_of HT_.out (by kernel_rfl)) (fun _ _ _ h => h) (Or.inl ⟨by rfl, ?_⟩) ?_ ?_
         rotate_left
         ·
          intro w'
          go_simp
          with_reducible rfl
         rotate_left
         ·
          simp only [Act.put, List.setIfInBounds_toArray, List.set_cons_zero, List.set_cons_succ, i64_w, i32_w]
          rfl
         refine pure_ (i := 2) (N := some 68) (v := ?_) (a' := ?_) #[T,T,T,F,F,F,F,F,F,F,F,F,F,F,F,F,F,F] rfl rfl (any_of HT_.out (by kernel_rfl)) (fun _ _ _ h => h) (Or.inl ⟨by rfl, ?_⟩) ?_ ?_
         rotate_left
         ·
          intro w'
          go_simp
          with_reducible rfl
         rotate_left
         ·
          simp only [Act.put, List.setIfInBounds_toArray, List.set_cons_zero, List.set_cons_succ, i64_w, i32_w]
          rfl
         refine pure_ (i := 3) (N := some 69) (v := ?_) (a' := ?_) #[T,T,T,T,F,F,F,F,F,F,F,F,F,F,F,F,F,F] rfl rfl (any_of HT_.out (by kernel_rfl)) (fun _ _ _ h => h) (Or.inl ⟨by rfl, ?_⟩) ?_ ?_
         rotate_left
         ·
          intro w'
          go_simp
          with_reducible rfl
         rotate_left
         ·
          simp only [Act.put, List.setIfInBounds_toArray, List.set_cons_zero, List.set_cons_succ, i64_w, i32_w]
          rfl
         refine pure_ (i := 4) (N := some 70) (v := ?_) (a' := ?_) #[T,T,T,T,T,F,F,F,F,F,F,F,F,F,F,F,F,F] rfl rfl (any_of HT_.out (by kernel_rfl)) (fun _ _ _ h => h) (Or.inl ⟨by rfl, ?_⟩) ?_ ?_
         rotate_left
         ·
          intro w'
          go_simp
          with_reducible rfl
         rotate_left
         ·
          simp only [Act.put, List.setIfInBounds_toArray, List.set_cons_zero, List.set_cons_succ, i64_w, i32_w]
          rfl
         refine pure_ (i := 5) (N := some 71) (v := ?_) (a' := ?_) #[T,T,T,T,T,T,F,F,F,F,F,F,F,F,F,F,F,F] rfl rfl (any_of HT_.out (by kernel_rfl)) (fun _ _ _ h => h) (Or.inl ⟨by rfl, ?_⟩) ?_ ?_
         rotate_left
         ·
          intro w'
          go_simp
          with_reducible rfl
         rotate_left
         ·
          simp only [Act.put, List.setIfInBounds_toArray, List.set_cons_zero, List.set_cons_succ, i64_w, i32_w]
          rfl
         refine pure_ (i := 6) (N := some 72) (v := ?_) (a' := ?_) #[T,T,T,T,T,T,T,F,F,F,F,F,F,F,F,F,F,F] rfl rfl (any_of HT_.out (by kernel_rfl)) (fun _ _ _ h => h) (Or.inl ⟨by rfl, ?_⟩) ?_ ?_
         rotate_left
         ·
          intro w'
          go_simp
          with_reducible rfl
         rotate_left
         ·
          simp only [Act.put, List.setIfInBounds_toArray, List.set_cons_zero, List.set_cons_succ, i64_w, i32_w]
          rfl
         refine pure_ (i := 8) (N := some 74) (v := ?_) (a' := ?_) #[T,T,T,T,T,T,T,F,T,F,F,F,F,F,F,F,F,F] rfl rfl (any_of HT_.out (by kernel_rfl)) (fun _ _ _ h => h) (Or.inl ⟨by rfl, ?_⟩) ?_ ?_
         rotate_left
         ·
          intro w'
          go_simp
          with_reducible rfl
         rotate_left
         ·
          simp only [Act.put, List.setIfInBounds_toArray, List.set_cons_zero, List.set_cons_succ, i64_w, i32_w]
          rfl
         refine pure_ (i := 9) (N := some 75) (v := ?_) (a' := ?_) #[T,T,T,T,T,T,T,F,T,T,F,F,F,F,F,F,F,F] rfl rfl (any_of HT_.out (by kernel_rfl)) (fun _ _ _ h => h) (Or.inl ⟨by rfl, ?_⟩) ?_ ?_
         rotate_left
         ·
          intro w'
          go_simp
          with_reducible rfl
         rotate_left
         ·
          simp only [Act.put, List.setIfInBounds_toArray, List.set_cons_zero, List.set_cons_succ, i64_w, i32_w]
          rfl
         refine pure_ (i := 10) (N := some 76) (v := ?_) (a' := ?_) #[T,T,T,T,T,T,T,F,T,T,T,F,F,F,F,F,F,F] rfl rfl (any_of HT_.out (by kernel_rfl)) (fun _ _ _ h => h) (Or.inl ⟨by rfl, ?_⟩) ?_ ?_
         rotate_left
         ·
          intro w'
          go_simp
          with_reducible rfl
         rotate_left
         ·
          simp only [Act.put, List.setIfInBounds_toArray, List.set_cons_zero, List.set_cons_succ, i64_w, i32_w]
          rfl
         refine take_ (i := 7) (N := some 73) (v := ?_) (a' := ?_) #[T,T,T,T,T,T,T,T,T,T,T,F,F,F,F,F,F,F] rfl rfl (take_ofW HT_.out HW_.out (by kernel_rfl)) (fun _ _ _ h => h) (Or.inl ⟨by rfl, ?_⟩) hHeld ?_ ?_
         rotate_left
         ·
          rintro w' ⟨s0, s1, s2, s3, s4, s5⟩
          go_simp
          with_reducible rfl
         rotate_left
         ·
          simp only [Act.put, List.setIfInBounds_toArray, List.set_cons_zero, List.set_cons_succ, i64_w, i32_w]
          rfl
         refine take_ (i := 12) (N := some 78) (v := ?_) (a' := ?_) #[T,T,T,T,T,T,T,T,T,T,T,F,T,F,F,F,F,F] rfl rfl (take_ofW HT_.out HW_.out (by kernel_rfl)) (fun _ _ _ h => h) (Or.inl ⟨by rfl, ?_⟩) hHeld ?_ ?_
         rotate_left
         ·
          rintro w' ⟨s0, s1, s2, s3, s4, s5⟩
          go_simp
          with_reducible rfl
         rotate_left
         ·
          simp only [Act.put, List.setIfInBounds_toArray, List.set_cons_zero, List.set_cons_succ, i64_w, i32_w]
          rfl
         refine take_ (i := 14) (N := some 80) (v := ?_) (a' := ?_) #[T,T,T,T,T,T,T,T,T,T,T,F,T,F,T,F,F,F] rfl rfl (take_ofW HT_.out HW_.out (by kernel_rfl)) (fun _ _ _ h => h) (Or.inl ⟨by rfl, ?_⟩) hHeld ?_ ?_
         rotate_left
         ·
          rintro w' ⟨s0, s1, s2, s3, s4, s5⟩
          go_simp
          with_reducible rfl
         rotate_left
         ·
          simp only [Act.put, List.setIfInBounds_toArray, List.set_cons_zero, List.set_cons_succ, i64_w, i32_w]
          rfl
         refine one_ (i := 11) (N := some 77) #[T,T,T,T,T,T,T,T,T,T,T,T,T,F,T,F,F,F] rfl rfl (one_of HT_.out (by kernel_rfl)) (by decide) (fun K hK => ?_)
         refine goes_ Try.func19 (by kernel_rfl) rfl #[.agg #[.int .u64 t234, .int .u64 t235], .int .i64 (wrap64 (a2 - (wrap64 (1 + (wrap64 (Int.tmod (IntKind.u64.wrap (a3)) (IntKind.u64.wrap (wrap64 (a2 - 1)))))))))] (by rfl) rfl rfl (by (try simp only [List.map_toArray, List.map_cons, List.map_nil]); first | done | rfl | (simp only [List.length_drop, List.length_take]; rfl)) ?_
         with_reducible refine (word_Left.calls t234 t235 (wrap64 (a2 - (wrap64 (1 + (wrap64 (Int.tmod (IntKind.u64.wrap (a3)) (IntKind.u64.wrap (wrap64 (a2 - 1))))))))) t242 t243 _ A20.out).mono ?_
         rintro e w36 ⟨rfl, hb⟩
         refine ⟨_, rfl, ?_⟩
         have n0_ := Aside0.mk (blk_below (bkA BK233.out) hb); have n1_ := Aside0.mk (blk_below (bkA BK237.out) hb); have n2_ := Aside0.mk (blk_below (bkA BK241.out) hb)
         have n3_ := Aside0.mk (below_step (by repeat (first | (with_reducible first | exact HB.out | apply below_alloc | apply pw_below_drewN | apply below_drew1 | refine below_set ?_ GE233.out | refine below_set ?_ GE237.out | refine below_set ?_ GE241.out) | exact HB.out)) hb)
         clear BK233; clear BK237; clear BK241; clear HB; have BK233 := n0_; have BK237 := n1_; have BK241 := n2_; have HB := n3_; clear n0_ n1_ n2_ n3_; (try clear hb); (try clear hb2); (try clear hk); (try clear hi)
         refine hK.out _ _ ⟨(blk_cell BK237.out 0).trans rfl, (blk_cell BK237.out 1).trans rfl, (blk_cell BK241.out 0).trans rfl, (blk_cell BK241.out 1).trans rfl, (blk_cell BK233.out 0).trans rfl, (blk_cell BK233.out 1).trans rfl⟩ (fun hHeld => ?_)
         clear hK K
         refine norm_ (a' := ?_) ?_ ?_
         rotate_left
         ·
          show Act.put _ (some 77) _ = _
          simp only [Act.put, List.setIfInBounds_toArray, List.set_cons_zero, List.set_cons_succ, i64_w, i32_w]
          rfl
         refine one_ (i := 13) (N := some 79) #[T,T,T,T,T,T,T,T,T,T,T,T,T,T,T,F,F,F] rfl rfl (one_of HT_.out (by kernel_rfl)) (by decide) (fun K hK => ?_)
         refine goes_ Try.func18 (by kernel_rfl) rfl #[.agg #[.int .u64 t242, .int .u64 t243], .agg #[.int .u64 t238, .int .u64 t239]] (by rfl) rfl rfl (by (try simp only [List.map_toArray, List.map_cons, List.map_nil]); first | done | rfl | (simp only [List.length_drop, List.length_take]; rfl)) ?_
         with_reducible refine (word_Or.calls t242 t243 t238 t239 t244 t245 _ A21.out).mono ?_
         rintro e w37 ⟨rfl, hb⟩
         refine ⟨_, rfl, ?_⟩
         have n0_ := Aside0.mk (blk_below (bkA BK233.out) hb); have n1_ := Aside0.mk (blk_below (bkA BK237.out) hb); have n2_ := Aside0.mk (blk_below (bkA BK241.out) hb)
         have n3_ := Aside0.mk (below_step (by repeat (first | (with_reducible first | exact HB.out | apply below_alloc | apply pw_below_drewN | apply below_drew1 | refine below_set ?_ GE233.out | refine below_set ?_ GE237.out | refine below_set ?_ GE241.out) | exact HB.out)) hb)
         clear BK233; clear BK237; clear BK241; clear HB; have BK233 := n0_; have BK237 := n1_; have BK241 := n2_; have HB := n3_; clear n0_ n1_ n2_ n3_; (try clear hb); (try clear hb2); (try clear hk); (try clear hi)
         refine hK.out _ _ ⟨(blk_cell BK237.out 0).trans rfl, (blk_cell BK237.out 1).trans rfl, (blk_cell BK241.out 0).trans rfl, (blk_cell BK241.out 1).trans rfl, (blk_cell BK233.out 0).trans rfl, (blk_cell BK233.out 1).trans rfl⟩ (fun hHeld => ?_)
         clear hK K
         refine norm_ (a' := ?_) ?_ ?_
         rotate_left
         ·
          show Act.put _ (some 79) _ = _
          simp only [Act.put, List.setIfInBounds_toArray, List.set_cons_zero, List.set_cons_succ, i64_w, i32_w]
          rfl
         refine pure_ (i := 15) (N := some 81) (v := ?_) (a' := ?_) #[T,T,T,T,T,T,T,T,T,T,T,T,T,T,T,T,F,F] rfl rfl (any_of HT_.out (by kernel_rfl)) (fun _ _ _ h => h) (Or.inl ⟨by rfl, ?_⟩) ?_ ?_
         rotate_left
         ·
          intro w'
          go_simp
          with_reducible rfl
         rotate_left
         ·
          simp only [Act.put, List.setIfInBounds_toArray, List.set_cons_zero, List.set_cons_succ, i64_w, i32_w]
          rfl
         refine pure_ (i := 16) (N := some 82) (v := ?_) (a' := ?_) #[T,T,T,T,T,T,T,T,T,T,T,T,T,T,T,T,T,F] rfl rfl (any_of HT_.out (by kernel_rfl)) (fun _ _ _ h => h) (Or.inl ⟨by rfl, ?_⟩) ?_ ?_
         rotate_left
         ·
          intro w'
          go_simp
          with_reducible rfl
         rotate_left
         ·
          simp only [Act.put, List.setIfInBounds_toArray, List.set_cons_zero, List.set_cons_succ, i64_w, i32_w]
          rfl
         refine pure_ (i := 17) (N := some 8) (v := ?_) (a' := ?_) #[T,T,T,T,T,T,T,T,T,T,T,T,T,T,T,T,T,T] rfl rfl (any_of HT_.out (by kernel_rfl)) (fun _ _ _ h => h) (Or.inl ⟨by rfl, ?_⟩) ?_ ?_
         rotate_left
         ·
          intro w'
          go_simp
          with_reducible rfl
         rotate_left
         ·
          simp only [Act.put, List.setIfInBounds_toArray, List.set_cons_zero, List.set_cons_succ, i64_w, i32_w]
          rfl
         refine done_ (done_of HT_.out (by kernel_rfl)) ?_
         try go_wp2
         go_ret
         exact ⟨by first | rfl | (simp [errW_none, errW_some] <;> rfl) | (simp [*, errW_none, errW_some] <;> rfl), by repeat (first | (with_reducible first | exact HB.out | apply below_alloc | apply pw_below_drewN | apply below_drew1 | refine below_set ?_ GE233.out | refine below_set ?_ GE237.out | refine below_set ?_ GE241.out) | exact HB.out)⟩
        ·
         rw [if_neg c19] at H
         have c19b0 : (t240 == 0) = false := beq_eq_false_iff_ne.mpr c19
         have c19b1 : (t240 != 0) = true := bne_iff_ne.mpr c19
         exact absurd ((Option.some.inj H).trans hr_.out) (by decide)
       ·
        rw [if_neg c18] at H
        have c18b0 : (t236 == 0) = false := beq_eq_false_iff_ne.mpr c18
        have c18b1 : (t236 != 0) = true := bne_iff_ne.mpr c18
        exact absurd ((Option.some.inj H).trans hr_.out) (by decide)
     ·
      rw [if_neg c14] at H
      have c14b0 : (t232 == 0) = false := beq_eq_false_iff_ne.mpr c14
      have c14b1 : (t232 != 0) = true := bne_iff_ne.mpr c14
      obtain rfl := Option.some.inj H
      go_wp2_with (first | ((with_reducible refine gate_callee (f := 13) rfl ?_); refine goesL_ (some 32) rfl rfl Try.func13 (by kernel_rfl) rfl #[.string a0, .int .i64 a1, .int .i64 a2] rfl (by (try simp only [List.map_toArray, List.map_cons, List.map_nil]); first | done | rfl | (simp only [List.length_drop, List.length_take]; rfl)) ?_; (with_reducible refine (field_Get.calls kj4 a0 a1 a2 t230 t231 t232 _ A13.out).mono ?_); rintro e w38 ⟨rfl, hb⟩; refine ⟨_, rfl, ?_⟩; replace HB := Aside0.mk (below_step (by repeat (first | (with_reducible first | exact HB.out | apply below_alloc | apply pw_below_drewN | apply below_drew1) | exact HB.out)) hb); (try clear hb); (try clear hb2); (try clear hk); (try clear hi)) | ((with_reducible refine gate_dst (N := 9) rfl ?_); refine box_event ?hg (N := 9) ?hd (cs := #[.int .u64 0, .int .u64 0]) (t := 25) ?hr ?_; (case hd => rfl); (case hg => rfl); (case hr => first | (go_simp; done) | (go_simp; rfl)); intro gb233 hg w39 hbox hb; have BK233 := Aside0.mk (hbox); have GW233 := Aside0.mk ((by rw [hg]; exact (below_size (by repeat (first | (with_reducible first | exact HB.out | apply below_alloc | apply pw_below_drewN | apply below_drew1) | exact HB.out))) : w.heap.size ≤ gb233)); have GE233 := Aside0.mk ((by rw [hg]; exact (below_size (by repeat (first | (with_reducible first | exact HB.out | apply below_alloc | apply pw_below_drewN | apply below_drew1) | exact HB.out))) : w.heap.size ≤ gb233)); replace HB := Aside0.mk (below_step (by repeat (first | (with_reducible first | exact HB.out | apply below_alloc | apply pw_below_drewN | apply below_drew1) | exact HB.out)) hb); clear hb hbox hg; have hcz40_0 : w39.cell? ⟨gb233, 0, none⟩ = some (.int .u64 0) := (blk_cell BK233.out 0).trans rfl; have hcz40_1 : w39.cell? ⟨gb233, 1, none⟩ = some (.int .u64 0) := (blk_cell BK233.out 1).trans rfl; have hfz40_0 := blk_frozen BK233.out 0; have hfz40_1 := blk_frozen BK233.out 1))
      go_ret
      exact ⟨by first | rfl | (simp [errW_none, errW_some] <;> rfl) | (simp [*, errW_none, errW_some] <;> rfl), by repeat (first | (with_reducible first | exact HB.out | apply below_alloc | apply pw_below_drewN | apply below_drew1 | refine below_set ?_ GE233.out) | exact HB.out)⟩

/-- THE ONE PURE STATEMENT of turnoutlaw02_FieldTwo: yours. -/
def turnoutlaw02_FieldTwo.Pure : Prop := (∀ (a0 : ByteArray) (a1 : Int) (a2 : Int) (a3 : Int), a0.size ≤ 140737488351232 → (Lit.int .i64 a1).wf = true → (Lit.int .i64 a2).wf = true → (Lit.int .i64 a3).wf = true → ∃ k, turnoutlaw02_FieldTwo.f k a0 a1 a2 a3 = some true) ∧ (∀ k r, turnoutlaw02_awake.f k = some r → r = true)
theorem turnoutlaw02_FieldTwo.walk (P : turnoutlaw02_FieldTwo.Pure) (a0 : ByteArray) (a1 : Int) (a2 : Int) (a3 : Int) (w : World) (w0 : a0.size ≤ 140737488351232) (w1 : (Lit.int .i64 a1).wf = true) (w2 : (Lit.int .i64 a2).wf = true) (w3 : (Lit.int .i64 a3).wf = true) :
   Calls Try.prog 6 #[.string a0, .int .i64 a1, .int .i64 a2, .int .i64 a3] w fun e w' => e = .returned (.bool true) ∧ Below w.heap.size w w' := by
  obtain ⟨k, h⟩ := P.1 a0 a1 a2 a3 w0 w1 w2 w3
  refine (turnoutlaw02_FieldTwo.calls k a0 a1 a2 a3 true w h ⟨rfl⟩ ⟨P.2⟩).mono ?_
  rintro e w' ⟨rfl, hd⟩
  exact ⟨rfl, hd⟩

/-! ### turnoutref02_Bytes: function 26 -/
def turnoutref02_Bytes.f (a0 : Int) : Option (Int) := if a0 < 1 then (some 0) else (if a0 > 128 then (some 0) else (some (wrap64 (Int.tdiv (wrap64 (a0 + 7)) 8))))
set_option maxHeartbeats 8000000 in
set_option maxRecDepth 100000 in
theorem turnoutref02_Bytes.calls (a0 : Int) (r : Int) (w : World) (h : turnoutref02_Bytes.f a0 = some r) :
   Calls Try.prog 26 #[.int .i64 a0] w fun e w' => e = .returned (.int .i64 r) ∧ Drawn0 w w' := by
  have H : (if a0 < 1 then (some 0) else (if a0 > 128 then (some 0) else (some (wrap64 (Int.tdiv (wrap64 (a0 + 7)) 8))))) = some r := h
  clear h
  by_cases c2 : a0 < 1
  ·
   rw [if_pos c2] at H
   have c2b0 : decide (a0 < 1) = true := decide_eq_true c2
   clear c2
   obtain rfl := Option.some.inj H
   go_enter Try.func26, Try.ntmps26
   go_wp2
   go_ret
   exact ⟨by first | rfl | (simp; done) | (simp [*]; done), by repeat (first | exact Drawn0.refl _ | apply Drawn0.step)⟩
  ·
   rw [if_neg c2] at H
   have c2b0 : decide (a0 < 1) = false := decide_eq_false c2
   clear c2
   by_cases c3 : a0 > 128
   ·
    rw [if_pos c3] at H
    have c3b0 : decide (128 < a0) = true := decide_eq_true c3
    clear c3
    obtain rfl := Option.some.inj H
    go_enter Try.func26, Try.ntmps26
    go_wp2
    go_ret
    exact ⟨by first | rfl | (simp; done) | (simp [*]; done), by repeat (first | exact Drawn0.refl _ | apply Drawn0.step)⟩
   ·
    rw [if_neg c3] at H
    have c3b0 : decide (128 < a0) = false := decide_eq_false c3
    clear c3
    obtain rfl := Option.some.inj H
    go_enter Try.func26, Try.ntmps26
    go_wp2
    go_ret
    exact ⟨by first | rfl | (simp; done) | (simp [*]; done), by repeat (first | exact Drawn0.refl _ | apply Drawn0.step)⟩

/-! ### turnoutref02_Text: function 22 -/
mutual
def turnoutref02_Text.l0 : Nat → Int → ByteArray → Int → Int → Int → Option (ByteArray × Int)
  | 0, _, _, _, _, _ => none
  | k + 1, x1, x6, x7, x247000, x247001 => if x7 ≥ 0 then (turnoutref02_Text.l1 k x1 x6 x7 0 (wrap64 ((wrap64 (8 * x7)) + 7)) x247000 x247001) else (some (x6, 0))
def turnoutref02_Text.l1 : Nat → Int → ByteArray → Int → Int → Int → Int → Int → Option (ByteArray × Int)
  | 0, _, _, _, _, _, _, _ => none
  | k + 1, x1, x6, x7, x8, x9, x247000, x247001 => if x9 ≥ (wrap64 (8 * x7)) then (if x9 < x1 then ((turnoutref02_Of.f k x247000 x247001 x9).bind fun t249 => (turnoutref02_Text.l1 k x1 x6 x7 (IntKind.u64.wrap ((IntKind.u64.wrap (x8 * 2)) + t249)) (wrap64 (x9 - 1)) x247000 x247001)) else (turnoutref02_Text.l1 k x1 x6 x7 (IntKind.u64.wrap (x8 * 2)) (wrap64 (x9 - 1)) x247000 x247001)) else ((some (([(x8) % 256] : List Int) : List Int)).bind fun y250 => (if x6.size + (strOfNums y250).size ≤ 9223372036854775807 then (turnoutref02_Text.l0 k x1 (x6 ++ (strOfNums y250)) (wrap64 (x7 - 1)) x247000 x247001) else (none)))
end
def turnoutref02_Text.f (k : Nat) (a0_0 : Int) (a0_1 : Int) (a1 : Int) : Option (ByteArray × Int) := (turnoutref02_Bytes.f a1).bind fun t247 => (if t247 = 0 then (some ((⟨#[]⟩ : ByteArray), 1)) else ((turnoutref02_Bytes.f a1).bind fun t248 => (turnoutref02_Text.l0 k a1 (⟨#[]⟩ : ByteArray) (wrap64 (t248 - 1)) a0_0 a0_1)))
theorem turnoutref02_Text.mono_l : ∀ k, (∀ y0 y1 y2 y3 y4, LeO (turnoutref02_Text.l0 k y0 y1 y2 y3 y4) (turnoutref02_Text.l0 (k + 1) y0 y1 y2 y3 y4)) ∧ (∀ y0 y1 y2 y3 y4 y5 y6, LeO (turnoutref02_Text.l1 k y0 y1 y2 y3 y4 y5 y6) (turnoutref02_Text.l1 (k + 1) y0 y1 y2 y3 y4 y5 y6))
  | 0 => ⟨fun _ _ _ _ _ r h => by simp [turnoutref02_Text.l0] at h, fun _ _ _ _ _ _ _ r h => by simp [turnoutref02_Text.l1] at h⟩
  | k + 1 => by
   obtain ⟨ih0, ih1⟩ := turnoutref02_Text.mono_l k
   refine ⟨?_, ?_⟩
   ·
    intro y0 y1 y2 y3 y4
    unfold turnoutref02_Text.l0
    repeat' first
    | (with_reducible exact ih0 _ _ _ _ _)
    | (with_reducible exact ih1 _ _ _ _ _ _ _)
    | (with_reducible exact turnoutref02_Of.mono _ _ _ _)
    | (with_reducible exact LeO.refl _)
    | (with_reducible exact LeO.none _)
    | (with_reducible refine LeO.ite ?_ ?_)
    | (with_reducible refine LeO.bind ?_ (fun _ => ?_))
    | exact ih0 _ _ _ _ _
    | exact ih1 _ _ _ _ _ _ _
    | exact turnoutref02_Of.mono _ _ _ _
    | exact LeO.none _
    | refine LeO.ite ?_ ?_
    | refine LeO.bind ?_ (fun _ => ?_)
   ·
    intro y0 y1 y2 y3 y4 y5 y6
    unfold turnoutref02_Text.l1
    repeat' first
    | (with_reducible exact ih0 _ _ _ _ _)
    | (with_reducible exact ih1 _ _ _ _ _ _ _)
    | (with_reducible exact turnoutref02_Of.mono _ _ _ _)
    | (with_reducible exact LeO.refl _)
    | (with_reducible exact LeO.none _)
    | (with_reducible refine LeO.ite ?_ ?_)
    | (with_reducible refine LeO.bind ?_ (fun _ => ?_))
    | exact ih0 _ _ _ _ _
    | exact ih1 _ _ _ _ _ _ _
    | exact turnoutref02_Of.mono _ _ _ _
    | exact LeO.none _
    | refine LeO.ite ?_ ?_
    | refine LeO.bind ?_ (fun _ => ?_)
theorem turnoutref02_Text.mono : ∀ a0 a1 a2 k, LeO (turnoutref02_Text.f k a0 a1 a2) (turnoutref02_Text.f (k + 1) a0 a1 a2) := by
  intro a0 a1 a2 k
  obtain ⟨ih0, ih1⟩ := turnoutref02_Text.mono_l k
  unfold turnoutref02_Text.f
  repeat' first
    | (with_reducible exact ih0 _ _ _ _ _)
    | (with_reducible exact ih1 _ _ _ _ _ _ _)
    | (with_reducible exact turnoutref02_Of.mono _ _ _ _)
    | (with_reducible exact LeO.refl _)
    | (with_reducible exact LeO.none _)
    | (with_reducible refine LeO.ite ?_ ?_)
    | (with_reducible refine LeO.bind ?_ (fun _ => ?_))
    | exact ih0 _ _ _ _ _
    | exact ih1 _ _ _ _ _ _ _
    | exact turnoutref02_Of.mono _ _ _ _
    | exact LeO.none _
    | refine LeO.ite ?_ ?_
    | refine LeO.bind ?_ (fun _ => ?_)
set_option maxHeartbeats 8000000 in
set_option maxRecDepth 100000 in
theorem turnoutref02_Text.calls (k : Nat) (a0_0 : Int) (a0_1 : Int) (a1 : Int) (r1 : ByteArray) (r2 : Int) (w : World) (h : turnoutref02_Text.f k a0_0 a0_1 a1 = some (r1, r2)) :
   Calls Try.prog 22 #[.agg #[.int .u64 a0_0, .int .u64 a0_1], .int .i64 a1] w fun e w' => e = .returned (.tuple #[.string r1, .int .i64 r2]) ∧ Below w.heap.size w w' := by
  have hu25 := Try.underlying25
  have HB := Aside0.mk (Below.refl w.heap.size w)
  have H : ((turnoutref02_Bytes.f a1).bind fun t247 => (if t247 = 0 then (some ((⟨#[]⟩ : ByteArray), 1)) else ((turnoutref02_Bytes.f a1).bind fun t248 => (turnoutref02_Text.l0 k a1 (⟨#[]⟩ : ByteArray) (wrap64 (t248 - 1)) a0_0 a0_1)))) = some (r1, r2) := h
  clear h
  replace H := Option.bind_eq_some_iff.mp H
  obtain ⟨t247, A30, H⟩ := H
  replace H : (if t247 = 0 then (some ((⟨#[]⟩ : ByteArray), 1)) else ((turnoutref02_Bytes.f a1).bind fun t248 => (turnoutref02_Text.l0 k a1 (⟨#[]⟩ : ByteArray) (wrap64 (t248 - 1)) a0_0 a0_1))) = some (r1, r2) := H
  have A3 := Aside0.mk A30
  clear A30
  by_cases c4 : t247 = 0
  ·
   rw [if_pos c4] at H
   have c4b0 : (t247 == 0) = true := beq_iff_eq.mpr c4
   have c4b1 : (t247 != 0) = false := bne_eq_false_iff_eq.mpr c4
   clear c4
   simp only [Option.some.injEq, Prod.mk.injEq] at H
   obtain ⟨rfl, rfl⟩ := H
   go_enter Try.func22, Try.ntmps22
   go_wp2_with (first | ((with_reducible refine gate_dst (N := 2) rfl ?_); refine box_event ?hg (N := 2) ?hd (cs := #[.int .u64 a0_0, .int .u64 a0_1]) (t := 25) ?hr ?_; (case hd => rfl); (case hg => rfl); (case hr => first | (go_simp; done) | (go_simp; rfl)); intro gb246 hg w5 hbox hb; have BK246 := Aside0.mk (hbox); have GW246 := Aside0.mk ((by rw [hg]; exact (below_size (by repeat (first | (with_reducible first | exact HB.out | apply below_alloc | apply pw_below_drewN | apply below_drew1) | exact HB.out))) : w.heap.size ≤ gb246)); have GE246 := Aside0.mk ((by rw [hg]; exact (below_size (by repeat (first | (with_reducible first | exact HB.out | apply below_alloc | apply pw_below_drewN | apply below_drew1) | exact HB.out))) : w.heap.size ≤ gb246)); replace HB := Aside0.mk (below_step (by repeat (first | (with_reducible first | exact HB.out | apply below_alloc | apply pw_below_drewN | apply below_drew1) | exact HB.out)) hb); clear hb hbox hg) | ((with_reducible refine gate_callee (f := 26) rfl ?_); refine goesL_ (some 11) rfl rfl Try.func26 (by kernel_rfl) rfl #[.int .i64 a1] rfl (by (try simp only [List.map_toArray, List.map_cons, List.map_nil]); first | done | rfl | (simp only [List.length_drop, List.length_take]; rfl)) ?_; (with_reducible refine (turnoutref02_Bytes.calls a1 t247 _ A3.out).mono ?_); rintro e w' ⟨rfl, ⟨nd, rfl⟩⟩; refine ⟨_, rfl, ?_⟩))
   go_ret2
   exact ⟨by first | rfl | (simp [errW_none, errW_some] <;> rfl) | (simp [*, errW_none, errW_some] <;> rfl), by repeat (first | (with_reducible first | exact HB.out | apply below_alloc | apply pw_below_drewN | apply below_drew1 | refine below_set ?_ GE246.out) | exact HB.out)⟩
  ·
   rw [if_neg c4] at H
   have c4b0 : (t247 == 0) = false := beq_eq_false_iff_ne.mpr c4
   have c4b1 : (t247 != 0) = true := bne_iff_ne.mpr c4
   replace H := Option.bind_eq_some_iff.mp H
   obtain ⟨t248, A60, H⟩ := H
   replace H : (turnoutref02_Text.l0 k a1 (⟨#[]⟩ : ByteArray) (wrap64 (t248 - 1)) a0_0 a0_1) = some (r1, r2) := H
   have hsame_ := Option.some.inj (A3.out.symm.trans A60)
   obtain rfl := hsame_
   clear A60
   have H' := Aside0.mk H
   clear H
   go_enter Try.func22, Try.ntmps22
   go_wp2_with (first | ((with_reducible refine gate_dst (N := 2) rfl ?_); refine box_event ?hg (N := 2) ?hd (cs := #[.int .u64 a0_0, .int .u64 a0_1]) (t := 25) ?hr ?_; (case hd => rfl); (case hg => rfl); (case hr => first | (go_simp; done) | (go_simp; rfl)); intro gb246 hg w7 hbox hb; have BK246 := Aside0.mk (hbox); have GW246 := Aside0.mk ((by rw [hg]; exact (below_size (by repeat (first | (with_reducible first | exact HB.out | apply below_alloc | apply pw_below_drewN | apply below_drew1) | exact HB.out))) : w.heap.size ≤ gb246)); have GE246 := Aside0.mk ((by rw [hg]; exact (below_size (by repeat (first | (with_reducible first | exact HB.out | apply below_alloc | apply pw_below_drewN | apply below_drew1) | exact HB.out))) : w.heap.size ≤ gb246)); replace HB := Aside0.mk (below_step (by repeat (first | (with_reducible first | exact HB.out | apply below_alloc | apply pw_below_drewN | apply below_drew1) | exact HB.out)) hb); clear hb hbox hg) | ((with_reducible refine gate_callee (f := 26) rfl ?_); refine goesL_ (some 11) rfl rfl Try.func26 (by kernel_rfl) rfl #[.int .i64 a1] rfl (by (try simp only [List.map_toArray, List.map_cons, List.map_nil]); first | done | rfl | (simp only [List.length_drop, List.length_take]; rfl)) ?_; (with_reducible refine (turnoutref02_Bytes.calls a1 t247 _ A3.out).mono ?_); rintro e w' ⟨rfl, ⟨nd, rfl⟩⟩; refine ⟨_, rfl, ?_⟩) | ((with_reducible refine gate_callee (f := 26) rfl ?_); refine goesL_ (some 14) rfl rfl Try.func26 (by kernel_rfl) rfl #[.int .i64 a1] rfl (by (try simp only [List.map_toArray, List.map_cons, List.map_nil]); first | done | rfl | (simp only [List.length_drop, List.length_take]; rfl)) ?_; (with_reducible refine (turnoutref02_Bytes.calls a1 t247 _ A3.out).mono ?_); rintro e w' ⟨rfl, ⟨nd, rfl⟩⟩; refine ⟨_, rfl, ?_⟩))
   go_loopg [6, 7] k (fun kq v6 v7 w' => ∃ (x6_1 : ByteArray) (x7_1 : Int), v6 = .string x6_1 ∧ v7 = .int .i64 x7_1 ∧ Aside0 (turnoutref02_Text.l0 kq a1 x6_1 x7_1 a0_0 a0_1 = some (r1, r2)) ∧ Aside0 (kq ≤ k) ∧ Aside0 (w'.heap[gb246]? = some (.cells #[.int .u64 a0_0, .int .u64 a0_1] 25 (0, 0))) ∧ Aside0 (Below w.heap.size w w'))
   case atStart => exact ⟨((⟨#[]⟩ : ByteArray)), (wrap64 (t247 - 1)), (by first | rfl | (simp; done) | (simp [*]; done)), (by first | rfl | (simp; done) | (simp [*]; done)), H', ⟨Nat.le_refl _⟩, ⟨by (with_reducible repeat (first | refine blk_drewN ?_ _ | refine blk_drew ?_ | refine blk_alloc ?_ _)); exact BK246.out⟩, ⟨by repeat (first | (with_reducible first | exact HB.out | apply below_alloc | apply pw_below_drewN | apply below_drew1 | refine below_set ?_ GE246.out) | exact HB.out)⟩⟩
   case round =>
    clear H'
    try clear c2
    try clear p2
    try clear c4
    try clear c4b0
    try clear c4b1
    try clear p6
    obtain ⟨x6_1, x7_1, rfl, rfl, HA, HK1, BK246, HB⟩ := hrel
    cases gk with
    | zero => exact absurd HA.out (by simp [turnoutref02_Text.l0])
    | succ k1 =>
     have H := HA.out
     clear HA
     simp only [turnoutref02_Text.l0] at H
     by_cases c8 : x7_1 ≥ 0
     ·
      rw [if_pos c8] at H
      have c8b0 : decide (0 ≤ x7_1) = true := decide_eq_true c8
      clear c8
      have H' := Aside0.mk H
      clear H
      go_wp2
      go_loopg [8, 9] k1 (fun kq v8 v9 w' => ∃ (x8_2 : Int) (x9_2 : Int), v8 = .int .u64 x8_2 ∧ v9 = .int .i64 x9_2 ∧ Aside0 (turnoutref02_Text.l1 kq a1 x6_1 x7_1 x8_2 x9_2 a0_0 a0_1 = some (r1, r2)) ∧ Aside0 (kq ≤ k1) ∧ Aside0 (w'.heap[gb246]? = some (.cells #[.int .u64 a0_0, .int .u64 a0_1] 25 (0, 0))) ∧ Aside0 (Below w.heap.size w w'))
      case atStart => exact ⟨(0), (wrap64 ((wrap64 (8 * x7_1)) + 7)), (by first | rfl | (simp; done) | (simp [*]; done)), (by first | rfl | (simp; done) | (simp [*]; done)), H', ⟨Nat.le_refl _⟩, ⟨by (with_reducible repeat (first | refine blk_drewN ?_ _ | refine blk_drew ?_ | refine blk_alloc ?_ _)); exact BK246.out⟩, ⟨by repeat (first | (with_reducible first | exact HB.out | apply below_alloc | apply pw_below_drewN | apply below_drew1 | refine below_set ?_ GE246.out) | exact HB.out)⟩⟩
      case round =>
       clear H'
       try clear c2
       try clear p2
       try clear c4
       try clear c4b0
       try clear c4b1
       try clear p6
       try clear c8
       try clear c8b0
       try clear p2
       try clear p6
       obtain ⟨x8_2, x9_2, rfl, rfl, HA, HK2, BK246, HB⟩ := hrel
       cases gk with
       | zero => exact absurd HA.out (by simp [turnoutref02_Text.l1])
       | succ k2 =>
        have H := HA.out
        clear HA
        simp only [turnoutref02_Text.l1] at H
        by_cases c9 : x9_2 ≥ (wrap64 (8 * x7_1))
        ·
         rw [if_pos c9] at H
         have c9b0 : decide ((wrap64 (8 * x7_1)) ≤ x9_2) = true := decide_eq_true c9
         clear c9
         by_cases c10 : x9_2 < a1
         ·
          rw [if_pos c10] at H
          have c10b0 : decide (x9_2 < a1) = true := decide_eq_true c10
          clear c10
          replace H := Option.bind_eq_some_iff.mp H
          obtain ⟨t249, A110, H⟩ := H
          replace H : (turnoutref02_Text.l1 k2 a1 x6_1 x7_1 (IntKind.u64.wrap ((IntKind.u64.wrap (x8_2 * 2)) + t249)) (wrap64 (x9_2 - 1)) a0_0 a0_1) = some (r1, r2) := H
          have A11 := Aside0.mk A110
          clear A110
          have H' := Aside0.mk H
          clear H
          have hcz12_0 : wr.cell? ⟨gb246, 0, none⟩ = some (.int .u64 a0_0) := (blk_cell BK246.out 0).trans rfl
          have hcz12_1 : wr.cell? ⟨gb246, 1, none⟩ = some (.int .u64 a0_1) := (blk_cell BK246.out 1).trans rfl
          have hfz12_0 := blk_frozen BK246.out 0
          have hfz12_1 := blk_frozen BK246.out 1
          go_wp2_with (first | ((with_reducible refine gate_callee (f := 39) rfl ?_); refine goesL_ (some 37) rfl rfl Try.func39 (by kernel_rfl) rfl #[.agg #[.int .u64 a0_0, .int .u64 a0_1], .int .i64 x9_2] rfl (by (try simp only [List.map_toArray, List.map_cons, List.map_nil]); first | done | rfl | (simp only [List.length_drop, List.length_take]; rfl)) ?_; (with_reducible refine (turnoutref02_Of.calls k2 a0_0 a0_1 x9_2 t249 _ A11.out).mono ?_); rintro e w13 ⟨rfl, hb⟩; refine ⟨_, rfl, ?_⟩; replace BK246 := Aside0.mk (blk_below (bkA BK246.out) hb); replace HB := Aside0.mk (below_step (by repeat (first | (with_reducible first | exact HB.out | apply below_alloc | apply pw_below_drewN | apply below_drew1 | refine below_set ?_ GE246.out) | exact HB.out)) hb); (try clear hb); (try clear hb2); (try clear hk); (try clear hi)))
          go_roundg k2
          case measure => have := HK1.out; have := HK2.out; omega
          case rel => exact ⟨(IntKind.u64.wrap ((IntKind.u64.wrap (x8_2 * 2)) + t249)), (wrap64 (x9_2 - 1)), (by first | rfl | (simp; done) | (simp [*]; done)), (by first | rfl | (simp; done) | (simp [*]; done)), H', ⟨by have := HK1.out; have := HK2.out; omega⟩, ⟨by (with_reducible repeat (first | refine blk_drewN ?_ _ | refine blk_drew ?_ | refine blk_alloc ?_ _)); exact BK246.out⟩, ⟨by repeat (first | (with_reducible first | exact HB.out | apply below_alloc | apply pw_below_drewN | apply below_drew1 | refine below_set ?_ GE246.out) | exact HB.out)⟩⟩
         ·
          rw [if_neg c10] at H
          have c10b0 : decide (x9_2 < a1) = false := decide_eq_false c10
          clear c10
          have H' := Aside0.mk H
          clear H
          go_wp2
          go_roundg k2
          case measure => have := HK1.out; have := HK2.out; omega
          case rel => exact ⟨(IntKind.u64.wrap (x8_2 * 2)), (wrap64 (x9_2 - 1)), (by first | rfl | (simp; done) | (simp [*]; done)), (by first | rfl | (simp; done) | (simp [*]; done)), H', ⟨by have := HK1.out; have := HK2.out; omega⟩, ⟨by (with_reducible repeat (first | refine blk_drewN ?_ _ | refine blk_drew ?_ | refine blk_alloc ?_ _)); exact BK246.out⟩, ⟨by repeat (first | (with_reducible first | exact HB.out | apply below_alloc | apply pw_below_drewN | apply below_drew1 | refine below_set ?_ GE246.out) | exact HB.out)⟩⟩
        ·
         rw [if_neg c9] at H
         have c9b0 : decide ((wrap64 (8 * x7_1)) ≤ x9_2) = false := decide_eq_false c9
         clear c9
         obtain ⟨y250, hy250⟩ : ∃ y_ : List Int, y_ = (([(x8_2) % 256] : List Int)) := ⟨_, rfl⟩
         replace H : (if x6_1.size + (strOfNums y250).size ≤ 9223372036854775807 then (turnoutref02_Text.l0 k2 a1 (x6_1 ++ (strOfNums y250)) (wrap64 (x7_1 - 1)) a0_0 a0_1) else (none)) = some (r1, r2) := by first | (rw [hy250]; with_reducible exact H) | (have H2_ := (Option.bind_some _ _).symm.trans H; rw [hy250]; with_reducible exact H2_) | (have H2_ := (Option.bind_some _ _).symm.trans H; with_reducible exact H2_) | with_reducible exact H | (rw [hy250]; exact H) | exact H
         have Ny250 := Aside0.mk hy250
         clear hy250
         by_cases c14 : x6_1.size + (strOfNums y250).size ≤ 9223372036854775807
         ·
          rw [if_pos c14] at H
          have c14b0 := eq_true c14
          have c14b1 : decide (x6_1.size + (strOfNums y250).size ≤ 9223372036854775807) = true := decide_eq_true c14
          try have c14b2 : (9223372036854775807 < x6_1.size + (strOfNums y250).size) = False := eq_false (Nat.not_lt.2 c14)
          obtain ⟨y253, hy253⟩ : ∃ y_ : ByteArray, (x6_1 ++ (strOfNums y250)) = y_ := ⟨_, rfl⟩
          replace H : (turnoutref02_Text.l0 k2 a1 y253 (wrap64 (x7_1 - 1)) a0_0 a0_1) = some (r1, r2) := by first | (rw [← hy253]; exact H) | exact H
          have H' := Aside0.mk H
          clear H
          go_wp2_with (first | ((with_reducible refine gate_dst (N := 42) rfl ?_); refine Kd.R_lit (Kd.int .u8) _ 5 ?hg (N := 42) ?hd (xs := ([(x8_2) % 256] : List Int)) (inner := [.int .u8 ((x8_2) % 256)]) (ok := fun _ => True) (okp := fun _ => True) ?hr ?hp (fun _ hk => hk) trivial (Below.refl _ _) (Nat.le_refl _) (by simp) ?_; (case hd => rfl); (case hg => rfl); (case hr => first | (go_simp; done) | (go_simp; rfl)); (case hp => exact (Reps.one (show Kd.M (Kd.int .u8) _ _ _ ((x8_2) % 256) [.int .u8 ((x8_2) % 256)] from rfl) (Reps.none _ _))); intro v251 w15 ho16 hb hg_ hnew_; clear hg_ hnew_; (first | rw [← Ny250.out] at ho16 | (simp only [Int.reduceToNat] at ho16; rw [← Ny250.out] at ho16)); have HO252 := Aside0.mk (Kd.R_lower ho16 (below_size (by repeat (first | (with_reducible first | exact HB.out | apply below_alloc | apply pw_below_drewN | apply below_drew1 | refine below_set ?_ GE246.out) | exact HB.out)))); replace BK246 := Aside0.mk (blk_below (bkA BK246.out) hb); replace HB := Aside0.mk (below_step (by repeat (first | (with_reducible first | exact HB.out | apply below_alloc | apply pw_below_drewN | apply below_drew1 | refine below_set ?_ GE246.out) | exact HB.out)) hb); clear hb ho16; have hcv17 := own_string (P := Try.prog) Try.underlying55 Try.underlying5 Try.underlying9 (Kd.own_of_R HO252.out); have hcd17 := own_stringD (P := Try.prog) Try.underlying55 Try.underlying5 Try.underlying9 (Kd.own_of_R HO252.out)))
          go_roundg k2
          case measure => have := HK1.out; have := HK2.out; omega
          case rel => exact ⟨(y253), (wrap64 (x7_1 - 1)), (by first | rfl | (simp; done) | (simp [*]; done)), (by first | rfl | (simp; done) | (simp [*]; done)), H', ⟨by have := HK1.out; have := HK2.out; omega⟩, ⟨by (with_reducible repeat (first | refine blk_drewN ?_ _ | refine blk_drew ?_ | refine blk_alloc ?_ _)); exact BK246.out⟩, ⟨by repeat (first | (with_reducible first | exact HB.out | apply below_alloc | apply pw_below_drewN | apply below_drew1 | refine below_set ?_ GE246.out) | exact HB.out)⟩⟩
         ·
          rw [if_neg c14] at H
          exact absurd H (by simp)
     ·
      rw [if_neg c8] at H
      have c8b0 : decide (0 ≤ x7_1) = false := decide_eq_false c8
      clear c8
      simp only [Option.some.injEq, Prod.mk.injEq] at H
      obtain ⟨rfl, rfl⟩ := H
      go_wp2
      go_ret2
      exact ⟨by first | rfl | (simp [errW_none, errW_some] <;> rfl) | (simp [*, errW_none, errW_some] <;> rfl), by repeat (first | (with_reducible first | exact HB.out | apply below_alloc | apply pw_below_drewN | apply below_drew1 | refine below_set ?_ GE246.out) | exact HB.out)⟩

end Go.Proofs.Ytgpahhobifdapaa.PField
