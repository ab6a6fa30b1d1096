-- Written by wip/turnprint.py, a program of this session (the kit's print, turned).
import Derived.Test.YtieopkigfbnhcaaPSumx0
import Derived.Test.YtieopkigfbnhcaaPSumx1
namespace Go.Proofs.Ytieopkigfbnhcaa.PSum
open Go.RowKit Go.Proofs.YtieopkigfbnhcaaW.PrintWords Go.Proofs.YtieopkigfbnhcaaW.PrintLast Go.Proofs.YtieopkigfbnhcaaW.PrintMore
attribute [local go_sem] max2_int min2_int max_two min_two max_three min_three max_four min_four   -- for this text's walks alone
set_option linter.unusedVariables false
set_option linter.unusedSimpArgs false

attribute [local go_sem high] xorA_u8 xorA_u16 xorA_u32 xorA_u64 gtr_str
/-! ### turnoutlaw03_SumRing: function 6 -/
def turnoutlaw03_SumRing.f (k : Nat) (a0 : Int) (a1 : Int) (a2 : Int) : Option (Bool) := (sum_Add.f k a0 a1).bind fun t144 => ((turnoutlaw03_awake.f k).bind fun t145 => (if t145 = true then ((sum_Add.f k a1 a0).bind fun t146 => (if t144 = t146 then ((sum_Add.f k t144 a2).bind fun t147 => ((sum_Add.f k a1 a2).bind fun t148 => ((sum_Add.f k a0 t148).bind fun t149 => (if t147 = t149 then (if a0 = 0 then (if ((t144 == 0) == (a1 == 0)) = true then ((sum_Add.f k a0 0).bind fun t150 => (if t150 = a0 then ((sum_Add.f k a0 (Go.bits .xor .u16 65535 a0)).bind fun t151 => (some (t151 == 65535))) else (some false))) else (some false)) else (if ((t144 == 0) == false) = true then ((sum_Add.f k a0 0).bind fun t152 => (if t152 = a0 then ((sum_Add.f k a0 65535).bind fun t153 => (if t153 = a0 then ((sum_Add.f k a0 (Go.bits .xor .u16 65535 a0)).bind fun t154 => (some (t154 == 65535))) else (some false))) else (some false))) else (some false))) else (some false))))) else (some false))) else (some false)))
theorem turnoutlaw03_SumRing.mono : ∀ a0 a1 a2 k, LeO (turnoutlaw03_SumRing.f k a0 a1 a2) (turnoutlaw03_SumRing.f (k + 1) a0 a1 a2) := by
  intro a0 a1 a2 k
  unfold turnoutlaw03_SumRing.f
  repeat' first
    | (with_reducible exact sum_Add.mono _ _ _)
    | (with_reducible exact turnoutlaw03_awake.mono _)
    | (with_reducible exact LeO.refl _)
    | (with_reducible exact LeO.none _)
    | (with_reducible refine LeO.ite ?_ ?_)
    | (with_reducible refine LeO.bind ?_ (fun _ => ?_))
    | exact sum_Add.mono _ _ _
    | exact turnoutlaw03_awake.mono _
    | exact LeO.none _
    | refine LeO.ite ?_ ?_
    | refine LeO.bind ?_ (fun _ => ?_)
set_option maxHeartbeats 8000000 in
set_option maxRecDepth 100000 in
theorem turnoutlaw03_SumRing.calls (k : Nat) (a0 : Int) (a1 : Int) (a2 : Int) (r : Bool) (w : World) (h : turnoutlaw03_SumRing.f k a0 a1 a2 = some r) (hr_ : Aside0 (r = true)) (HAW12 : Aside0 (∀ k r, turnoutlaw03_awake.f k = some r → r = true)) :
   Calls Try.prog 6 #[.int .u16 a0, .int .u16 a1, .int .u16 a2] w fun e w' => e = .returned (.bool r) ∧ Below w.heap.size w w' := by
  have HB := Aside0.mk (Below.refl w.heap.size w)
  have H : ((sum_Add.f k a0 a1).bind fun t144 => ((turnoutlaw03_awake.f k).bind fun t145 => (if t145 = true then ((sum_Add.f k a1 a0).bind fun t146 => (if t144 = t146 then ((sum_Add.f k t144 a2).bind fun t147 => ((sum_Add.f k a1 a2).bind fun t148 => ((sum_Add.f k a0 t148).bind fun t149 => (if t147 = t149 then (if a0 = 0 then (if ((t144 == 0) == (a1 == 0)) = true then ((sum_Add.f k a0 0).bind fun t150 => (if t150 = a0 then ((sum_Add.f k a0 (Go.bits .xor .u16 65535 a0)).bind fun t151 => (some (t151 == 65535))) else (some false))) else (some false)) else (if ((t144 == 0) == false) = true then ((sum_Add.f k a0 0).bind fun t152 => (if t152 = a0 then ((sum_Add.f k a0 65535).bind fun t153 => (if t153 = a0 then ((sum_Add.f k a0 (Go.bits .xor .u16 65535 a0)).bind fun t154 => (some (t154 == 65535))) else (some false))) else (some false))) else (some false))) else (some false))))) else (some false))) else (some false)))) = some r := h
  clear h
  replace H := Option.bind_eq_some_iff.mp H
  obtain ⟨t144, A40, H⟩ := H
  replace H : ((turnoutlaw03_awake.f k).bind fun t145 => (if t145 = true then ((sum_Add.f k a1 a0).bind fun t146 => (if t144 = t146 then ((sum_Add.f k t144 a2).bind fun t147 => ((sum_Add.f k a1 a2).bind fun t148 => ((sum_Add.f k a0 t148).bind fun t149 => (if t147 = t149 then (if a0 = 0 then (if ((t144 == 0) == (a1 == 0)) = true then ((sum_Add.f k a0 0).bind fun t150 => (if t150 = a0 then ((sum_Add.f k a0 (Go.bits .xor .u16 65535 a0)).bind fun t151 => (some (t151 == 65535))) else (some false))) else (some false)) else (if ((t144 == 0) == false) = true then ((sum_Add.f k a0 0).bind fun t152 => (if t152 = a0 then ((sum_Add.f k a0 65535).bind fun t153 => (if t153 = a0 then ((sum_Add.f k a0 (Go.bits .xor .u16 65535 a0)).bind fun t154 => (some (t154 == 65535))) else (some false))) else (some false))) else (some false))) else (some false))))) else (some false))) else (some false))) = some r := H
  have A4 := Aside0.mk A40
  clear A40
  replace H := Option.bind_eq_some_iff.mp H
  obtain ⟨t145, A50, H⟩ := H
  replace H : (if t145 = true then ((sum_Add.f k a1 a0).bind fun t146 => (if t144 = t146 then ((sum_Add.f k t144 a2).bind fun t147 => ((sum_Add.f k a1 a2).bind fun t148 => ((sum_Add.f k a0 t148).bind fun t149 => (if t147 = t149 then (if a0 = 0 then (if ((t144 == 0) == (a1 == 0)) = true then ((sum_Add.f k a0 0).bind fun t150 => (if t150 = a0 then ((sum_Add.f k a0 (Go.bits .xor .u16 65535 a0)).bind fun t151 => (some (t151 == 65535))) else (some false))) else (some false)) else (if ((t144 == 0) == false) = true then ((sum_Add.f k a0 0).bind fun t152 => (if t152 = a0 then ((sum_Add.f k a0 65535).bind fun t153 => (if t153 = a0 then ((sum_Add.f k a0 (Go.bits .xor .u16 65535 a0)).bind fun t154 => (some (t154 == 65535))) else (some false))) else (some false))) else (some false))) else (some false))))) else (some false))) else (some false)) = some r := H
  have A5 := Aside0.mk A50
  clear A50
  by_cases c6 : t145 = true
  ·
   subst c6
   have H1 : ((sum_Add.f k a1 a0).bind fun t146 => (if t144 = t146 then ((sum_Add.f k t144 a2).bind fun t147 => ((sum_Add.f k a1 a2).bind fun t148 => ((sum_Add.f k a0 t148).bind fun t149 => (if t147 = t149 then (if a0 = 0 then (if ((t144 == 0) == (a1 == 0)) = true then ((sum_Add.f k a0 0).bind fun t150 => (if t150 = a0 then ((sum_Add.f k a0 (Go.bits .xor .u16 65535 a0)).bind fun t151 => (some (t151 == 65535))) else (some false))) else (some false)) else (if ((t144 == 0) == false) = true then ((sum_Add.f k a0 0).bind fun t152 => (if t152 = a0 then ((sum_Add.f k a0 65535).bind fun t153 => (if t153 = a0 then ((sum_Add.f k a0 (Go.bits .xor .u16 65535 a0)).bind fun t154 => (some (t154 == 65535))) else (some false))) else (some false))) else (some false))) else (some false))))) else (some false))) = some r := by rw [if_pos rfl] at H; exact H
   clear H; have H := H1; clear H1
   replace H := Option.bind_eq_some_iff.mp H
   obtain ⟨t146, A70, H⟩ := H
   replace H : (if t144 = t146 then ((sum_Add.f k t144 a2).bind fun t147 => ((sum_Add.f k a1 a2).bind fun t148 => ((sum_Add.f k a0 t148).bind fun t149 => (if t147 = t149 then (if a0 = 0 then (if ((t144 == 0) == (a1 == 0)) = true then ((sum_Add.f k a0 0).bind fun t150 => (if t150 = a0 then ((sum_Add.f k a0 (Go.bits .xor .u16 65535 a0)).bind fun t151 => (some (t151 == 65535))) else (some false))) else (some false)) else (if ((t144 == 0) == false) = true then ((sum_Add.f k a0 0).bind fun t152 => (if t152 = a0 then ((sum_Add.f k a0 65535).bind fun t153 => (if t153 = a0 then ((sum_Add.f k a0 (Go.bits .xor .u16 65535 a0)).bind fun t154 => (some (t154 == 65535))) else (some false))) else (some false))) else (some false))) else (some false))))) else (some false)) = some r := H
   have A7 := Aside0.mk A70
   clear A70
   by_cases c8 : t144 = t146
   ·
    rw [if_pos c8] at H
    have c8b0 : (t144 == t146) = true := beq_iff_eq.mpr c8
    have c8b1 : (t144 != t146) = false := bne_eq_false_iff_eq.mpr c8
    clear c8
    replace H := Option.bind_eq_some_iff.mp H
    obtain ⟨t147, A90, H⟩ := H
    replace H : ((sum_Add.f k a1 a2).bind fun t148 => ((sum_Add.f k a0 t148).bind fun t149 => (if t147 = t149 then (if a0 = 0 then (if ((t144 == 0) == (a1 == 0)) = true then ((sum_Add.f k a0 0).bind fun t150 => (if t150 = a0 then ((sum_Add.f k a0 (Go.bits .xor .u16 65535 a0)).bind fun t151 => (some (t151 == 65535))) else (some false))) else (some false)) else (if ((t144 == 0) == false) = true then ((sum_Add.f k a0 0).bind fun t152 => (if t152 = a0 then ((sum_Add.f k a0 65535).bind fun t153 => (if t153 = a0 then ((sum_Add.f k a0 (Go.bits .xor .u16 65535 a0)).bind fun t154 => (some (t154 == 65535))) else (some false))) else (some false))) else (some false))) else (some false)))) = some r := H
    have A9 := Aside0.mk A90
    clear A90
    replace H := Option.bind_eq_some_iff.mp H
    obtain ⟨t148, A100, H⟩ := H
    replace H : ((sum_Add.f k a0 t148).bind fun t149 => (if t147 = t149 then (if a0 = 0 then (if ((t144 == 0) == (a1 == 0)) = true then ((sum_Add.f k a0 0).bind fun t150 => (if t150 = a0 then ((sum_Add.f k a0 (Go.bits .xor .u16 65535 a0)).bind fun t151 => (some (t151 == 65535))) else (some false))) else (some false)) else (if ((t144 == 0) == false) = true then ((sum_Add.f k a0 0).bind fun t152 => (if t152 = a0 then ((sum_Add.f k a0 65535).bind fun t153 => (if t153 = a0 then ((sum_Add.f k a0 (Go.bits .xor .u16 65535 a0)).bind fun t154 => (some (t154 == 65535))) else (some false))) else (some false))) else (some false))) else (some false))) = some r := H
    have A10 := Aside0.mk A100
    clear A100
    replace H := Option.bind_eq_some_iff.mp H
    obtain ⟨t149, A110, H⟩ := H
    replace H : (if t147 = t149 then (if a0 = 0 then (if ((t144 == 0) == (a1 == 0)) = true then ((sum_Add.f k a0 0).bind fun t150 => (if t150 = a0 then ((sum_Add.f k a0 (Go.bits .xor .u16 65535 a0)).bind fun t151 => (some (t151 == 65535))) else (some false))) else (some false)) else (if ((t144 == 0) == false) = true then ((sum_Add.f k a0 0).bind fun t152 => (if t152 = a0 then ((sum_Add.f k a0 65535).bind fun t153 => (if t153 = a0 then ((sum_Add.f k a0 (Go.bits .xor .u16 65535 a0)).bind fun t154 => (some (t154 == 65535))) else (some false))) else (some false))) else (some false))) else (some false)) = some r := H
    have A11 := Aside0.mk A110
    clear A110
    by_cases c12 : t147 = t149
    ·
     rw [if_pos c12] at H
     have c12b0 : (t147 == t149) = true := beq_iff_eq.mpr c12
     have c12b1 : (t147 != t149) = false := bne_eq_false_iff_eq.mpr c12
     clear c12
     by_cases c13 : a0 = 0
     ·
      rw [if_pos c13] at H
      have c13b0 : (a0 == 0) = true := beq_iff_eq.mpr c13
      have c13b1 : (a0 != 0) = false := bne_eq_false_iff_eq.mpr c13
      clear c13
      by_cases c14 : ((t144 == 0) == (a1 == 0)) = true
      ·
       rw [if_pos c14] at H
       have c14b0 : ((t144 == 0) == (a1 == 0)) = true := c14
       (try (have c14b1 : decide ((t144 == 0) = (a1 == 0)) = true := by simpa using c14))
       (try (have c14b2 : ((t144 == 0) == (a1 == 0)) = true := by simpa using c14))
       clear c14
       replace H := Option.bind_eq_some_iff.mp H
       obtain ⟨t150, A150, H⟩ := H
       replace H : (if t150 = a0 then ((sum_Add.f k a0 (Go.bits .xor .u16 65535 a0)).bind fun t151 => (some (t151 == 65535))) else (some false)) = some r := H
       have A15 := Aside0.mk A150
       clear A150
       by_cases c16 : t150 = a0
       ·
        rw [if_pos c16] at H
        have c16b0 : (t150 == a0) = true := beq_iff_eq.mpr c16
        have c16b1 : (t150 != a0) = false := bne_eq_false_iff_eq.mpr c16
        clear c16
        replace H := Option.bind_eq_some_iff.mp H
        obtain ⟨t151, A170, H⟩ := H
        replace H : (some (t151 == 65535)) = some r := H
        have A17 := Aside0.mk A170
        clear A170
        obtain rfl := Option.some.inj H
        go_enter Try.func6, Try.ntmps6
        go_wp2_with (first | ((with_reducible refine gate_callee (f := 15) rfl ?_); refine goesL_ (some 10) rfl rfl Try.func15 (by kernel_rfl) rfl #[.int .u16 a0, .int .u16 a1] rfl (by (try simp only [List.map_toArray, List.map_cons, List.map_nil]); first | done | rfl | (simp only [List.length_drop, List.length_take]; rfl)) ?_; (with_reducible refine (sum_Add.calls k a0 a1 t144 _ A4.out).mono ?_); rintro e w' ⟨rfl, ⟨nd, rfl⟩⟩; refine ⟨_, rfl, ?_⟩) | ((with_reducible refine gate_callee (f := 12) rfl ?_); refine goesL_ (some 11) rfl rfl Try.func12 (by kernel_rfl) rfl #[] rfl (by (try simp only [List.map_toArray, List.map_cons, List.map_nil]); first | done | rfl | (simp only [List.length_drop, List.length_take]; rfl)) ?_; (with_reducible refine (turnoutlaw03_awake.calls k  true _ A5.out ⟨HAW12.out _ _ A5.out⟩).mono ?_); rintro e w18 ⟨rfl, hb⟩; refine ⟨_, rfl, ?_⟩; replace HB := Aside0.mk (below_step (by repeat (first | (with_reducible first | exact HB.out | apply below_alloc | apply pw_below_drewN | apply below_drew1) | exact HB.out)) hb); (try clear hb); (try clear hb2); (try clear hk); (try clear hi)) | (go_at_call 15; (with_reducible refine (sum_Add.calls k a1 a0 t146 _ A7.out).mono ?_); rintro e w' ⟨rfl, ⟨nd, rfl⟩⟩) | (go_at_call 15; (with_reducible refine (sum_Add.calls k t144 a2 t147 _ A9.out).mono ?_); rintro e w' ⟨rfl, ⟨nd, rfl⟩⟩) | (go_at_call 15; (with_reducible refine (sum_Add.calls k a1 a2 t148 _ A10.out).mono ?_); rintro e w' ⟨rfl, ⟨nd, rfl⟩⟩) | (go_at_call 15; (with_reducible refine (sum_Add.calls k a0 t148 t149 _ A11.out).mono ?_); rintro e w' ⟨rfl, ⟨nd, rfl⟩⟩) | (go_at_call 15; (with_reducible refine (sum_Add.calls k a0 0 t150 _ A15.out).mono ?_); rintro e w' ⟨rfl, ⟨nd, rfl⟩⟩) | (go_at_call 15; (with_reducible refine (sum_Add.calls k a0 (Go.bits .xor .u16 65535 a0) t151 _ A17.out).mono ?_); rintro e w' ⟨rfl, ⟨nd, rfl⟩⟩))
        go_ret
        exact ⟨by first | rfl | (simp [errW_none, errW_some] <;> rfl) | (simp [*, errW_none, errW_some] <;> rfl), by repeat (first | (with_reducible first | exact HB.out | apply below_alloc | apply pw_below_drewN | apply below_drew1) | exact HB.out)⟩
       ·
        rw [if_neg c16] at H
        have c16b0 : (t150 == a0) = false := beq_eq_false_iff_ne.mpr c16
        have c16b1 : (t150 != a0) = true := bne_iff_ne.mpr c16
        exact absurd ((Option.some.inj H).trans hr_.out) (by decide)
      ·
       rw [if_neg c14] at H
       have c14b0 : ((t144 == 0) == (a1 == 0)) = false := by simpa using c14
       (try (have c14b1 : decide ((t144 == 0) = (a1 == 0)) = false := by simpa using c14))
       (try (have c14b2 : ((t144 == 0) == (a1 == 0)) = false := by simpa using c14))
       (try (have c14b3 : ¬ ((t144 == 0) = (a1 == 0)) := by simpa using c14))
       clear c14
       exact absurd ((Option.some.inj H).trans hr_.out) (by decide)
     ·
      rw [if_neg c13] at H
      have c13b0 : (a0 == 0) = false := beq_eq_false_iff_ne.mpr c13
      have c13b1 : (a0 != 0) = true := bne_iff_ne.mpr c13
      by_cases c19 : ((t144 == 0) == false) = true
      ·
       rw [if_pos c19] at H
       have c19b0 : ((t144 == 0) == false) = true := c19
       (try (have c19b1 : decide ((t144 == 0) = false) = true := by simpa using c19))
       (try (have c19b2 : ((t144 == 0) == false) = true := by simpa using c19))
       clear c19
       replace H := Option.bind_eq_some_iff.mp H
       obtain ⟨t152, A200, H⟩ := H
       replace H : (if t152 = a0 then ((sum_Add.f k a0 65535).bind fun t153 => (if t153 = a0 then ((sum_Add.f k a0 (Go.bits .xor .u16 65535 a0)).bind fun t154 => (some (t154 == 65535))) else (some false))) else (some false)) = some r := H
       have A20 := Aside0.mk A200
       clear A200
       by_cases c21 : t152 = a0
       ·
        rw [if_pos c21] at H
        have c21b0 : (t152 == a0) = true := beq_iff_eq.mpr c21
        have c21b1 : (t152 != a0) = false := bne_eq_false_iff_eq.mpr c21
        clear c21
        replace H := Option.bind_eq_some_iff.mp H
        obtain ⟨t153, A220, H⟩ := H
        replace H : (if t153 = a0 then ((sum_Add.f k a0 (Go.bits .xor .u16 65535 a0)).bind fun t154 => (some (t154 == 65535))) else (some false)) = some r := H
        have A22 := Aside0.mk A220
        clear A220
        by_cases c23 : t153 = a0
        ·
         rw [if_pos c23] at H
         have c23b0 : (t153 == a0) = true := beq_iff_eq.mpr c23
         have c23b1 : (t153 != a0) = false := bne_eq_false_iff_eq.mpr c23
         clear c23
         replace H := Option.bind_eq_some_iff.mp H
         obtain ⟨t154, A240, H⟩ := H
         replace H : (some (t154 == 65535)) = some r := H
         have A24 := Aside0.mk A240
         clear A240
         obtain rfl := Option.some.inj H
         go_enter Try.func6, Try.ntmps6
         go_wp2_with (first | ((with_reducible refine gate_callee (f := 15) rfl ?_); refine goesL_ (some 10) rfl rfl Try.func15 (by kernel_rfl) rfl #[.int .u16 a0, .int .u16 a1] rfl (by (try simp only [List.map_toArray, List.map_cons, List.map_nil]); first | done | rfl | (simp only [List.length_drop, List.length_take]; rfl)) ?_; (with_reducible refine (sum_Add.calls k a0 a1 t144 _ A4.out).mono ?_); rintro e w' ⟨rfl, ⟨nd, rfl⟩⟩; refine ⟨_, rfl, ?_⟩) | ((with_reducible refine gate_callee (f := 12) rfl ?_); refine goesL_ (some 11) rfl rfl Try.func12 (by kernel_rfl) rfl #[] rfl (by (try simp only [List.map_toArray, List.map_cons, List.map_nil]); first | done | rfl | (simp only [List.length_drop, List.length_take]; rfl)) ?_; (with_reducible refine (turnoutlaw03_awake.calls k  true _ A5.out ⟨HAW12.out _ _ A5.out⟩).mono ?_); rintro e w25 ⟨rfl, hb⟩; refine ⟨_, rfl, ?_⟩; replace HB := Aside0.mk (below_step (by repeat (first | (with_reducible first | exact HB.out | apply below_alloc | apply pw_below_drewN | apply below_drew1) | exact HB.out)) hb); (try clear hb); (try clear hb2); (try clear hk); (try clear hi)) | (go_at_call 15; (with_reducible refine (sum_Add.calls k a1 a0 t146 _ A7.out).mono ?_); rintro e w' ⟨rfl, ⟨nd, rfl⟩⟩) | (go_at_call 15; (with_reducible refine (sum_Add.calls k t144 a2 t147 _ A9.out).mono ?_); rintro e w' ⟨rfl, ⟨nd, rfl⟩⟩) | (go_at_call 15; (with_reducible refine (sum_Add.calls k a1 a2 t148 _ A10.out).mono ?_); rintro e w' ⟨rfl, ⟨nd, rfl⟩⟩) | (go_at_call 15; (with_reducible refine (sum_Add.calls k a0 t148 t149 _ A11.out).mono ?_); rintro e w' ⟨rfl, ⟨nd, rfl⟩⟩) | (go_at_call 15; (with_reducible refine (sum_Add.calls k a0 0 t152 _ A20.out).mono ?_); rintro e w' ⟨rfl, ⟨nd, rfl⟩⟩) | (go_at_call 15; (with_reducible refine (sum_Add.calls k a0 65535 t153 _ A22.out).mono ?_); rintro e w' ⟨rfl, ⟨nd, rfl⟩⟩) | (go_at_call 15; (with_reducible refine (sum_Add.calls k a0 (Go.bits .xor .u16 65535 a0) t154 _ A24.out).mono ?_); rintro e w' ⟨rfl, ⟨nd, rfl⟩⟩))
         go_ret
         exact ⟨by first | rfl | (simp [errW_none, errW_some] <;> rfl) | (simp [*, errW_none, errW_some] <;> rfl), by repeat (first | (with_reducible first | exact HB.out | apply below_alloc | apply pw_below_drewN | apply below_drew1) | exact HB.out)⟩
        ·
         rw [if_neg c23] at H
         have c23b0 : (t153 == a0) = false := beq_eq_false_iff_ne.mpr c23
         have c23b1 : (t153 != a0) = true := bne_iff_ne.mpr c23
         exact absurd ((Option.some.inj H).trans hr_.out) (by decide)
       ·
        rw [if_neg c21] at H
        have c21b0 : (t152 == a0) = false := beq_eq_false_iff_ne.mpr c21
        have c21b1 : (t152 != a0) = true := bne_iff_ne.mpr c21
        exact absurd ((Option.some.inj H).trans hr_.out) (by decide)
      ·
       rw [if_neg c19] at H
       have c19b0 : ((t144 == 0) == false) = false := by simpa using c19
       (try (have c19b1 : decide ((t144 == 0) = false) = false := by simpa using c19))
       (try (have c19b2 : ((t144 == 0) == false) = false := by simpa using c19))
       (try (have c19b3 : ¬ ((t144 == 0) = false) := by simpa using c19))
       clear c19
       exact absurd ((Option.some.inj H).trans hr_.out) (by decide)
    ·
     rw [if_neg c12] at H
     have c12b0 : (t147 == t149) = false := beq_eq_false_iff_ne.mpr c12
     have c12b1 : (t147 != t149) = true := bne_iff_ne.mpr c12
     exact absurd ((Option.some.inj H).trans hr_.out) (by decide)
   ·
    rw [if_neg c8] at H
    have c8b0 : (t144 == t146) = false := beq_eq_false_iff_ne.mpr c8
    have c8b1 : (t144 != t146) = true := bne_iff_ne.mpr c8
    exact absurd ((Option.some.inj H).trans hr_.out) (by decide)
  ·
   replace c6 := Bool.eq_false_iff.mpr c6
   subst c6
   have H1 : (some false) = some r := by rw [if_neg (show ¬ (false = true) by decide)] at H; exact H
   clear H; have H := H1; clear H1
   exact absurd ((Option.some.inj H).trans hr_.out) (by decide)

/-- THE ONE PURE STATEMENT of turnoutlaw03_SumRing: yours. -/
def turnoutlaw03_SumRing.Pure : Prop := (∀ (a0 : Int) (a1 : Int) (a2 : Int), (Lit.int .u16 a0).wf = true → (Lit.int .u16 a1).wf = true → (Lit.int .u16 a2).wf = true → ∃ k, turnoutlaw03_SumRing.f k a0 a1 a2 = some true) ∧ (∀ k r, turnoutlaw03_awake.f k = some r → r = true)
theorem turnoutlaw03_SumRing.walk (P : turnoutlaw03_SumRing.Pure) (a0 : Int) (a1 : Int) (a2 : Int) (w : World) (w0 : (Lit.int .u16 a0).wf = true) (w1 : (Lit.int .u16 a1).wf = true) (w2 : (Lit.int .u16 a2).wf = true) :
   Calls Try.prog 6 #[.int .u16 a0, .int .u16 a1, .int .u16 a2] w fun e w' => e = .returned (.bool true) ∧ Below w.heap.size w w' := by
  obtain ⟨k, h⟩ := P.1 a0 a1 a2 w0 w1 w2
  refine (turnoutlaw03_SumRing.calls k a0 a1 a2 true w h ⟨rfl⟩ ⟨P.2⟩).mono ?_
  rintro e w' ⟨rfl, hd⟩
  exact ⟨rfl, hd⟩

/-! ### turnoutlaw03_long: function 18 -/
def turnoutlaw03_long.l0 : Nat → List ByteArray → Int → Int → Option (Bool)
  | 0, _, _, _ => none
  | k + 1, x0, x3, x4 => if x4 < (x0.length : Int) then (if x3 < 40000 then (if 0 ≤ x4 then (turnoutlaw03_long.l0 k x0 (wrap64 ((wrap64 (x3 + 1)) + (mn 40000 ((rdOf ByteArray.empty x0 x4).size : Int)))) (wrap64 (x4 + 1))) else (none)) else (some (decide (x3 ≥ 40000)))) else (some (decide (x3 ≥ 40000)))
def turnoutlaw03_long.f (k : Nat) (l0 : List ByteArray) : Option (Bool) := turnoutlaw03_long.l0 k l0 0 0
theorem turnoutlaw03_long.mono_l : ∀ k, (∀ y0 y1 y2, LeO (turnoutlaw03_long.l0 k y0 y1 y2) (turnoutlaw03_long.l0 (k + 1) y0 y1 y2))
  | 0 => fun _ _ _ r h => by simp [turnoutlaw03_long.l0] at h
  | k + 1 => by
   have ih0 := turnoutlaw03_long.mono_l k
   ·
    intro y0 y1 y2
    unfold turnoutlaw03_long.l0
    repeat' first
    | (with_reducible exact ih0 _ _ _)
    | (with_reducible exact LeO.refl _)
    | (with_reducible exact LeO.none _)
    | (with_reducible refine LeO.ite ?_ ?_)
    | (with_reducible refine LeO.bind ?_ (fun _ => ?_))
    | exact ih0 _ _ _
    | exact LeO.none _
    | refine LeO.ite ?_ ?_
    | refine LeO.bind ?_ (fun _ => ?_)
theorem turnoutlaw03_long.mono : ∀ a0 k, LeO (turnoutlaw03_long.f k a0) (turnoutlaw03_long.f (k + 1) a0) := by
  intro a0 k
  have ih0 := turnoutlaw03_long.mono_l k
  unfold turnoutlaw03_long.f
  repeat' first
    | (with_reducible exact ih0 _ _ _)
    | (with_reducible exact LeO.refl _)
    | (with_reducible exact LeO.none _)
    | (with_reducible refine LeO.ite ?_ ?_)
    | (with_reducible refine LeO.bind ?_ (fun _ => ?_))
    | exact ih0 _ _ _
    | exact LeO.none _
    | refine LeO.ite ?_ ?_
    | refine LeO.bind ?_ (fun _ => ?_)
set_option maxHeartbeats 8000000 in
set_option maxRecDepth 100000 in
theorem turnoutlaw03_long.calls (k : Nat) (A0 : Option Addr) (c0 : Nat) (l0 : List ByteArray) (r : Bool) (w : World) (hr0 : Kd.C Kd.string w A0 l0.length l0) (hc0 : l0.length ≤ c0) (h : turnoutlaw03_long.f k l0 = some r) :
   Calls Try.prog 18 #[.slice A0 l0.length c0] w fun e w' => e = .returned (.bool r) ∧ Below w.heap.size w w' := by
  have HR0 := Aside0.mk hr0
  have HC0 := Aside0.mk hc0
  clear hr0 hc0
  have HB := Aside0.mk (Below.refl w.heap.size w)
  have H : (turnoutlaw03_long.l0 k l0 0 0) = some r := h
  clear h
  have H' := Aside0.mk H
  clear H
  go_enter Try.func18, Try.ntmps18
  go_wp2
  go_loopg [3, 4] k (fun kq v3 v4 w' => ∃ (x3_1 : Int) (x4_1 : Int), v3 = .int .i64 x3_1 ∧ v4 = .int .i64 x4_1 ∧ Aside0 (turnoutlaw03_long.l0 kq l0 x3_1 x4_1 = some r) ∧ Aside0 (kq ≤ k) ∧ Aside0 (Below w.heap.size w w'))
  case atStart => exact ⟨(0), (0), (by first | rfl | (simp; done) | (simp [*]; done)), (by first | rfl | (simp; done) | (simp [*]; done)), H', ⟨Nat.le_refl _⟩, ⟨by repeat (first | (with_reducible first | exact HB.out | apply below_alloc | apply pw_below_drewN | apply below_drew1) | exact HB.out)⟩⟩
  case round =>
   clear H'
   try clear c1
   obtain ⟨x3_1, x4_1, rfl, rfl, HA, HK1, HB⟩ := hrel
   cases gk with
   | zero => exact absurd HA.out (by simp [turnoutlaw03_long.l0])
   | succ k1 =>
    have H := HA.out
    clear HA
    simp only [turnoutlaw03_long.l0] at H
    by_cases c2 : x4_1 < (l0.length : Int)
    ·
     rw [if_pos c2] at H
     have c2b0 : decide (x4_1 < (l0.length : Int)) = true := decide_eq_true c2
     clear c2
     by_cases c3 : x3_1 < 40000
     ·
      rw [if_pos c3] at H
      have c3b0 : decide (x3_1 < 40000) = true := decide_eq_true c3
      clear c3
      by_cases c4 : 0 ≤ x4_1
      ·
       rw [if_pos c4] at H
       have c4b0 : decide (0 ≤ x4_1) = true := decide_eq_true c4
       clear c4
       obtain ⟨ji5, hji5⟩ : ∃ j_ : Int, (mn 40000 ((rdOf ByteArray.empty l0 x4_1).size : Int)) = j_ := ⟨_, rfl⟩
       replace H : (turnoutlaw03_long.l0 k1 l0 (wrap64 ((wrap64 (x3_1 + 1)) + (ji5))) (wrap64 (x4_1 + 1))) = some r := by first | (rw [hji5] at H; exact H) | (simp only [hji5] at H ⊢; exact H)
       have hji5_ : (if ((rdOf ByteArray.empty l0 x4_1).size : Int) < 40000 then ((rdOf ByteArray.empty l0 x4_1).size : Int) else 40000) = ji5 := hji5
       have H' := Aside0.mk H
       clear H
       have p155 : 0 ≤ (x4_1 : Int) := of_decide_eq_true (by first | (with_reducible assumption) | assumption)
       have q155 : x4_1 < (l0.length : Int) := of_decide_eq_true (by first | (with_reducible assumption) | assumption)
       obtain ⟨ad155, e155, hx155_0⟩ := Kd.at_string HR0.out x4_1 p155 q155
       cases e155
       replace hx155_0 := (HB.out.cell (World.block_lt_of_cell? w _ hx155_0)).trans hx155_0
       replace p155 := eq_true p155
       replace q155 := eq_true q155
       go_wp2
       go_roundg k1
       case measure => have := HK1.out; omega
       case rel => exact ⟨(wrap64 ((wrap64 (x3_1 + 1)) + (ji5))), (wrap64 (x4_1 + 1)), (by first | rfl | (simp; done) | (simp only [← hji5] <;> (first | rfl | simp)) | (simp [*]; done)), (by first | rfl | (simp; done) | (simp [*]; done)), H', ⟨by have := HK1.out; omega⟩, ⟨by repeat (first | (with_reducible first | exact HB.out | apply below_alloc | apply pw_below_drewN | apply below_drew1) | exact HB.out)⟩⟩
      ·
       rw [if_neg c4] at H
       exact absurd H (by simp)
     ·
      rw [if_neg c3] at H
      have c3b0 : decide (x3_1 < 40000) = false := decide_eq_false c3
      clear c3
      obtain rfl := Option.some.inj H
      go_wp2
      go_ret
      exact ⟨by first | rfl | (simp [errW_none, errW_some] <;> rfl) | (simp [*, errW_none, errW_some] <;> rfl), by repeat (first | (with_reducible first | exact HB.out | apply below_alloc | apply pw_below_drewN | apply below_drew1) | exact HB.out)⟩
    ·
     rw [if_neg c2] at H
     have c2b0 : decide (x4_1 < (l0.length : Int)) = false := decide_eq_false c2
     clear c2
     obtain rfl := Option.some.inj H
     go_wp2
     go_ret
     exact ⟨by first | rfl | (simp [errW_none, errW_some] <;> rfl) | (simp [*, errW_none, errW_some] <;> rfl), by repeat (first | (with_reducible first | exact HB.out | apply below_alloc | apply pw_below_drewN | apply below_drew1) | exact HB.out)⟩

/-! ### turnoutlaw03_turned: function 24 -/
def turnoutlaw03_turned.f (a0 : Int) : Option (Int) := some (Go.bits .or .u16 (IntKind.u16.wrap (a0 * 256)) (a0 / 256))
set_option maxHeartbeats 8000000 in
set_option maxRecDepth 100000 in
theorem turnoutlaw03_turned.calls (a0 : Int) (r : Int) (w : World) (h : turnoutlaw03_turned.f a0 = some r) :
   Calls Try.prog 24 #[.int .u16 a0] w fun e w' => e = .returned (.int .u16 r) ∧ Drawn0 w w' := by
  have H : (some (Go.bits .or .u16 (IntKind.u16.wrap (a0 * 256)) (a0 / 256))) = some r := h
  clear h
  obtain rfl := Option.some.inj H
  go_enter Try.func24, Try.ntmps24
  go_wp2
  go_ret
  exact ⟨by first | rfl | (simp; done) | (simp [*]; done), by repeat (first | exact Drawn0.refl _ | apply Drawn0.step)⟩

/-! ### turnoutlaw03_SumParts: function 7 -/
mutual
def turnoutlaw03_SumParts.j0 : Nat → ByteArray → ByteArray → Bool → Option (Bool)
  | 0, _, _, _ => none
  | k + 1, x0, x1, x14 => if x14 = true then ((turnoutlaw03_awake.f k).bind fun t161 => (some t161)) else ((sum_Sum.f k (([x1] : List ByteArray))).bind fun t165 => (if ((x0.size : Int) % 2) = 1 then ((turnoutlaw03_turned.f t165).bind fun t166 => (turnoutlaw03_SumParts.j1 k x0 x1 t166)) else (turnoutlaw03_SumParts.j1 k x0 x1 t165)))
def turnoutlaw03_SumParts.j1 : Nat → ByteArray → ByteArray → Int → Option (Bool)
  | 0, _, _, _ => none
  | k + 1, x0, x1, x5 => (sum_Sum.f k (([x0] : List ByteArray))).bind fun t170 => ((sum_Add.f k t170 x5).bind fun t171 => (if x0.size + x1.size ≤ 9223372036854775807 then ((sum_Sum.f k (([(x0 ++ x1)] : List ByteArray))).bind fun t176 => (if t176 = t171 then ((sum_Sum.f k (([x0, x1] : List ByteArray))).bind fun t180 => (if t180 = t171 then ((sum_Sum.f k (([(⟨#[]⟩ : ByteArray), x0, (⟨#[]⟩ : ByteArray), x1, (⟨#[]⟩ : ByteArray)] : List ByteArray))).bind fun t184 => (if t184 = t171 then ((sum_Of.f k (([x0, x1] : List ByteArray))).bind fun t188 => (some (t188 == (Go.bits .xor .u16 65535 t171)))) else (some false))) else (some false))) else (some false))) else (none)))
end
def turnoutlaw03_SumParts.f (k : Nat) (a0 : ByteArray) (a1 : ByteArray) : Option (Bool) := (turnoutlaw03_long.f k (([a0, a1] : List ByteArray))).bind fun t159 => (if t159 = true then (turnoutlaw03_SumParts.j0 k a0 a1 true) else ((turnoutlaw03_awake.f k).bind fun t160 => (turnoutlaw03_SumParts.j0 k a0 a1 (!t160))))
theorem turnoutlaw03_SumParts.mono_l : ∀ k, (∀ y0 y1 y2, LeO (turnoutlaw03_SumParts.j0 k y0 y1 y2) (turnoutlaw03_SumParts.j0 (k + 1) y0 y1 y2)) ∧ (∀ y0 y1 y2, LeO (turnoutlaw03_SumParts.j1 k y0 y1 y2) (turnoutlaw03_SumParts.j1 (k + 1) y0 y1 y2))
  | 0 => ⟨fun _ _ _ r h => by simp [turnoutlaw03_SumParts.j0] at h, fun _ _ _ r h => by simp [turnoutlaw03_SumParts.j1] at h⟩
  | k + 1 => by
   obtain ⟨ih0, ih1⟩ := turnoutlaw03_SumParts.mono_l k
   refine ⟨?_, ?_⟩
   ·
    intro y0 y1 y2
    unfold turnoutlaw03_SumParts.j0
    repeat' first
    | (with_reducible exact ih0 _ _ _)
    | (with_reducible exact ih1 _ _ _)
    | (with_reducible exact sum_Add.mono _ _ _)
    | (with_reducible exact sum_Of.mono _ _)
    | (with_reducible exact sum_Sum.mono _ _)
    | (with_reducible exact turnoutlaw03_awake.mono _)
    | (with_reducible exact turnoutlaw03_long.mono _ _)
    | (with_reducible exact LeO.refl _)
    | (with_reducible exact LeO.none _)
    | (with_reducible refine LeO.ite ?_ ?_)
    | (with_reducible refine LeO.bind ?_ (fun _ => ?_))
    | exact ih0 _ _ _
    | exact ih1 _ _ _
    | exact sum_Add.mono _ _ _
    | exact sum_Of.mono _ _
    | exact sum_Sum.mono _ _
    | exact turnoutlaw03_awake.mono _
    | exact turnoutlaw03_long.mono _ _
    | exact LeO.none _
    | refine LeO.ite ?_ ?_
    | refine LeO.bind ?_ (fun _ => ?_)
   ·
    intro y0 y1 y2
    unfold turnoutlaw03_SumParts.j1
    repeat' first
    | (with_reducible exact ih0 _ _ _)
    | (with_reducible exact ih1 _ _ _)
    | (with_reducible exact sum_Add.mono _ _ _)
    | (with_reducible exact sum_Of.mono _ _)
    | (with_reducible exact sum_Sum.mono _ _)
    | (with_reducible exact turnoutlaw03_awake.mono _)
    | (with_reducible exact turnoutlaw03_long.mono _ _)
    | (with_reducible exact LeO.refl _)
    | (with_reducible exact LeO.none _)
    | (with_reducible refine LeO.ite ?_ ?_)
    | (with_reducible refine LeO.bind ?_ (fun _ => ?_))
    | exact ih0 _ _ _
    | exact ih1 _ _ _
    | exact sum_Add.mono _ _ _
    | exact sum_Of.mono _ _
    | exact sum_Sum.mono _ _
    | exact turnoutlaw03_awake.mono _
    | exact turnoutlaw03_long.mono _ _
    | exact LeO.none _
    | refine LeO.ite ?_ ?_
    | refine LeO.bind ?_ (fun _ => ?_)
theorem turnoutlaw03_SumParts.mono : ∀ a0 a1 k, LeO (turnoutlaw03_SumParts.f k a0 a1) (turnoutlaw03_SumParts.f (k + 1) a0 a1) := by
  intro a0 a1 k
  obtain ⟨ih0, ih1⟩ := turnoutlaw03_SumParts.mono_l k
  unfold turnoutlaw03_SumParts.f
  repeat' first
    | (with_reducible exact ih0 _ _ _)
    | (with_reducible exact ih1 _ _ _)
    | (with_reducible exact sum_Add.mono _ _ _)
    | (with_reducible exact sum_Of.mono _ _)
    | (with_reducible exact sum_Sum.mono _ _)
    | (with_reducible exact turnoutlaw03_awake.mono _)
    | (with_reducible exact turnoutlaw03_long.mono _ _)
    | (with_reducible exact LeO.refl _)
    | (with_reducible exact LeO.none _)
    | (with_reducible refine LeO.ite ?_ ?_)
    | (with_reducible refine LeO.bind ?_ (fun _ => ?_))
    | exact ih0 _ _ _
    | exact ih1 _ _ _
    | exact sum_Add.mono _ _ _
    | exact sum_Of.mono _ _
    | exact sum_Sum.mono _ _
    | exact turnoutlaw03_awake.mono _
    | exact turnoutlaw03_long.mono _ _
    | exact LeO.none _
    | refine LeO.ite ?_ ?_
    | refine LeO.bind ?_ (fun _ => ?_)
set_option maxHeartbeats 8000000 in
set_option maxRecDepth 100000 in
theorem turnoutlaw03_SumParts.calls (k : Nat) (a0 : ByteArray) (a1 : ByteArray) (r : Bool) (w : World) (h : turnoutlaw03_SumParts.f k a0 a1 = some r) (hr_ : Aside0 (r = true)) (HAW12 : Aside0 (∀ k r, turnoutlaw03_awake.f k = some r → r = true)) :
   Calls Try.prog 7 #[.string a0, .string a1] w fun e w' => e = .returned (.bool r) ∧ Below w.heap.size w w' := by
  have HB := Aside0.mk (Below.refl w.heap.size w)
  have H : ((turnoutlaw03_long.f k (([a0, a1] : List ByteArray))).bind fun t159 => (if t159 = true then (turnoutlaw03_SumParts.j0 k a0 a1 true) else ((turnoutlaw03_awake.f k).bind fun t160 => (turnoutlaw03_SumParts.j0 k a0 a1 (!t160))))) = some r := h
  clear h
  have HC3 := Aside0.mk H
  clear H
  go_enter Try.func7, Try.ntmps7
  go_upto_region 1 with (fail)
  go_cut [14] (fun v14 wc => ∃ (kq : Nat) (x14_2 : Bool), v14 = .bool x14_2 ∧ Aside0 (turnoutlaw03_SumParts.j0 kq a0 a1 x14_2 = some r) ∧ Aside0 (kq ≤ k) ∧ Aside0 (Below w.heap.size w wc))
  case first =>
   have H := HC3.out
   clear HC3
   obtain ⟨y156, hy156⟩ : ∃ y_ : List ByteArray, y_ = (([a0, a1] : List ByteArray)) := ⟨_, rfl⟩
   replace H : ((turnoutlaw03_long.f k y156).bind fun t159 => (if t159 = true then (turnoutlaw03_SumParts.j0 k a0 a1 true) else ((turnoutlaw03_awake.f k).bind fun t160 => (turnoutlaw03_SumParts.j0 k a0 a1 (!t160))))) = some r := by first | (rw [hy156]; with_reducible exact H) | (have H2_ := (Option.bind_some _ _).symm.trans H; rw [hy156]; with_reducible exact H2_) | (have H2_ := (Option.bind_some _ _).symm.trans H; with_reducible exact H2_) | with_reducible exact H | (rw [hy156]; exact H) | exact H
   have Ny156 := Aside0.mk hy156
   clear hy156
   replace H := Option.bind_eq_some_iff.mp H
   obtain ⟨t159, A40, H⟩ := H
   replace H : (if t159 = true then (turnoutlaw03_SumParts.j0 k a0 a1 true) else ((turnoutlaw03_awake.f k).bind fun t160 => (turnoutlaw03_SumParts.j0 k a0 a1 (!t160)))) = some r := H
   have A4 := Aside0.mk A40
   clear A40
   by_cases c5 : t159 = true
   ·
    subst c5
    have H1 : (turnoutlaw03_SumParts.j0 k a0 a1 true) = some r := by rw [if_pos rfl] at H; exact H
    clear H; have H := H1; clear H1
    have H' := Aside0.mk H
    clear H
    go_wp2_with (first | ((with_reducible refine gate_dst (N := 9) rfl ?_); (try (refine gate_guard (by rfl) ?_; dsimp only)); refine Kd.R_lit Kd.string _ 9 ?hg (N := 9) ?hd (xs := ([a0, a1] : List ByteArray)) (inner := [.string a0, .string a1]) (ok := fun _ => True) (okp := fun _ => True) ?hr ?hp (fun _ hk => hk) trivial (Below.refl _ _) (Nat.le_refl _) (by simp) ?_; (case hd => rfl); (case hg => rfl); (case hr => first | (go_simp; done) | (go_simp; rfl)); (case hp => exact (Reps.one (show Kd.M Kd.string _ _ _ a0 [.string a0] from rfl) (Reps.one (show Kd.M Kd.string _ _ _ a1 [.string a1] from rfl) (Reps.none _ _)))); intro v157 w6 ho7 hb hg_ hnew_; clear hg_ hnew_; (first | rw [← Ny156.out] at ho7 | (simp only [Int.reduceToNat] at ho7; rw [← Ny156.out] at ho7)); have HO158 := Aside0.mk (Kd.R_lower ho7 (below_size (by repeat (first | (with_reducible first | exact HB.out | apply below_alloc | apply pw_below_drewN | apply below_drew1) | exact HB.out)))); replace HB := Aside0.mk (below_step (by repeat (first | (with_reducible first | exact HB.out | apply below_alloc | apply pw_below_drewN | apply below_drew1) | exact HB.out)) hb); clear hb ho7; obtain ⟨Ao8, co8, eo8⟩ := Kd.R_slice HO158.out; subst eo8) | ((with_reducible refine gate_callee (f := 18) rfl ?_); refine goesL_ (some 10) rfl rfl Try.func18 (by kernel_rfl) rfl #[.slice Ao8 y156.length co8] rfl (by (try simp only [List.map_toArray, List.map_cons, List.map_nil]); first | done | rfl | (simp only [List.length_drop, List.length_take]; rfl)) ?_; (with_reducible refine (turnoutlaw03_long.calls k _ _ y156 true _ ?side1 ?side2 A4.out).mono ?_); (case side1 => repeat (first | exact (Kd.R_reads' HO158.out).2.2 | (with_reducible refine Kd.C_alloc ?_ _) | (with_reducible refine Kd.C_drewN ?_ _) | (with_reducible refine Kd.C_drew ?_))); (case side2 => exact (Kd.R_reads' HO158.out).2.1); rintro e w9 ⟨rfl, hb⟩; refine ⟨_, rfl, ?_⟩; replace HO158 := Aside0.mk (Kd.R_below (by (with_reducible repeat (first | apply Kd.R_alloc | apply Kd.R_drewN | apply Kd.R_drew)); exact HO158.out) hb); replace HB := Aside0.mk (below_step (by repeat (first | (with_reducible first | exact HB.out | apply below_alloc | apply pw_below_drewN | apply below_drew1) | exact HB.out)) hb); (try clear hb); (try clear hb2); (try clear hk); (try clear hi)))
    go_meet
    case rel => exact ⟨_, (true), (by first | rfl | (simp; done) | (simp [*]; done)), H', ⟨by first | omega | exact Nat.le_refl _⟩, ⟨by repeat (first | (with_reducible first | exact HB.out | apply below_alloc | apply pw_below_drewN | apply below_drew1) | exact HB.out)⟩⟩
   ·
    replace c5 := Bool.eq_false_iff.mpr c5
    subst c5
    have H1 : ((turnoutlaw03_awake.f k).bind fun t160 => (turnoutlaw03_SumParts.j0 k a0 a1 (!t160))) = some r := by rw [if_neg (show ¬ (false = true) by decide)] at H; exact H
    clear H; have H := H1; clear H1
    replace H := Option.bind_eq_some_iff.mp H
    obtain ⟨t160, A100, H⟩ := H
    replace H : (turnoutlaw03_SumParts.j0 k a0 a1 (!t160)) = some r := H
    have A10 := Aside0.mk A100
    clear A100
    have H' := Aside0.mk H
    clear H
    go_wp2_with (first | ((with_reducible refine gate_dst (N := 9) rfl ?_); (try (refine gate_guard (by rfl) ?_; dsimp only)); refine Kd.R_lit Kd.string _ 9 ?hg (N := 9) ?hd (xs := ([a0, a1] : List ByteArray)) (inner := [.string a0, .string a1]) (ok := fun _ => True) (okp := fun _ => True) ?hr ?hp (fun _ hk => hk) trivial (Below.refl _ _) (Nat.le_refl _) (by simp) ?_; (case hd => rfl); (case hg => rfl); (case hr => first | (go_simp; done) | (go_simp; rfl)); (case hp => exact (Reps.one (show Kd.M Kd.string _ _ _ a0 [.string a0] from rfl) (Reps.one (show Kd.M Kd.string _ _ _ a1 [.string a1] from rfl) (Reps.none _ _)))); intro v157 w11 ho12 hb hg_ hnew_; clear hg_ hnew_; (first | rw [← Ny156.out] at ho12 | (simp only [Int.reduceToNat] at ho12; rw [← Ny156.out] at ho12)); have HO158 := Aside0.mk (Kd.R_lower ho12 (below_size (by repeat (first | (with_reducible first | exact HB.out | apply below_alloc | apply pw_below_drewN | apply below_drew1) | exact HB.out)))); replace HB := Aside0.mk (below_step (by repeat (first | (with_reducible first | exact HB.out | apply below_alloc | apply pw_below_drewN | apply below_drew1) | exact HB.out)) hb); clear hb ho12; obtain ⟨Ao13, co13, eo13⟩ := Kd.R_slice HO158.out; subst eo13) | ((with_reducible refine gate_callee (f := 18) rfl ?_); refine goesL_ (some 10) rfl rfl Try.func18 (by kernel_rfl) rfl #[.slice Ao13 y156.length co13] rfl (by (try simp only [List.map_toArray, List.map_cons, List.map_nil]); first | done | rfl | (simp only [List.length_drop, List.length_take]; rfl)) ?_; (with_reducible refine (turnoutlaw03_long.calls k _ _ y156 false _ ?side1 ?side2 A4.out).mono ?_); (case side1 => repeat (first | exact (Kd.R_reads' HO158.out).2.2 | (with_reducible refine Kd.C_alloc ?_ _) | (with_reducible refine Kd.C_drewN ?_ _) | (with_reducible refine Kd.C_drew ?_))); (case side2 => exact (Kd.R_reads' HO158.out).2.1); rintro e w14 ⟨rfl, hb⟩; refine ⟨_, rfl, ?_⟩; replace HO158 := Aside0.mk (Kd.R_below (by (with_reducible repeat (first | apply Kd.R_alloc | apply Kd.R_drewN | apply Kd.R_drew)); exact HO158.out) hb); replace HB := Aside0.mk (below_step (by repeat (first | (with_reducible first | exact HB.out | apply below_alloc | apply pw_below_drewN | apply below_drew1) | exact HB.out)) hb); (try clear hb); (try clear hb2); (try clear hk); (try clear hi)) | (go_at_call 12; (with_reducible refine (turnoutlaw03_awake.calls k  t160 _ A10.out ⟨HAW12.out _ _ A10.out⟩).mono ?_); rintro e w15 ⟨rfl, hb⟩; replace HO158 := Aside0.mk (Kd.R_below (by (with_reducible repeat (first | apply Kd.R_alloc | apply Kd.R_drewN | apply Kd.R_drew)); exact HO158.out) hb); replace HB := Aside0.mk (below_step (by repeat (first | (with_reducible first | exact HB.out | apply below_alloc | apply pw_below_drewN | apply below_drew1) | exact HB.out)) hb); (try clear hb); (try clear hb2); (try clear hk); (try clear hi)))
    go_meet
    case rel => exact ⟨_, (!t160), (by first | rfl | (simp; done) | (simp [*]; done)), H', ⟨by first | omega | exact Nat.le_refl _⟩, ⟨by repeat (first | (with_reducible first | exact HB.out | apply below_alloc | apply pw_below_drewN | apply below_drew1) | exact HB.out)⟩⟩
  case rest =>
   clear HC3
   try clear c1
   try clear p2
   try clear c5
   try clear c7
   obtain ⟨kq, x14_2, rfl, HA, HJ2, HB⟩ := hcut
   cases kq with
   | zero => exact absurd HA.out (by simp [turnoutlaw03_SumParts.j0])
   | succ kj2 =>
    have H := HA.out
    clear HA
    simp only [turnoutlaw03_SumParts.j0] at H
    by_cases c16 : x14_2 = true
    ·
     subst c16
     have H1 : ((turnoutlaw03_awake.f kj2).bind fun t161 => (some t161)) = some r := by rw [if_pos rfl] at H; exact H
     clear H; have H := H1; clear H1
     replace H := Option.bind_eq_some_iff.mp H
     obtain ⟨t161, A170, H⟩ := H
     replace H : (some t161) = some r := H
     have A17 := Aside0.mk A170
     clear A170
     obtain rfl := Option.some.inj H
     go_wp2_with (first | ((with_reducible refine gate_callee (f := 12) rfl ?_); refine goesL_ (some 15) rfl rfl Try.func12 (by kernel_rfl) rfl #[] rfl (by (try simp only [List.map_toArray, List.map_cons, List.map_nil]); first | done | rfl | (simp only [List.length_drop, List.length_take]; rfl)) ?_; (with_reducible refine (turnoutlaw03_awake.calls kj2  t161 _ A17.out ⟨HAW12.out _ _ A17.out⟩).mono ?_); rintro e w18 ⟨rfl, hb⟩; refine ⟨_, rfl, ?_⟩; replace HB := Aside0.mk (below_step (by repeat (first | (with_reducible first | exact HB.out | apply below_alloc | apply pw_below_drewN | apply below_drew1) | exact HB.out)) hb); (try clear hb); (try clear hb2); (try clear hk); (try clear hi)))
     go_ret
     exact ⟨by first | rfl | (simp [errW_none, errW_some] <;> rfl) | (simp [*, errW_none, errW_some] <;> rfl), by repeat (first | (with_reducible first | exact HB.out | apply below_alloc | apply pw_below_drewN | apply below_drew1) | exact HB.out)⟩
    ·
     replace c16 := Bool.eq_false_iff.mpr c16
     subst c16
     have H1 : ((sum_Sum.f kj2 (([a1] : List ByteArray))).bind fun t165 => (if ((a0.size : Int) % 2) = 1 then ((turnoutlaw03_turned.f t165).bind fun t166 => (turnoutlaw03_SumParts.j1 kj2 a0 a1 t166)) else (turnoutlaw03_SumParts.j1 kj2 a0 a1 t165))) = some r := by rw [if_neg (show ¬ (false = true) by decide)] at H; exact H
     clear H; have H := H1; clear H1
     obtain ⟨y162, hy162⟩ : ∃ y_ : List ByteArray, y_ = (([a1] : List ByteArray)) := ⟨_, rfl⟩
     replace H : ((sum_Sum.f kj2 y162).bind fun t165 => (if ((a0.size : Int) % 2) = 1 then ((turnoutlaw03_turned.f t165).bind fun t166 => (turnoutlaw03_SumParts.j1 kj2 a0 a1 t166)) else (turnoutlaw03_SumParts.j1 kj2 a0 a1 t165))) = some r := by first | (rw [hy162]; with_reducible exact H) | (have H2_ := (Option.bind_some _ _).symm.trans H; rw [hy162]; with_reducible exact H2_) | (have H2_ := (Option.bind_some _ _).symm.trans H; with_reducible exact H2_) | with_reducible exact H | (rw [hy162]; exact H) | exact H
     have Ny162 := Aside0.mk hy162
     clear hy162
     replace H := Option.bind_eq_some_iff.mp H
     obtain ⟨t165, A190, H⟩ := H
     replace H : (if ((a0.size : Int) % 2) = 1 then ((turnoutlaw03_turned.f t165).bind fun t166 => (turnoutlaw03_SumParts.j1 kj2 a0 a1 t166)) else (turnoutlaw03_SumParts.j1 kj2 a0 a1 t165)) = some r := H
     have A19 := Aside0.mk A190
     clear A190
     have HC20 := Aside0.mk H
     clear H
     go_upto_if 22 with (first | ((with_reducible refine gate_dst (N := 17) rfl ?_); (try (refine gate_guard (by rfl) ?_; dsimp only)); refine Kd.R_lit Kd.string _ 9 ?hg (N := 17) ?hd (xs := ([a1] : List ByteArray)) (inner := [.string a1]) (ok := fun _ => True) (okp := fun _ => True) ?hr ?hp (fun _ hk => hk) trivial (Below.refl _ _) (Nat.le_refl _) (by simp) ?_; (case hd => rfl); (case hg => rfl); (case hr => first | (go_simp; done) | (go_simp; rfl)); (case hp => exact (Reps.one (show Kd.M Kd.string _ _ _ a1 [.string a1] from rfl) (Reps.none _ _))); intro v163 w21 ho22 hb hg_ hnew_; clear hg_ hnew_; (first | rw [← Ny162.out] at ho22 | (simp only [Int.reduceToNat] at ho22; rw [← Ny162.out] at ho22)); have HO164 := Aside0.mk (Kd.R_lower ho22 (below_size (by repeat (first | (with_reducible first | exact HB.out | apply below_alloc | apply pw_below_drewN | apply below_drew1) | exact HB.out)))); replace HB := Aside0.mk (below_step (by repeat (first | (with_reducible first | exact HB.out | apply below_alloc | apply pw_below_drewN | apply below_drew1) | exact HB.out)) hb); clear hb ho22; obtain ⟨Ao23, co23, eo23⟩ := Kd.R_slice HO164.out; subst eo23) | ((with_reducible refine gate_callee (f := 13) rfl ?_); refine goesL_ (some 18) rfl rfl Try.func13 (by kernel_rfl) rfl #[.slice Ao23 y162.length co23] rfl (by (try simp only [List.map_toArray, List.map_cons, List.map_nil]); first | done | rfl | (simp only [List.length_drop, List.length_take]; rfl)) ?_; (with_reducible refine (sum_Sum.calls kj2 _ _ y162 t165 _ ?side1 ?side2 A19.out).mono ?_); (case side1 => repeat (first | exact (Kd.R_reads' HO164.out).2.2 | (with_reducible refine Kd.C_alloc ?_ _) | (with_reducible refine Kd.C_drewN ?_ _) | (with_reducible refine Kd.C_drew ?_))); (case side2 => exact (Kd.R_reads' HO164.out).2.1); rintro e w' ⟨rfl, ⟨nd, rfl⟩⟩; refine ⟨_, rfl, ?_⟩))
     (try simp only [Act.put, List.setIfInBounds_toArray, List.set_cons_zero, List.set_cons_succ])
     go_cut [5] (fun v5 wc => ∃ (kq : Nat) (x5_19 : Int), v5 = .int .u16 x5_19 ∧ Aside0 (turnoutlaw03_SumParts.j1 kq a0 a1 x5_19 = some r) ∧ Aside0 (kq ≤ kj2) ∧ Aside0 (Below w.heap.size w wc))
     case first =>
      have H := HC20.out
      clear HC20
      by_cases c24 : ((a0.size : Int) % 2) = 1
      ·
       rw [if_pos c24] at H
       have c24b0 : (((a0.size : Int) % 2) == 1) = true := beq_iff_eq.mpr c24
       have c24b1 : (((a0.size : Int) % 2) != 1) = false := bne_eq_false_iff_eq.mpr c24
       clear c24
       (first | rw [c24b0] | (simp only [i64_w, i32_w]; rw [c24b0]) | skip)
       replace H := Option.bind_eq_some_iff.mp H
       obtain ⟨t166, A250, H⟩ := H
       replace H : (turnoutlaw03_SumParts.j1 kj2 a0 a1 t166) = some r := H
       have A25 := Aside0.mk A250
       clear A250
       have H' := Aside0.mk H
       clear H
       go_wp2_with (first | ((with_reducible refine gate_callee (f := 24) rfl ?_); refine goesL_ (some 24) rfl rfl Try.func24 (by kernel_rfl) rfl #[.int .u16 t165] rfl (by (try simp only [List.map_toArray, List.map_cons, List.map_nil]); first | done | rfl | (simp only [List.length_drop, List.length_take]; rfl)) ?_; (with_reducible refine (turnoutlaw03_turned.calls t165 t166 _ A25.out).mono ?_); rintro e w' ⟨rfl, ⟨nd, rfl⟩⟩; refine ⟨_, rfl, ?_⟩))
       go_meet
       case rel => exact ⟨_, (t166), (by first | rfl | (simp; done) | (simp [*]; done)), H', ⟨by have := HJ2.out; first | omega | exact Nat.le_refl _⟩, ⟨by repeat (first | (with_reducible first | exact HB.out | apply below_alloc | apply pw_below_drewN | apply below_drew1) | exact HB.out)⟩⟩
      ·
       rw [if_neg c24] at H
       have c24b0 : (((a0.size : Int) % 2) == 1) = false := beq_eq_false_iff_ne.mpr c24
       have c24b1 : (((a0.size : Int) % 2) != 1) = true := bne_iff_ne.mpr c24
       (first | rw [c24b0] | (simp only [i64_w, i32_w]; rw [c24b0]) | skip)
       have H' := Aside0.mk H
       clear H
       go_wp2
       go_meet
       case rel => exact ⟨_, (t165), (by first | rfl | (simp; done) | (simp [*]; done)), H', ⟨by have := HJ2.out; first | omega | exact Nat.le_refl _⟩, ⟨by repeat (first | (with_reducible first | exact HB.out | apply below_alloc | apply pw_below_drewN | apply below_drew1) | exact HB.out)⟩⟩
     case rest =>
      clear HC20
      try clear c1
      try clear c2
      try clear p2
      try clear c5
      try clear c7
      try clear c12
      try clear c13
      try clear c16
      try clear c18
      try clear c24
      try clear c24b0
      try clear c24b1
      try clear p2
      obtain ⟨kq, x5_19, rfl, HA, HJ19, HB⟩ := hcut
      cases kq with
      | zero => exact absurd HA.out (by simp [turnoutlaw03_SumParts.j1])
      | succ kj19 =>
       have H := HA.out
       clear HA
       simp only [turnoutlaw03_SumParts.j1] at H
       obtain ⟨y167, hy167⟩ : ∃ y_ : List ByteArray, y_ = (([a0] : List ByteArray)) := ⟨_, rfl⟩
       replace H : ((sum_Sum.f kj19 y167).bind fun t170 => ((sum_Add.f kj19 t170 x5_19).bind fun t171 => (if a0.size + a1.size ≤ 9223372036854775807 then ((sum_Sum.f kj19 (([(a0 ++ a1)] : List ByteArray))).bind fun t176 => (if t176 = t171 then ((sum_Sum.f kj19 (([a0, a1] : List ByteArray))).bind fun t180 => (if t180 = t171 then ((sum_Sum.f kj19 (([(⟨#[]⟩ : ByteArray), a0, (⟨#[]⟩ : ByteArray), a1, (⟨#[]⟩ : ByteArray)] : List ByteArray))).bind fun t184 => (if t184 = t171 then ((sum_Of.f kj19 (([a0, a1] : List ByteArray))).bind fun t188 => (some (t188 == (Go.bits .xor .u16 65535 t171)))) else (some false))) else (some false))) else (some false))) else (none)))) = some r := by first | (rw [hy167]; with_reducible exact H) | (have H2_ := (Option.bind_some _ _).symm.trans H; rw [hy167]; with_reducible exact H2_) | (have H2_ := (Option.bind_some _ _).symm.trans H; with_reducible exact H2_) | with_reducible exact H | (rw [hy167]; exact H) | exact H
       have Ny167 := Aside0.mk hy167
       clear hy167
       replace H := Option.bind_eq_some_iff.mp H
       obtain ⟨t170, A260, H⟩ := H
       replace H : ((sum_Add.f kj19 t170 x5_19).bind fun t171 => (if a0.size + a1.size ≤ 9223372036854775807 then ((sum_Sum.f kj19 (([(a0 ++ a1)] : List ByteArray))).bind fun t176 => (if t176 = t171 then ((sum_Sum.f kj19 (([a0, a1] : List ByteArray))).bind fun t180 => (if t180 = t171 then ((sum_Sum.f kj19 (([(⟨#[]⟩ : ByteArray), a0, (⟨#[]⟩ : ByteArray), a1, (⟨#[]⟩ : ByteArray)] : List ByteArray))).bind fun t184 => (if t184 = t171 then ((sum_Of.f kj19 (([a0, a1] : List ByteArray))).bind fun t188 => (some (t188 == (Go.bits .xor .u16 65535 t171)))) else (some false))) else (some false))) else (some false))) else (none))) = some r := H
       have A26 := Aside0.mk A260
       clear A260
       replace H := Option.bind_eq_some_iff.mp H
       obtain ⟨t171, A270, H⟩ := H
       replace H : (if a0.size + a1.size ≤ 9223372036854775807 then ((sum_Sum.f kj19 (([(a0 ++ a1)] : List ByteArray))).bind fun t176 => (if t176 = t171 then ((sum_Sum.f kj19 (([a0, a1] : List ByteArray))).bind fun t180 => (if t180 = t171 then ((sum_Sum.f kj19 (([(⟨#[]⟩ : ByteArray), a0, (⟨#[]⟩ : ByteArray), a1, (⟨#[]⟩ : ByteArray)] : List ByteArray))).bind fun t184 => (if t184 = t171 then ((sum_Of.f kj19 (([a0, a1] : List ByteArray))).bind fun t188 => (some (t188 == (Go.bits .xor .u16 65535 t171)))) else (some false))) else (some false))) else (some false))) else (none)) = some r := H
       have A27 := Aside0.mk A270
       clear A270
       by_cases c28 : a0.size + a1.size ≤ 9223372036854775807
       ·
        rw [if_pos c28] at H
        have c28b0 := eq_true c28
        have c28b1 : decide (a0.size + a1.size ≤ 9223372036854775807) = true := decide_eq_true c28
        try have c28b2 : (9223372036854775807 < a0.size + a1.size) = False := eq_false (Nat.not_lt.2 c28)
        obtain ⟨y172, hy172⟩ : ∃ y_ : ByteArray, (a0 ++ a1) = y_ := ⟨_, rfl⟩
        replace H : ((sum_Sum.f kj19 (([y172] : List ByteArray))).bind fun t176 => (if t176 = t171 then ((sum_Sum.f kj19 (([a0, a1] : List ByteArray))).bind fun t180 => (if t180 = t171 then ((sum_Sum.f kj19 (([(⟨#[]⟩ : ByteArray), a0, (⟨#[]⟩ : ByteArray), a1, (⟨#[]⟩ : ByteArray)] : List ByteArray))).bind fun t184 => (if t184 = t171 then ((sum_Of.f kj19 (([a0, a1] : List ByteArray))).bind fun t188 => (some (t188 == (Go.bits .xor .u16 65535 t171)))) else (some false))) else (some false))) else (some false))) = some r := by first | (rw [← hy172]; exact H) | exact H
        obtain ⟨y173, hy173⟩ : ∃ y_ : List ByteArray, y_ = (([y172] : List ByteArray)) := ⟨_, rfl⟩
        replace H : ((sum_Sum.f kj19 y173).bind fun t176 => (if t176 = t171 then ((sum_Sum.f kj19 (([a0, a1] : List ByteArray))).bind fun t180 => (if t180 = t171 then ((sum_Sum.f kj19 (([(⟨#[]⟩ : ByteArray), a0, (⟨#[]⟩ : ByteArray), a1, (⟨#[]⟩ : ByteArray)] : List ByteArray))).bind fun t184 => (if t184 = t171 then ((sum_Of.f kj19 (([a0, a1] : List ByteArray))).bind fun t188 => (some (t188 == (Go.bits .xor .u16 65535 t171)))) else (some false))) else (some false))) else (some false))) = some r := by first | (rw [hy173]; with_reducible exact H) | (have H2_ := (Option.bind_some _ _).symm.trans H; rw [hy173]; with_reducible exact H2_) | (have H2_ := (Option.bind_some _ _).symm.trans H; with_reducible exact H2_) | with_reducible exact H | (rw [hy173]; exact H) | exact H
        have Ny173 := Aside0.mk hy173
        clear hy173
        replace H := Option.bind_eq_some_iff.mp H
        obtain ⟨t176, A290, H⟩ := H
        replace H : (if t176 = t171 then ((sum_Sum.f kj19 (([a0, a1] : List ByteArray))).bind fun t180 => (if t180 = t171 then ((sum_Sum.f kj19 (([(⟨#[]⟩ : ByteArray), a0, (⟨#[]⟩ : ByteArray), a1, (⟨#[]⟩ : ByteArray)] : List ByteArray))).bind fun t184 => (if t184 = t171 then ((sum_Of.f kj19 (([a0, a1] : List ByteArray))).bind fun t188 => (some (t188 == (Go.bits .xor .u16 65535 t171)))) else (some false))) else (some false))) else (some false)) = some r := H
        have A29 := Aside0.mk A290
        clear A290
        by_cases c30 : t176 = t171
        ·
         rw [if_pos c30] at H
         have c30b0 : (t176 == t171) = true := beq_iff_eq.mpr c30
         have c30b1 : (t176 != t171) = false := bne_eq_false_iff_eq.mpr c30
         clear c30
         obtain ⟨y177, hy177⟩ : ∃ y_ : List ByteArray, y_ = (([a0, a1] : List ByteArray)) := ⟨_, rfl⟩
         replace H : ((sum_Sum.f kj19 y177).bind fun t180 => (if t180 = t171 then ((sum_Sum.f kj19 (([(⟨#[]⟩ : ByteArray), a0, (⟨#[]⟩ : ByteArray), a1, (⟨#[]⟩ : ByteArray)] : List ByteArray))).bind fun t184 => (if t184 = t171 then ((sum_Of.f kj19 (([a0, a1] : List ByteArray))).bind fun t188 => (some (t188 == (Go.bits .xor .u16 65535 t171)))) else (some false))) else (some false))) = some r := by first | (rw [hy177]; with_reducible exact H) | (have H2_ := (Option.bind_some _ _).symm.trans H; rw [hy177]; with_reducible exact H2_) | (have H2_ := (Option.bind_some _ _).symm.trans H; with_reducible exact H2_) | with_reducible exact H | (rw [hy177]; exact H) | exact H
         have Ny177 := Aside0.mk hy177
         clear hy177
         replace H := Option.bind_eq_some_iff.mp H
         obtain ⟨t180, A310, H⟩ := H
         replace H : (if t180 = t171 then ((sum_Sum.f kj19 (([(⟨#[]⟩ : ByteArray), a0, (⟨#[]⟩ : ByteArray), a1, (⟨#[]⟩ : ByteArray)] : List ByteArray))).bind fun t184 => (if t184 = t171 then ((sum_Of.f kj19 (([a0, a1] : List ByteArray))).bind fun t188 => (some (t188 == (Go.bits .xor .u16 65535 t171)))) else (some false))) else (some false)) = some r := H
         have A31 := Aside0.mk A310
         clear A310
         by_cases c32 : t180 = t171
         ·
          rw [if_pos c32] at H
          have c32b0 : (t180 == t171) = true := beq_iff_eq.mpr c32
          have c32b1 : (t180 != t171) = false := bne_eq_false_iff_eq.mpr c32
          clear c32
          obtain ⟨y181, hy181⟩ : ∃ y_ : List ByteArray, y_ = (([(⟨#[]⟩ : ByteArray), a0, (⟨#[]⟩ : ByteArray), a1, (⟨#[]⟩ : ByteArray)] : List ByteArray)) := ⟨_, rfl⟩
          replace H : ((sum_Sum.f kj19 y181).bind fun t184 => (if t184 = t171 then ((sum_Of.f kj19 (([a0, a1] : List ByteArray))).bind fun t188 => (some (t188 == (Go.bits .xor .u16 65535 t171)))) else (some false))) = some r := by first | (rw [hy181]; with_reducible exact H) | (have H2_ := (Option.bind_some _ _).symm.trans H; rw [hy181]; with_reducible exact H2_) | (have H2_ := (Option.bind_some _ _).symm.trans H; with_reducible exact H2_) | with_reducible exact H | (rw [hy181]; exact H) | exact H
          have Ny181 := Aside0.mk hy181
          clear hy181
          replace H := Option.bind_eq_some_iff.mp H
          obtain ⟨t184, A330, H⟩ := H
          replace H : (if t184 = t171 then ((sum_Of.f kj19 (([a0, a1] : List ByteArray))).bind fun t188 => (some (t188 == (Go.bits .xor .u16 65535 t171)))) else (some false)) = some r := H
          have A33 := Aside0.mk A330
          clear A330
          by_cases c34 : t184 = t171
          ·
           rw [if_pos c34] at H
           have c34b0 : (t184 == t171) = true := beq_iff_eq.mpr c34
           have c34b1 : (t184 != t171) = false := bne_eq_false_iff_eq.mpr c34
           clear c34
           obtain ⟨y185, hy185⟩ : ∃ y_ : List ByteArray, y_ = (([a0, a1] : List ByteArray)) := ⟨_, rfl⟩
           replace H : ((sum_Of.f kj19 y185).bind fun t188 => (some (t188 == (Go.bits .xor .u16 65535 t171)))) = some r := by first | (rw [hy185]; with_reducible exact H) | (have H2_ := (Option.bind_some _ _).symm.trans H; rw [hy185]; with_reducible exact H2_) | (have H2_ := (Option.bind_some _ _).symm.trans H; with_reducible exact H2_) | with_reducible exact H | (rw [hy185]; exact H) | exact H
           have Ny185 := Aside0.mk hy185
           clear hy185
           replace H := Option.bind_eq_some_iff.mp H
           obtain ⟨t188, A350, H⟩ := H
           replace H : (some (t188 == (Go.bits .xor .u16 65535 t171))) = some r := H
           have A35 := Aside0.mk A350
           clear A350
           obtain rfl := Option.some.inj H
           go_wp2_with (first | ((with_reducible refine gate_dst (N := 26) rfl ?_); (try (refine gate_guard (by rfl) ?_; dsimp only)); refine Kd.R_lit Kd.string _ 9 ?hg (N := 26) ?hd (xs := ([a0] : List ByteArray)) (inner := [.string a0]) (ok := fun _ => True) (okp := fun _ => True) ?hr ?hp (fun _ hk => hk) trivial (Below.refl _ _) (Nat.le_refl _) (by simp) ?_; (case hd => rfl); (case hg => rfl); (case hr => first | (go_simp; done) | (go_simp; rfl)); (case hp => exact (Reps.one (show Kd.M Kd.string _ _ _ a0 [.string a0] from rfl) (Reps.none _ _))); intro v168 w36 ho37 hb hg_ hnew_; clear hg_ hnew_; (first | rw [← Ny167.out] at ho37 | (simp only [Int.reduceToNat] at ho37; rw [← Ny167.out] at ho37)); have HO169 := Aside0.mk (Kd.R_lower ho37 (below_size (by repeat (first | (with_reducible first | exact HB.out | apply below_alloc | apply pw_below_drewN | apply below_drew1) | exact HB.out)))); replace HB := Aside0.mk (below_step (by repeat (first | (with_reducible first | exact HB.out | apply below_alloc | apply pw_below_drewN | apply below_drew1) | exact HB.out)) hb); clear hb ho37; obtain ⟨Ao38, co38, eo38⟩ := Kd.R_slice HO169.out; subst eo38) | ((with_reducible refine gate_callee (f := 13) rfl ?_); refine goesL_ (some 27) rfl rfl Try.func13 (by kernel_rfl) rfl #[.slice Ao38 y167.length co38] rfl (by (try simp only [List.map_toArray, List.map_cons, List.map_nil]); first | done | rfl | (simp only [List.length_drop, List.length_take]; rfl)) ?_; (with_reducible refine (sum_Sum.calls kj19 _ _ y167 t170 _ ?side1 ?side2 A26.out).mono ?_); (case side1 => repeat (first | exact (Kd.R_reads' HO169.out).2.2 | (with_reducible refine Kd.C_alloc ?_ _) | (with_reducible refine Kd.C_drewN ?_ _) | (with_reducible refine Kd.C_drew ?_))); (case side2 => exact (Kd.R_reads' HO169.out).2.1); rintro e w' ⟨rfl, ⟨nd, rfl⟩⟩; refine ⟨_, rfl, ?_⟩) | ((with_reducible refine gate_callee (f := 15) rfl ?_); refine goesL_ (some 29) rfl rfl Try.func15 (by kernel_rfl) rfl #[.int .u16 t170, .int .u16 x5_19] rfl (by (try simp only [List.map_toArray, List.map_cons, List.map_nil]); first | done | rfl | (simp only [List.length_drop, List.length_take]; rfl)) ?_; (with_reducible refine (sum_Add.calls kj19 t170 x5_19 t171 _ A27.out).mono ?_); rintro e w' ⟨rfl, ⟨nd, rfl⟩⟩; refine ⟨_, rfl, ?_⟩) | ((with_reducible refine gate_dst (N := 33) rfl ?_); (try (refine gate_guard (by rfl) ?_; dsimp only)); refine Kd.R_lit Kd.string _ 9 ?hg (N := 33) ?hd (xs := ([y172] : List ByteArray)) (inner := [.string y172]) (ok := fun _ => True) (okp := fun _ => True) ?hr ?hp (fun _ hk => hk) trivial (Below.refl _ _) (Nat.le_refl _) (by simp) ?_; (case hd => rfl); (case hg => rfl); (case hr => first | (go_simp; done) | (go_simp; rfl)); (case hp => exact (Reps.one (show Kd.M Kd.string _ _ _ y172 [.string y172] from rfl) (Reps.none _ _))); intro v174 w39 ho40 hb hg_ hnew_; clear hg_ hnew_; (first | rw [← Ny173.out] at ho40 | (simp only [Int.reduceToNat] at ho40; rw [← Ny173.out] at ho40)); have HO175 := Aside0.mk (Kd.R_lower (Kd.R_new' ho40 (Kd.R_lt (by (with_reducible repeat (first | apply Kd.R_alloc | apply Kd.R_drewN | apply Kd.R_drew)); exact HO169.out))) (below_size (by repeat (first | (with_reducible first | exact HB.out | apply below_alloc | apply pw_below_drewN | apply below_drew1) | exact HB.out)))); replace HO169 := Aside0.mk (Kd.R_elder' (by (with_reducible repeat (first | apply Kd.R_alloc | apply Kd.R_drewN | apply Kd.R_drew)); exact HO169.out) (Kd.R_base ho40) hb); replace HB := Aside0.mk (below_step (by repeat (first | (with_reducible first | exact HB.out | apply below_alloc | apply pw_below_drewN | apply below_drew1) | exact HB.out)) hb); clear hb ho40; obtain ⟨Ao41, co41, eo41⟩ := Kd.R_slice HO175.out; subst eo41) | ((with_reducible refine gate_callee (f := 13) rfl ?_); refine goesL_ (some 34) rfl rfl Try.func13 (by kernel_rfl) rfl #[.slice Ao41 y173.length co41] rfl (by (try simp only [List.map_toArray, List.map_cons, List.map_nil]); first | done | rfl | (simp only [List.length_drop, List.length_take]; rfl)) ?_; (with_reducible refine (sum_Sum.calls kj19 _ _ y173 t176 _ ?side1 ?side2 A29.out).mono ?_); (case side1 => repeat (first | exact (Kd.R_reads' HO175.out).2.2 | (with_reducible refine Kd.C_alloc ?_ _) | (with_reducible refine Kd.C_drewN ?_ _) | (with_reducible refine Kd.C_drew ?_))); (case side2 => exact (Kd.R_reads' HO175.out).2.1); rintro e w' ⟨rfl, ⟨nd, rfl⟩⟩; refine ⟨_, rfl, ?_⟩) | ((with_reducible refine gate_dst (N := 40) rfl ?_); (try (refine gate_guard (by rfl) ?_; dsimp only)); refine Kd.R_lit Kd.string _ 9 ?hg (N := 40) ?hd (xs := ([a0, a1] : List ByteArray)) (inner := [.string a0, .string a1]) (ok := fun _ => True) (okp := fun _ => True) ?hr ?hp (fun _ hk => hk) trivial (Below.refl _ _) (Nat.le_refl _) (by simp) ?_; (case hd => rfl); (case hg => rfl); (case hr => first | (go_simp; done) | (go_simp; rfl)); (case hp => exact (Reps.one (show Kd.M Kd.string _ _ _ a0 [.string a0] from rfl) (Reps.one (show Kd.M Kd.string _ _ _ a1 [.string a1] from rfl) (Reps.none _ _)))); intro v178 w42 ho43 hb hg_ hnew_; clear hg_ hnew_; (first | rw [← Ny177.out] at ho43 | (simp only [Int.reduceToNat] at ho43; rw [← Ny177.out] at ho43)); have HO179 := Aside0.mk (Kd.R_lower (Kd.R_new' (Kd.R_new' ho43 (Kd.R_lt (by (with_reducible repeat (first | apply Kd.R_alloc | apply Kd.R_drewN | apply Kd.R_drew)); exact HO169.out))) (Kd.R_lt (by (with_reducible repeat (first | apply Kd.R_alloc | apply Kd.R_drewN | apply Kd.R_drew)); exact HO175.out))) (below_size (by repeat (first | (with_reducible first | exact HB.out | apply below_alloc | apply pw_below_drewN | apply below_drew1) | exact HB.out)))); replace HO169 := Aside0.mk (Kd.R_elder' (by (with_reducible repeat (first | apply Kd.R_alloc | apply Kd.R_drewN | apply Kd.R_drew)); exact HO169.out) (Kd.R_base ho43) hb); replace HO175 := Aside0.mk (Kd.R_elder' (by (with_reducible repeat (first | apply Kd.R_alloc | apply Kd.R_drewN | apply Kd.R_drew)); exact HO175.out) (Kd.R_base ho43) hb); replace HB := Aside0.mk (below_step (by repeat (first | (with_reducible first | exact HB.out | apply below_alloc | apply pw_below_drewN | apply below_drew1) | exact HB.out)) hb); clear hb ho43; obtain ⟨Ao44, co44, eo44⟩ := Kd.R_slice HO179.out; subst eo44) | (go_at_call 13; (with_reducible refine (sum_Sum.calls kj19 _ _ y177 t180 _ ?side1 ?side2 A31.out).mono ?_); (case side1 => repeat (first | exact (Kd.R_reads' HO179.out).2.2 | (with_reducible refine Kd.C_alloc ?_ _) | (with_reducible refine Kd.C_drewN ?_ _) | (with_reducible refine Kd.C_drew ?_))); (case side2 => exact (Kd.R_reads' HO179.out).2.1); rintro e w' ⟨rfl, ⟨nd, rfl⟩⟩) | ((with_reducible refine gate_dst (N := 48) rfl ?_); (try (refine gate_guard (by rfl) ?_; dsimp only)); refine Kd.R_lit Kd.string _ 9 ?hg (N := 48) ?hd (xs := ([(⟨#[]⟩ : ByteArray), a0, (⟨#[]⟩ : ByteArray), a1, (⟨#[]⟩ : ByteArray)] : List ByteArray)) (inner := [.string (⟨#[]⟩ : ByteArray), .string a0, .string (⟨#[]⟩ : ByteArray), .string a1, .string (⟨#[]⟩ : ByteArray)]) (ok := fun _ => True) (okp := fun _ => True) ?hr ?hp (fun _ hk => hk) trivial (Below.refl _ _) (Nat.le_refl _) (by simp) ?_; (case hd => rfl); (case hg => rfl); (case hr => first | (go_simp; done) | (go_simp; rfl)); (case hp => exact (Reps.one (show Kd.M Kd.string _ _ _ (⟨#[]⟩ : ByteArray) [.string (⟨#[]⟩ : ByteArray)] from rfl) (Reps.one (show Kd.M Kd.string _ _ _ a0 [.string a0] from rfl) (Reps.one (show Kd.M Kd.string _ _ _ (⟨#[]⟩ : ByteArray) [.string (⟨#[]⟩ : ByteArray)] from rfl) (Reps.one (show Kd.M Kd.string _ _ _ a1 [.string a1] from rfl) (Reps.one (show Kd.M Kd.string _ _ _ (⟨#[]⟩ : ByteArray) [.string (⟨#[]⟩ : ByteArray)] from rfl) (Reps.none _ _))))))); intro v182 w45 ho46 hb hg_ hnew_; clear hg_ hnew_; (first | rw [← Ny181.out] at ho46 | (simp only [Int.reduceToNat] at ho46; rw [← Ny181.out] at ho46)); have HO183 := Aside0.mk (Kd.R_lower (Kd.R_new' (Kd.R_new' (Kd.R_new' ho46 (Kd.R_lt (by (with_reducible repeat (first | apply Kd.R_alloc | apply Kd.R_drewN | apply Kd.R_drew)); exact HO169.out))) (Kd.R_lt (by (with_reducible repeat (first | apply Kd.R_alloc | apply Kd.R_drewN | apply Kd.R_drew)); exact HO175.out))) (Kd.R_lt (by (with_reducible repeat (first | apply Kd.R_alloc | apply Kd.R_drewN | apply Kd.R_drew)); exact HO179.out))) (below_size (by repeat (first | (with_reducible first | exact HB.out | apply below_alloc | apply pw_below_drewN | apply below_drew1) | exact HB.out)))); replace HO169 := Aside0.mk (Kd.R_elder' (by (with_reducible repeat (first | apply Kd.R_alloc | apply Kd.R_drewN | apply Kd.R_drew)); exact HO169.out) (Kd.R_base ho46) hb); replace HO175 := Aside0.mk (Kd.R_elder' (by (with_reducible repeat (first | apply Kd.R_alloc | apply Kd.R_drewN | apply Kd.R_drew)); exact HO175.out) (Kd.R_base ho46) hb); replace HO179 := Aside0.mk (Kd.R_elder' (by (with_reducible repeat (first | apply Kd.R_alloc | apply Kd.R_drewN | apply Kd.R_drew)); exact HO179.out) (Kd.R_base ho46) hb); replace HB := Aside0.mk (below_step (by repeat (first | (with_reducible first | exact HB.out | apply below_alloc | apply pw_below_drewN | apply below_drew1) | exact HB.out)) hb); clear hb ho46; obtain ⟨Ao47, co47, eo47⟩ := Kd.R_slice HO183.out; subst eo47) | (go_at_call 13; (with_reducible refine (sum_Sum.calls kj19 _ _ y181 t184 _ ?side1 ?side2 A33.out).mono ?_); (case side1 => repeat (first | exact (Kd.R_reads' HO183.out).2.2 | (with_reducible refine Kd.C_alloc ?_ _) | (with_reducible refine Kd.C_drewN ?_ _) | (with_reducible refine Kd.C_drew ?_))); (case side2 => exact (Kd.R_reads' HO183.out).2.1); rintro e w' ⟨rfl, ⟨nd, rfl⟩⟩) | ((with_reducible refine gate_dst (N := 56) rfl ?_); (try (refine gate_guard (by rfl) ?_; dsimp only)); refine Kd.R_lit Kd.string _ 9 ?hg (N := 56) ?hd (xs := ([a0, a1] : List ByteArray)) (inner := [.string a0, .string a1]) (ok := fun _ => True) (okp := fun _ => True) ?hr ?hp (fun _ hk => hk) trivial (Below.refl _ _) (Nat.le_refl _) (by simp) ?_; (case hd => rfl); (case hg => rfl); (case hr => first | (go_simp; done) | (go_simp; rfl)); (case hp => exact (Reps.one (show Kd.M Kd.string _ _ _ a0 [.string a0] from rfl) (Reps.one (show Kd.M Kd.string _ _ _ a1 [.string a1] from rfl) (Reps.none _ _)))); intro v186 w48 ho49 hb hg_ hnew_; clear hg_ hnew_; (first | rw [← Ny185.out] at ho49 | (simp only [Int.reduceToNat] at ho49; rw [← Ny185.out] at ho49)); have HO187 := Aside0.mk (Kd.R_lower (Kd.R_new' (Kd.R_new' (Kd.R_new' (Kd.R_new' ho49 (Kd.R_lt (by (with_reducible repeat (first | apply Kd.R_alloc | apply Kd.R_drewN | apply Kd.R_drew)); exact HO169.out))) (Kd.R_lt (by (with_reducible repeat (first | apply Kd.R_alloc | apply Kd.R_drewN | apply Kd.R_drew)); exact HO175.out))) (Kd.R_lt (by (with_reducible repeat (first | apply Kd.R_alloc | apply Kd.R_drewN | apply Kd.R_drew)); exact HO179.out))) (Kd.R_lt (by (with_reducible repeat (first | apply Kd.R_alloc | apply Kd.R_drewN | apply Kd.R_drew)); exact HO183.out))) (below_size (by repeat (first | (with_reducible first | exact HB.out | apply below_alloc | apply pw_below_drewN | apply below_drew1) | exact HB.out)))); replace HO169 := Aside0.mk (Kd.R_elder' (by (with_reducible repeat (first | apply Kd.R_alloc | apply Kd.R_drewN | apply Kd.R_drew)); exact HO169.out) (Kd.R_base ho49) hb); replace HO175 := Aside0.mk (Kd.R_elder' (by (with_reducible repeat (first | apply Kd.R_alloc | apply Kd.R_drewN | apply Kd.R_drew)); exact HO175.out) (Kd.R_base ho49) hb); replace HO179 := Aside0.mk (Kd.R_elder' (by (with_reducible repeat (first | apply Kd.R_alloc | apply Kd.R_drewN | apply Kd.R_drew)); exact HO179.out) (Kd.R_base ho49) hb); replace HO183 := Aside0.mk (Kd.R_elder' (by (with_reducible repeat (first | apply Kd.R_alloc | apply Kd.R_drewN | apply Kd.R_drew)); exact HO183.out) (Kd.R_base ho49) hb); replace HB := Aside0.mk (below_step (by repeat (first | (with_reducible first | exact HB.out | apply below_alloc | apply pw_below_drewN | apply below_drew1) | exact HB.out)) hb); clear hb ho49; obtain ⟨Ao50, co50, eo50⟩ := Kd.R_slice HO187.out; subst eo50) | (go_at_call 14; (with_reducible refine (sum_Of.calls kj19 _ _ y185 t188 _ ?side1 ?side2 A35.out).mono ?_); (case side1 => repeat (first | exact (Kd.R_reads' HO187.out).2.2 | (with_reducible refine Kd.C_alloc ?_ _) | (with_reducible refine Kd.C_drewN ?_ _) | (with_reducible refine Kd.C_drew ?_))); (case side2 => exact (Kd.R_reads' HO187.out).2.1); rintro e w' ⟨rfl, ⟨nd, rfl⟩⟩))
           go_ret
           exact ⟨by first | rfl | (simp [errW_none, errW_some] <;> rfl) | (simp [*, errW_none, errW_some] <;> rfl), by repeat (first | (with_reducible first | exact HB.out | apply below_alloc | apply pw_below_drewN | apply below_drew1) | exact HB.out)⟩
          ·
           rw [if_neg c34] at H
           have c34b0 : (t184 == t171) = false := beq_eq_false_iff_ne.mpr c34
           have c34b1 : (t184 != t171) = true := bne_iff_ne.mpr c34
           exact absurd ((Option.some.inj H).trans hr_.out) (by decide)
         ·
          rw [if_neg c32] at H
          have c32b0 : (t180 == t171) = false := beq_eq_false_iff_ne.mpr c32
          have c32b1 : (t180 != t171) = true := bne_iff_ne.mpr c32
          exact absurd ((Option.some.inj H).trans hr_.out) (by decide)
        ·
         rw [if_neg c30] at H
         have c30b0 : (t176 == t171) = false := beq_eq_false_iff_ne.mpr c30
         have c30b1 : (t176 != t171) = true := bne_iff_ne.mpr c30
         exact absurd ((Option.some.inj H).trans hr_.out) (by decide)
       ·
        rw [if_neg c28] at H
        exact absurd H (by simp)

/-- THE ONE PURE STATEMENT of turnoutlaw03_SumParts: yours. -/
def turnoutlaw03_SumParts.Pure : Prop := (∀ (a0 : ByteArray) (a1 : ByteArray), a0.size ≤ 140737488351232 → a1.size ≤ 140737488351232 → ∃ k, turnoutlaw03_SumParts.f k a0 a1 = some true) ∧ (∀ k r, turnoutlaw03_awake.f k = some r → r = true)
theorem turnoutlaw03_SumParts.walk (P : turnoutlaw03_SumParts.Pure) (a0 : ByteArray) (a1 : ByteArray) (w : World) (w0 : a0.size ≤ 140737488351232) (w1 : a1.size ≤ 140737488351232) :
   Calls Try.prog 7 #[.string a0, .string a1] w fun e w' => e = .returned (.bool true) ∧ Below w.heap.size w w' := by
  obtain ⟨k, h⟩ := P.1 a0 a1 w0 w1
  refine (turnoutlaw03_SumParts.calls k a0 a1 true w h ⟨rfl⟩ ⟨P.2⟩).mono ?_
  rintro e w' ⟨rfl, hd⟩
  exact ⟨rfl, hd⟩

/-! ### turnoutlaw03_even: function 25 -/
def turnoutlaw03_even.f (a0 : ByteArray) : Option (ByteArray) := if 0 ≤ (wrap64 ((a0.size : Int) - ((a0.size : Int) % 2))) then (if (wrap64 ((a0.size : Int) - ((a0.size : Int) % 2))) ≤ (a0.size : Int) then (some (a0.extract 0 ((wrap64 ((a0.size : Int) - ((a0.size : Int) % 2))) : Int).toNat)) else (none)) else (none)
set_option maxHeartbeats 8000000 in
set_option maxRecDepth 100000 in
theorem turnoutlaw03_even.calls (a0 : ByteArray) (r : ByteArray) (w : World) (h : turnoutlaw03_even.f a0 = some r) :
   Calls Try.prog 25 #[.string a0] w fun e w' => e = .returned (.string r) ∧ Drawn0 w w' := by
  have H : (if 0 ≤ (wrap64 ((a0.size : Int) - ((a0.size : Int) % 2))) then (if (wrap64 ((a0.size : Int) - ((a0.size : Int) % 2))) ≤ (a0.size : Int) then (some (a0.extract 0 ((wrap64 ((a0.size : Int) - ((a0.size : Int) % 2))) : Int).toNat)) else (none)) else (none)) = some r := h
  clear h
  obtain ⟨ji2, hji2⟩ : ∃ j_ : Int, (wrap64 ((a0.size : Int) - ((a0.size : Int) % 2))) = j_ := ⟨_, rfl⟩
  replace H : (if 0 ≤ (ji2) then (if (ji2) ≤ (a0.size : Int) then (some (a0.extract 0 ((ji2) : Int).toNat)) else (none)) else (none)) = some r := by first | (rw [hji2] at H; exact H) | (simp only [hji2] at H ⊢; exact H)
  have hji2w : (IntKind.i64.wrap ((a0.size : Int) - ((a0.size : Int) % 2))) = ji2 := (i64_w _).trans hji2
  by_cases c3 : 0 ≤ (ji2)
  ·
   rw [if_pos c3] at H
   have c3b0 := eq_true c3
   have c3b1 : decide (0 ≤ (ji2)) = true := decide_eq_true c3
   clear c3
   by_cases c4 : (ji2) ≤ (a0.size : Int)
   ·
    rw [if_pos c4] at H
    have c4b0 := eq_true c4
    have c4b1 : decide ((ji2) ≤ (a0.size : Int)) = true := decide_eq_true c4
    clear c4
    obtain ⟨y189, hy189⟩ : ∃ y_ : ByteArray, (a0.extract 0 ((ji2) : Int).toNat) = y_ := ⟨_, rfl⟩
    replace H : (some y189) = some r := by first | (rw [← hy189]; exact H) | exact H
    obtain rfl := Option.some.inj H
    go_enter Try.func25, Try.ntmps25
    go_wp2
    go_ret
    exact ⟨by first | rfl | (simp; done) | (simp only [← hji2] <;> (first | rfl | simp)) | (simp [*]; done), by repeat (first | exact Drawn0.refl _ | apply Drawn0.step)⟩
   ·
    rw [if_neg c4] at H
    exact absurd H (by simp)
  ·
   rw [if_neg c3] at H
   exact absurd H (by simp)

/-! ### turnoutlaw03_place: function 26 -/
def turnoutlaw03_place.f (a0 : ByteArray) (a1 : Int) : Option (Int) := if (IntKind.u64.wrap (wrap64 ((wrap64 ((a0.size : Int) / 2)) + 1))) = 0 then (none) else (some (wrap64 (2 * (wrap64 (Int.tmod (IntKind.u64.wrap (a1)) (IntKind.u64.wrap (wrap64 ((wrap64 ((a0.size : Int) / 2)) + 1))))))))
set_option maxHeartbeats 8000000 in
set_option maxRecDepth 100000 in
theorem turnoutlaw03_place.calls (a0 : ByteArray) (a1 : Int) (r : Int) (w : World) (h : turnoutlaw03_place.f a0 a1 = some r) :
   Calls Try.prog 26 #[.string a0, .int .i64 a1] w fun e w' => e = .returned (.int .i64 r) ∧ Drawn0 w w' := by
  have H : (if (IntKind.u64.wrap (wrap64 ((wrap64 ((a0.size : Int) / 2)) + 1))) = 0 then (none) else (some (wrap64 (2 * (wrap64 (Int.tmod (IntKind.u64.wrap (a1)) (IntKind.u64.wrap (wrap64 ((wrap64 ((a0.size : Int) / 2)) + 1))))))))) = some r := h
  clear h
  by_cases c3 : (IntKind.u64.wrap (wrap64 ((wrap64 ((a0.size : Int) / 2)) + 1))) = 0
  ·
   rw [if_pos c3] at H
   exact absurd H (by simp)
  ·
   rw [if_neg c3] at H
   have c3b0 : ((IntKind.u64.wrap (wrap64 ((wrap64 ((a0.size : Int) / 2)) + 1))) == 0) = false := beq_eq_false_iff_ne.mpr c3
   have c3b1 : ((IntKind.u64.wrap (wrap64 ((wrap64 ((a0.size : Int) / 2)) + 1))) != 0) = true := bne_iff_ne.mpr c3
   obtain rfl := Option.some.inj H
   go_enter Try.func26, Try.ntmps26
   go_wp2
   go_ret
   exact ⟨by first | rfl | (simp; done) | (simp [*]; done), by repeat (first | exact Drawn0.refl _ | apply Drawn0.step)⟩

/-! ### turnoutlaw03_two: function 27 -/
def turnoutlaw03_two.f (a0 : Int) : Option (ByteArray) := some (strOfNums (([(a0 / 256) % 256, (a0) % 256] : List Int)))
set_option maxHeartbeats 8000000 in
set_option maxRecDepth 100000 in
theorem turnoutlaw03_two.calls (a0 : Int) (r : ByteArray) (w : World) (h : turnoutlaw03_two.f a0 = some r) :
   Calls Try.prog 27 #[.int .u16 a0] w fun e w' => e = .returned (.string r) ∧ Below w.heap.size w w' := by
  have HB := Aside0.mk (Below.refl w.heap.size w)
  have H : (some (strOfNums (([(a0 / 256) % 256, (a0) % 256] : List Int)))) = some r := h
  clear h
  obtain ⟨y190, hy190⟩ : ∃ y_ : List Int, y_ = (([(a0 / 256) % 256, (a0) % 256] : List Int)) := ⟨_, rfl⟩
  replace H : (some (strOfNums y190)) = some r := by first | (rw [hy190]; with_reducible exact H) | (have H2_ := (Option.bind_some _ _).symm.trans H; rw [hy190]; with_reducible exact H2_) | (have H2_ := (Option.bind_some _ _).symm.trans H; with_reducible exact H2_) | with_reducible exact H | (rw [hy190]; exact H) | exact H
  have Ny190 := Aside0.mk hy190
  clear hy190
  obtain rfl := Option.some.inj H
  go_enter Try.func27, Try.ntmps27
  go_wp2_with (first | ((with_reducible refine gate_dst (N := 8) rfl ?_); refine Kd.R_lit (Kd.int .u8) _ 5 ?hg (N := 8) ?hd (xs := ([(a0 / 256) % 256, (a0) % 256] : List Int)) (inner := [.int .u8 ((a0 / 256) % 256), .int .u8 ((a0) % 256)]) (ok := fun _ => True) (okp := fun _ => True) ?hr ?hp (fun _ hk => hk) trivial (Below.refl _ _) (Nat.le_refl _) (by simp) ?_; (case hd => rfl); (case hg => rfl); (case hr => first | (go_simp; done) | (go_simp; rfl)); (case hp => exact (Reps.one (show Kd.M (Kd.int .u8) _ _ _ ((a0 / 256) % 256) [.int .u8 ((a0 / 256) % 256)] from rfl) (Reps.one (show Kd.M (Kd.int .u8) _ _ _ ((a0) % 256) [.int .u8 ((a0) % 256)] from rfl) (Reps.none _ _)))); intro v191 w2 ho3 hb hg_ hnew_; clear hg_ hnew_; (first | rw [← Ny190.out] at ho3 | (simp only [Int.reduceToNat] at ho3; rw [← Ny190.out] at ho3)); have HO192 := Aside0.mk (Kd.R_lower ho3 (below_size (by repeat (first | (with_reducible first | exact HB.out | apply below_alloc | apply pw_below_drewN | apply below_drew1) | exact HB.out)))); replace HB := Aside0.mk (below_step (by repeat (first | (with_reducible first | exact HB.out | apply below_alloc | apply pw_below_drewN | apply below_drew1) | exact HB.out)) hb); clear hb ho3; have hcv4 := own_string (P := Try.prog) Try.underlying26 Try.underlying5 Try.underlying9 (Kd.own_of_R HO192.out); have hcd4 := own_stringD (P := Try.prog) Try.underlying26 Try.underlying5 Try.underlying9 (Kd.own_of_R HO192.out)))
  go_ret
  exact ⟨by first | rfl | (simp [errW_none, errW_some] <;> rfl) | (simp [*, errW_none, errW_some] <;> rfl), by repeat (first | (with_reducible first | exact HB.out | apply below_alloc | apply pw_below_drewN | apply below_drew1) | exact HB.out)⟩

end Go.Proofs.Ytieopkigfbnhcaa.PSum
