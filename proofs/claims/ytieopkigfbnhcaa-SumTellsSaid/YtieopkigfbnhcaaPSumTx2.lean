-- Written by wip/turnprint.py, a program of this session (the kit's print, turned).
import Derived.Test.YtieopkigfbnhcaaPSumTx0
import Derived.Test.YtieopkigfbnhcaaPSumTx1
namespace Go.Proofs.Ytieopkigfbnhcaa.PSumT
open Go.RowKit Go.Proofs.YtieopkigfbnhcaaW.PrintWords Go.Proofs.YtieopkigfbnhcaaW.PrintLast Go.Proofs.YtieopkigfbnhcaaW.PrintMore
attribute [local go_sem] max2_int min2_int max_two min_two max_three min_three max_four min_four   -- for this text's walks alone
set_option linter.unusedVariables false
set_option linter.unusedSimpArgs false

attribute [local go_sem high] xorA_u8 xorA_u16 xorA_u32 xorA_u64
/-! ### turnoutref03_Sum: function 20 -/
def turnoutref03_Sum.l0 : Nat → ByteArray → Int → Int → Option (Int)
  | 0, _, _, _ => none
  | k + 1, x0, x3, x4 => if x4 < (x0.size : Int) then (if 0 ≤ x4 then (if (wrap64 (x4 + 1)) < (x0.size : Int) then (if 0 ≤ (wrap64 (x4 + 1)) then ((turnoutref03_Add.f x3 (IntKind.u16.wrap ((IntKind.u16.wrap ((IntKind.u16.wrap (bt x0 x4)) * 256)) + (IntKind.u16.wrap (bt x0 (wrap64 (x4 + 1))))))).bind fun t140 => (turnoutref03_Sum.l0 k x0 t140 (wrap64 (x4 + 2)))) else (none)) else ((turnoutref03_Add.f x3 (IntKind.u16.wrap ((IntKind.u16.wrap (bt x0 x4)) * 256))).bind fun t141 => (turnoutref03_Sum.l0 k x0 t141 (wrap64 (x4 + 2))))) else (none)) else (some x3)
def turnoutref03_Sum.f (k : Nat) (a0 : ByteArray) : Option (Int) := turnoutref03_Sum.l0 k a0 0 0
theorem turnoutref03_Sum.mono_l : ∀ k, (∀ y0 y1 y2, LeO (turnoutref03_Sum.l0 k y0 y1 y2) (turnoutref03_Sum.l0 (k + 1) y0 y1 y2))
  | 0 => fun _ _ _ r h => by simp [turnoutref03_Sum.l0] at h
  | k + 1 => by
    have ih0 := turnoutref03_Sum.mono_l k
    · intro y0 y1 y2
      unfold turnoutref03_Sum.l0
      repeat' first
      | (with_reducible exact ih0 _ _ _)
      | (with_reducible exact LeO.refl _)
      | (with_reducible exact LeO.none _)
      | (with_reducible refine LeO.ite ?_ ?_)
      | (with_reducible refine LeO.bind ?_ (fun _ => ?_))
      | exact ih0 _ _ _
      | exact LeO.none _
      | refine LeO.ite ?_ ?_
      | refine LeO.bind ?_ (fun _ => ?_)
theorem turnoutref03_Sum.mono : ∀ a0 k, LeO (turnoutref03_Sum.f k a0) (turnoutref03_Sum.f (k + 1) a0) := by
  intro a0 k
  have ih0 := turnoutref03_Sum.mono_l k
  unfold turnoutref03_Sum.f
  repeat' first
      | (with_reducible exact ih0 _ _ _)
      | (with_reducible exact LeO.refl _)
      | (with_reducible exact LeO.none _)
      | (with_reducible refine LeO.ite ?_ ?_)
      | (with_reducible refine LeO.bind ?_ (fun _ => ?_))
      | exact ih0 _ _ _
      | exact LeO.none _
      | refine LeO.ite ?_ ?_
      | refine LeO.bind ?_ (fun _ => ?_)
set_option maxHeartbeats 8000000 in
set_option maxRecDepth 100000 in
theorem turnoutref03_Sum.calls (k : Nat) (a0 : ByteArray) (r : Int) (w : World) (h : turnoutref03_Sum.f k a0 = some r) :
    Calls Try.prog 20 #[.string a0] w fun e w' => e = .returned (.int .u16 r) ∧ Drawn0 w w' := by
  have H : (turnoutref03_Sum.l0 k a0 0 0) = some r := h
  clear h
  have H' := Aside0.mk H
  clear H
  go_enter Try.func20, Try.ntmps20
  go_wp2
  go_loopg [3, 4] k (fun kq v3 v4 w' => ∃ (x3_1 : Int) (x4_1 : Int), v3 = .int .u16 x3_1 ∧ v4 = .int .i64 x4_1 ∧ Aside0 (turnoutref03_Sum.l0 kq a0 x3_1 x4_1 = some r) ∧ Aside0 (kq ≤ k) ∧ Drawn0 w w')
  case atStart => exact ⟨(0), (0), (by first | rfl | (simp; done) | (simp [*]; done)), (by first | rfl | (simp; done) | (simp [*]; done)), H', ⟨Nat.le_refl _⟩, by repeat (first | exact Drawn0.refl _ | apply Drawn0.step)⟩
  case round =>
    clear H'
    obtain ⟨x3_1, x4_1, rfl, rfl, HA, HK1, ⟨m1, rfl⟩⟩ := hrel
    cases gk with
    | zero => exact absurd HA.out (by simp [turnoutref03_Sum.l0])
    | succ k1 =>
      have H := HA.out
      clear HA
      simp only [turnoutref03_Sum.l0] at H
      by_cases c2 : x4_1 < (a0.size : Int)
      · rw [if_pos c2] at H
        have c2b0 : decide (x4_1 < (a0.size : Int)) = true := decide_eq_true c2
        clear c2
        by_cases c3 : 0 ≤ x4_1
        · rw [if_pos c3] at H
          have c3b0 : decide (0 ≤ x4_1) = true := decide_eq_true c3
          clear c3
          by_cases c5 : (wrap64 (x4_1 + 1)) < (a0.size : Int)
          · rw [if_pos c5] at H
            have c5b0 : decide ((wrap64 (x4_1 + 1)) < (a0.size : Int)) = true := decide_eq_true c5
            clear c5
            obtain ⟨ji6, hji6⟩ : ∃ j_ : Int, (wrap64 (x4_1 + 1)) = j_ := ⟨_, rfl⟩
            replace H : (if 0 ≤ (ji6) then ((turnoutref03_Add.f x3_1 (IntKind.u16.wrap ((IntKind.u16.wrap ((IntKind.u16.wrap (bt a0 x4_1)) * 256)) + (IntKind.u16.wrap (bt a0 (ji6)))))).bind fun t140 => (turnoutref03_Sum.l0 k1 a0 t140 (wrap64 (x4_1 + 2)))) else (none)) = some r := by first | (rw [hji6] at H; exact H) | (simp only [hji6] at H ⊢; exact H)
            (try rw [hji6] at c5b0)
            have hji6w : (IntKind.i64.wrap (x4_1 + 1)) = ji6 := (i64_w _).trans hji6
            by_cases c7 : 0 ≤ (ji6)
            · rw [if_pos c7] at H
              have c7b0 : decide (0 ≤ (ji6)) = true := decide_eq_true c7
              clear c7
              replace H := Option.bind_eq_some_iff.mp H
              obtain ⟨t140, A90, H⟩ := H
              replace H : (turnoutref03_Sum.l0 k1 a0 t140 (wrap64 (x4_1 + 2))) = some r := H
              have A9 := Aside0.mk A90
              clear A90
              have H' := Aside0.mk H
              clear H
              have p4 : 0 ≤ (x4_1 : Int) := of_decide_eq_true (by first | (with_reducible assumption) | assumption)
              have q4 : x4_1 < (a0.size : Int) := of_decide_eq_true (by first | (with_reducible assumption) | assumption)
              have hx4 := bt_at a0 x4_1
              replace p4 := eq_true p4
              replace q4 := eq_true q4
              have p8 : 0 ≤ ((ji6) : Int) := of_decide_eq_true (by first | (with_reducible assumption) | assumption)
              have q8 : (ji6) < (a0.size : Int) := of_decide_eq_true (by first | (with_reducible assumption) | assumption)
              have hx8 := bt_at a0 (ji6)
              replace p8 := eq_true p8
              replace q8 := eq_true q8
              go_wp2_with (first | ((with_reducible refine gate_callee (f := 22) rfl ?_); refine goesL_ (some 31) rfl rfl Try.func22 (by kernel_rfl) rfl #[.int .u16 x3_1, .int .u16 (IntKind.u16.wrap ((IntKind.u16.wrap ((IntKind.u16.wrap (bt a0 x4_1)) * 256)) + (IntKind.u16.wrap (bt a0 (ji6)))))] rfl (by (try simp only [List.map_toArray, List.map_cons, List.map_nil]); first | done | (simp only [hji6]; rfl) | rfl | (simp only [List.length_drop, List.length_take]; rfl)) ?_; (with_reducible refine (turnoutref03_Add.calls x3_1 (IntKind.u16.wrap ((IntKind.u16.wrap ((IntKind.u16.wrap (bt a0 x4_1)) * 256)) + (IntKind.u16.wrap (bt a0 (ji6))))) t140 _ A9.out).mono ?_); rintro e w' ⟨rfl, ⟨nd, rfl⟩⟩; refine ⟨_, rfl, ?_⟩))
              go_roundg k1
              case measure => have := HK1.out; omega
              case rel => exact ⟨(t140), (wrap64 (x4_1 + 2)), (by first | rfl | (simp; done) | (simp [*]; done)), (by first | rfl | (simp; done) | (simp [*]; done)), H', ⟨by have := HK1.out; omega⟩, by repeat (first | exact Drawn0.refl _ | apply Drawn0.step)⟩
            · rw [if_neg c7] at H
              exact absurd H (by simp)
          · rw [if_neg c5] at H
            have c5b0 : decide ((wrap64 (x4_1 + 1)) < (a0.size : Int)) = false := decide_eq_false c5
            clear c5
            replace H := Option.bind_eq_some_iff.mp H
            obtain ⟨t141, A100, H⟩ := H
            replace H : (turnoutref03_Sum.l0 k1 a0 t141 (wrap64 (x4_1 + 2))) = some r := H
            have A10 := Aside0.mk A100
            clear A100
            have H' := Aside0.mk H
            clear H
            have p4 : 0 ≤ (x4_1 : Int) := of_decide_eq_true (by first | (with_reducible assumption) | assumption)
            have q4 : x4_1 < (a0.size : Int) := of_decide_eq_true (by first | (with_reducible assumption) | assumption)
            have hx4 := bt_at a0 x4_1
            replace p4 := eq_true p4
            replace q4 := eq_true q4
            go_wp2_with (first | ((with_reducible refine gate_callee (f := 22) rfl ?_); refine goesL_ (some 31) rfl rfl Try.func22 (by kernel_rfl) rfl #[.int .u16 x3_1, .int .u16 (IntKind.u16.wrap ((IntKind.u16.wrap (bt a0 x4_1)) * 256))] rfl (by (try simp only [List.map_toArray, List.map_cons, List.map_nil]); first | done | rfl | (simp only [List.length_drop, List.length_take]; rfl)) ?_; (with_reducible refine (turnoutref03_Add.calls x3_1 (IntKind.u16.wrap ((IntKind.u16.wrap (bt a0 x4_1)) * 256)) t141 _ A10.out).mono ?_); rintro e w' ⟨rfl, ⟨nd, rfl⟩⟩; refine ⟨_, rfl, ?_⟩))
            go_roundg k1
            case measure => have := HK1.out; omega
            case rel => exact ⟨(t141), (wrap64 (x4_1 + 2)), (by first | rfl | (simp; done) | (simp [*]; done)), (by first | rfl | (simp; done) | (simp [*]; done)), H', ⟨by have := HK1.out; omega⟩, by repeat (first | exact Drawn0.refl _ | apply Drawn0.step)⟩
        · rw [if_neg c3] at H
          exact absurd H (by simp)
      · rw [if_neg c2] at H
        have c2b0 : decide (x4_1 < (a0.size : Int)) = false := decide_eq_false c2
        clear c2
        obtain rfl := Option.some.inj H
        go_wp2
        go_ret
        exact ⟨by first | rfl | (simp; done) | (simp [*]; done), by repeat (first | exact Drawn0.refl _ | apply Drawn0.step)⟩

/-! ### turnoutref03_Of: function 21 -/
def turnoutref03_Of.f (k : Nat) (a0 : ByteArray) : Option (Int) := (turnoutref03_Sum.f k a0).bind fun t142 => (some (IntKind.u16.wrap (65535 - t142)))
theorem turnoutref03_Of.mono : ∀ a0 k, LeO (turnoutref03_Of.f k a0) (turnoutref03_Of.f (k + 1) a0) := by
  intro a0 k
  unfold turnoutref03_Of.f
  repeat' first
      | (with_reducible exact turnoutref03_Sum.mono _ _)
      | (with_reducible exact LeO.refl _)
      | (with_reducible exact LeO.none _)
      | (with_reducible refine LeO.ite ?_ ?_)
      | (with_reducible refine LeO.bind ?_ (fun _ => ?_))
      | exact turnoutref03_Sum.mono _ _
      | exact LeO.none _
      | refine LeO.ite ?_ ?_
      | refine LeO.bind ?_ (fun _ => ?_)
set_option maxHeartbeats 8000000 in
set_option maxRecDepth 100000 in
theorem turnoutref03_Of.calls (k : Nat) (a0 : ByteArray) (r : Int) (w : World) (h : turnoutref03_Of.f k a0 = some r) :
    Calls Try.prog 21 #[.string a0] w fun e w' => e = .returned (.int .u16 r) ∧ Drawn0 w w' := by
  have H : ((turnoutref03_Sum.f k a0).bind fun t142 => (some (IntKind.u16.wrap (65535 - t142)))) = some r := h
  clear h
  replace H := Option.bind_eq_some_iff.mp H
  obtain ⟨t142, A20, H⟩ := H
  replace H : (some (IntKind.u16.wrap (65535 - t142))) = some r := H
  have A2 := Aside0.mk A20
  clear A20
  obtain rfl := Option.some.inj H
  go_enter Try.func21, Try.ntmps21
  go_wp2_with (first | ((with_reducible refine gate_callee (f := 20) rfl ?_); refine goesL_ (some 4) rfl rfl Try.func20 (by kernel_rfl) rfl #[.string a0] rfl (by (try simp only [List.map_toArray, List.map_cons, List.map_nil]); first | done | rfl | (simp only [List.length_drop, List.length_take]; rfl)) ?_; (with_reducible refine (turnoutref03_Sum.calls k a0 t142 _ A2.out).mono ?_); rintro e w' ⟨rfl, ⟨nd, rfl⟩⟩; refine ⟨_, rfl, ?_⟩))
  go_ret
  exact ⟨by first | rfl | (simp; done) | (simp [*]; done), by repeat (first | exact Drawn0.refl _ | apply Drawn0.step)⟩

/-! ### turnoutlaw03_SumTells: function 4 -/
def turnoutlaw03_SumTells.f (k : Nat) (l0 : List ByteArray) : Option (Bool) := (turnoutlaw03_long.f k l0).bind fun t143 => (if t143 = true then ((turnoutlaw03_awake.f k).bind fun t144 => (some t144)) else ((turnoutref03_Joined.f k l0).bind fun t145 => ((sum_Sum.f k l0).bind fun t146 => ((turnoutref03_Sum.f k t145).bind fun t147 => (if t146 = t147 then ((sum_Of.f k l0).bind fun t148 => ((turnoutref03_Of.f k t145).bind fun t149 => (if t148 = t149 then ((sum_Sum.f k (([t145] : List ByteArray))).bind fun t153 => ((turnoutref03_Sum.f k t145).bind fun t154 => (if t153 = t154 then ((sum_Good.f k t145).bind fun t155 => ((turnoutref03_Sum.f k t145).bind fun t156 => (if (t155 == (t156 == 65535)) = true then ((turnoutlaw03_awake.f k).bind fun t157 => (some t157)) else (some false)))) else (some false)))) else (some false)))) else (some false))))))
theorem turnoutlaw03_SumTells.mono : ∀ a0 k, LeO (turnoutlaw03_SumTells.f k a0) (turnoutlaw03_SumTells.f (k + 1) a0) := by
  intro a0 k
  unfold turnoutlaw03_SumTells.f
  repeat' first
      | (with_reducible exact sum_Good.mono _ _)
      | (with_reducible exact sum_Of.mono _ _)
      | (with_reducible exact sum_Sum.mono _ _)
      | (with_reducible exact turnoutlaw03_awake.mono _)
      | (with_reducible exact turnoutlaw03_long.mono _ _)
      | (with_reducible exact turnoutref03_Joined.mono _ _)
      | (with_reducible exact turnoutref03_Of.mono _ _)
      | (with_reducible exact turnoutref03_Sum.mono _ _)
      | (with_reducible exact LeO.refl _)
      | (with_reducible exact LeO.none _)
      | (with_reducible refine LeO.ite ?_ ?_)
      | (with_reducible refine LeO.bind ?_ (fun _ => ?_))
      | exact sum_Good.mono _ _
      | exact sum_Of.mono _ _
      | exact sum_Sum.mono _ _
      | exact turnoutlaw03_awake.mono _
      | exact turnoutlaw03_long.mono _ _
      | exact turnoutref03_Joined.mono _ _
      | exact turnoutref03_Of.mono _ _
      | exact turnoutref03_Sum.mono _ _
      | exact LeO.none _
      | refine LeO.ite ?_ ?_
      | refine LeO.bind ?_ (fun _ => ?_)
set_option maxHeartbeats 8000000 in
set_option maxRecDepth 100000 in
theorem turnoutlaw03_SumTells.calls (k : Nat) (A0 : Option Addr) (c0 : Nat) (l0 : List ByteArray) (r : Bool) (w : World) (hr0 : Kd.C Kd.string w A0 l0.length l0) (hc0 : l0.length ≤ c0) (h : turnoutlaw03_SumTells.f k l0 = some r) (hr_ : Aside0 (r = true)) :
    Calls Try.prog 4 #[.slice A0 l0.length c0] w fun e w' => e = .returned (.bool r) ∧ Below w.heap.size w w' := by
  have HR0 := Aside0.mk hr0
  have HC0 := Aside0.mk hc0
  clear hr0 hc0
  have HB := Aside0.mk (Below.refl w.heap.size w)
  have H : ((turnoutlaw03_long.f k l0).bind fun t143 => (if t143 = true then ((turnoutlaw03_awake.f k).bind fun t144 => (some t144)) else ((turnoutref03_Joined.f k l0).bind fun t145 => ((sum_Sum.f k l0).bind fun t146 => ((turnoutref03_Sum.f k t145).bind fun t147 => (if t146 = t147 then ((sum_Of.f k l0).bind fun t148 => ((turnoutref03_Of.f k t145).bind fun t149 => (if t148 = t149 then ((sum_Sum.f k (([t145] : List ByteArray))).bind fun t153 => ((turnoutref03_Sum.f k t145).bind fun t154 => (if t153 = t154 then ((sum_Good.f k t145).bind fun t155 => ((turnoutref03_Sum.f k t145).bind fun t156 => (if (t155 == (t156 == 65535)) = true then ((turnoutlaw03_awake.f k).bind fun t157 => (some t157)) else (some false)))) else (some false)))) else (some false)))) else (some false))))))) = some r := h
  clear h
  replace H := Option.bind_eq_some_iff.mp H
  obtain ⟨t143, A20, H⟩ := H
  replace H : (if t143 = true then ((turnoutlaw03_awake.f k).bind fun t144 => (some t144)) else ((turnoutref03_Joined.f k l0).bind fun t145 => ((sum_Sum.f k l0).bind fun t146 => ((turnoutref03_Sum.f k t145).bind fun t147 => (if t146 = t147 then ((sum_Of.f k l0).bind fun t148 => ((turnoutref03_Of.f k t145).bind fun t149 => (if t148 = t149 then ((sum_Sum.f k (([t145] : List ByteArray))).bind fun t153 => ((turnoutref03_Sum.f k t145).bind fun t154 => (if t153 = t154 then ((sum_Good.f k t145).bind fun t155 => ((turnoutref03_Sum.f k t145).bind fun t156 => (if (t155 == (t156 == 65535)) = true then ((turnoutlaw03_awake.f k).bind fun t157 => (some t157)) else (some false)))) else (some false)))) else (some false)))) else (some false)))))) = some r := H
  have A2 := Aside0.mk A20
  clear A20
  by_cases c3 : t143 = true
  · subst c3
    have H1 : ((turnoutlaw03_awake.f k).bind fun t144 => (some t144)) = some r := by rw [if_pos rfl] at H; exact H
    clear H
    have H := H1
    clear H1
    replace H := Option.bind_eq_some_iff.mp H
    obtain ⟨t144, A40, H⟩ := H
    replace H : (some t144) = some r := H
    have A4 := Aside0.mk A40
    clear A40
    obtain rfl := Option.some.inj H
    go_enter Try.func4, Try.ntmps4
    go_wp2_with (first | ((with_reducible refine gate_callee (f := 18) rfl ?_); refine goesL_ (some 5) rfl rfl Try.func18 (by kernel_rfl) rfl #[.slice A0 l0.length c0] rfl (by (try simp only [List.map_toArray, List.map_cons, List.map_nil]); first | done | rfl | (simp only [List.length_drop, List.length_take]; rfl)) ?_; (with_reducible refine (turnoutlaw03_long.calls k _ _ l0 true _ ?side1 ?side2 A2.out).mono ?_); (case side1 => repeat (first | exact HR0.out | (with_reducible refine Kd.C_alloc ?_ _) | (with_reducible refine Kd.C_drewN ?_ _) | (with_reducible refine Kd.C_drew ?_))); (case side2 => exact HC0.out); rintro e w5 ⟨rfl, hb⟩; refine ⟨_, rfl, ?_⟩; have n0_ := Aside0.mk (below_step (by repeat (first | (with_reducible first | exact HB.out | apply below_alloc | apply pw_below_drewN | apply below_drew1) | exact HB.out)) hb); clear HB; have HB := n0_; clear n0_; (try clear hb); (try clear hb2); (try clear hk); (try clear hi)) | ((with_reducible refine gate_callee (f := 12) rfl ?_); refine goesL_ (some 6) rfl rfl Try.func12 (by kernel_rfl) rfl #[] rfl (by (try simp only [List.map_toArray, List.map_cons, List.map_nil]); first | done | rfl | (simp only [List.length_drop, List.length_take]; rfl)) ?_; (with_reducible refine (turnoutlaw03_awake.calls k  t144 _ A4.out).mono ?_); rintro e w6 ⟨rfl, hb⟩; refine ⟨_, rfl, ?_⟩; have n0_ := Aside0.mk (below_step (by repeat (first | (with_reducible first | exact HB.out | apply below_alloc | apply pw_below_drewN | apply below_drew1) | exact HB.out)) hb); clear HB; have HB := n0_; clear n0_; (try clear hb); (try clear hb2); (try clear hk); (try clear hi)))
    go_ret
    exact ⟨by first | rfl | (simp [errW_none, errW_some] <;> rfl) | (simp [*, errW_none, errW_some] <;> rfl), by repeat (first | (with_reducible first | exact HB.out | apply below_alloc | apply pw_below_drewN | apply below_drew1) | exact HB.out)⟩
  · replace c3 := Bool.eq_false_iff.mpr c3
    subst c3
    have H1 : ((turnoutref03_Joined.f k l0).bind fun t145 => ((sum_Sum.f k l0).bind fun t146 => ((turnoutref03_Sum.f k t145).bind fun t147 => (if t146 = t147 then ((sum_Of.f k l0).bind fun t148 => ((turnoutref03_Of.f k t145).bind fun t149 => (if t148 = t149 then ((sum_Sum.f k (([t145] : List ByteArray))).bind fun t153 => ((turnoutref03_Sum.f k t145).bind fun t154 => (if t153 = t154 then ((sum_Good.f k t145).bind fun t155 => ((turnoutref03_Sum.f k t145).bind fun t156 => (if (t155 == (t156 == 65535)) = true then ((turnoutlaw03_awake.f k).bind fun t157 => (some t157)) else (some false)))) else (some false)))) else (some false)))) else (some false))))) = some r := by rw [if_neg (show ¬ (false = true) by decide)] at H; exact H
    clear H
    have H := H1
    clear H1
    replace H := Option.bind_eq_some_iff.mp H
    obtain ⟨t145, A70, H⟩ := H
    replace H : ((sum_Sum.f k l0).bind fun t146 => ((turnoutref03_Sum.f k t145).bind fun t147 => (if t146 = t147 then ((sum_Of.f k l0).bind fun t148 => ((turnoutref03_Of.f k t145).bind fun t149 => (if t148 = t149 then ((sum_Sum.f k (([t145] : List ByteArray))).bind fun t153 => ((turnoutref03_Sum.f k t145).bind fun t154 => (if t153 = t154 then ((sum_Good.f k t145).bind fun t155 => ((turnoutref03_Sum.f k t145).bind fun t156 => (if (t155 == (t156 == 65535)) = true then ((turnoutlaw03_awake.f k).bind fun t157 => (some t157)) else (some false)))) else (some false)))) else (some false)))) else (some false)))) = some r := H
    have A7 := Aside0.mk A70
    clear A70
    replace H := Option.bind_eq_some_iff.mp H
    obtain ⟨t146, A80, H⟩ := H
    replace H : ((turnoutref03_Sum.f k t145).bind fun t147 => (if t146 = t147 then ((sum_Of.f k l0).bind fun t148 => ((turnoutref03_Of.f k t145).bind fun t149 => (if t148 = t149 then ((sum_Sum.f k (([t145] : List ByteArray))).bind fun t153 => ((turnoutref03_Sum.f k t145).bind fun t154 => (if t153 = t154 then ((sum_Good.f k t145).bind fun t155 => ((turnoutref03_Sum.f k t145).bind fun t156 => (if (t155 == (t156 == 65535)) = true then ((turnoutlaw03_awake.f k).bind fun t157 => (some t157)) else (some false)))) else (some false)))) else (some false)))) else (some false))) = some r := H
    have A8 := Aside0.mk A80
    clear A80
    replace H := Option.bind_eq_some_iff.mp H
    obtain ⟨t147, A90, H⟩ := H
    replace H : (if t146 = t147 then ((sum_Of.f k l0).bind fun t148 => ((turnoutref03_Of.f k t145).bind fun t149 => (if t148 = t149 then ((sum_Sum.f k (([t145] : List ByteArray))).bind fun t153 => ((turnoutref03_Sum.f k t145).bind fun t154 => (if t153 = t154 then ((sum_Good.f k t145).bind fun t155 => ((turnoutref03_Sum.f k t145).bind fun t156 => (if (t155 == (t156 == 65535)) = true then ((turnoutlaw03_awake.f k).bind fun t157 => (some t157)) else (some false)))) else (some false)))) else (some false)))) else (some false)) = some r := H
    have A9 := Aside0.mk A90
    clear A90
    by_cases c10 : t146 = t147
    · rw [if_pos c10] at H
      have c10b0 : (t146 == t147) = true := beq_iff_eq.mpr c10
      have c10b1 : (t146 != t147) = false := bne_eq_false_iff_eq.mpr c10
      clear c10
      replace H := Option.bind_eq_some_iff.mp H
      obtain ⟨t148, A110, H⟩ := H
      replace H : ((turnoutref03_Of.f k t145).bind fun t149 => (if t148 = t149 then ((sum_Sum.f k (([t145] : List ByteArray))).bind fun t153 => ((turnoutref03_Sum.f k t145).bind fun t154 => (if t153 = t154 then ((sum_Good.f k t145).bind fun t155 => ((turnoutref03_Sum.f k t145).bind fun t156 => (if (t155 == (t156 == 65535)) = true then ((turnoutlaw03_awake.f k).bind fun t157 => (some t157)) else (some false)))) else (some false)))) else (some false))) = some r := H
      have A11 := Aside0.mk A110
      clear A110
      replace H := Option.bind_eq_some_iff.mp H
      obtain ⟨t149, A120, H⟩ := H
      replace H : (if t148 = t149 then ((sum_Sum.f k (([t145] : List ByteArray))).bind fun t153 => ((turnoutref03_Sum.f k t145).bind fun t154 => (if t153 = t154 then ((sum_Good.f k t145).bind fun t155 => ((turnoutref03_Sum.f k t145).bind fun t156 => (if (t155 == (t156 == 65535)) = true then ((turnoutlaw03_awake.f k).bind fun t157 => (some t157)) else (some false)))) else (some false)))) else (some false)) = some r := H
      have A12 := Aside0.mk A120
      clear A120
      by_cases c13 : t148 = t149
      · rw [if_pos c13] at H
        have c13b0 : (t148 == t149) = true := beq_iff_eq.mpr c13
        have c13b1 : (t148 != t149) = false := bne_eq_false_iff_eq.mpr c13
        clear c13
        obtain ⟨y150, hy150⟩ : ∃ y_ : List ByteArray, y_ = (([t145] : List ByteArray)) := ⟨_, rfl⟩
        replace H : ((sum_Sum.f k y150).bind fun t153 => ((turnoutref03_Sum.f k t145).bind fun t154 => (if t153 = t154 then ((sum_Good.f k t145).bind fun t155 => ((turnoutref03_Sum.f k t145).bind fun t156 => (if (t155 == (t156 == 65535)) = true then ((turnoutlaw03_awake.f k).bind fun t157 => (some t157)) else (some false)))) else (some false)))) = some r := by first | (rw [hy150]; with_reducible exact H) | (have H2_ := (Option.bind_some _ _).symm.trans H; rw [hy150]; with_reducible exact H2_) | (have H2_ := (Option.bind_some _ _).symm.trans H; with_reducible exact H2_) | with_reducible exact H | (rw [hy150]; exact H) | exact H
        have Ny150 := Aside0.mk hy150
        clear hy150
        replace H := Option.bind_eq_some_iff.mp H
        obtain ⟨t153, A140, H⟩ := H
        replace H : ((turnoutref03_Sum.f k t145).bind fun t154 => (if t153 = t154 then ((sum_Good.f k t145).bind fun t155 => ((turnoutref03_Sum.f k t145).bind fun t156 => (if (t155 == (t156 == 65535)) = true then ((turnoutlaw03_awake.f k).bind fun t157 => (some t157)) else (some false)))) else (some false))) = some r := H
        have A14 := Aside0.mk A140
        clear A140
        replace H := Option.bind_eq_some_iff.mp H
        obtain ⟨t154, A150, H⟩ := H
        replace H : (if t153 = t154 then ((sum_Good.f k t145).bind fun t155 => ((turnoutref03_Sum.f k t145).bind fun t156 => (if (t155 == (t156 == 65535)) = true then ((turnoutlaw03_awake.f k).bind fun t157 => (some t157)) else (some false)))) else (some false)) = some r := H
        have hsame_ := Option.some.inj (A9.out.symm.trans A150)
        obtain rfl := hsame_
        clear A150
        by_cases c16 : t153 = t147
        · rw [if_pos c16] at H
          have c16b0 : (t153 == t147) = true := beq_iff_eq.mpr c16
          have c16b1 : (t153 != t147) = false := bne_eq_false_iff_eq.mpr c16
          clear c16
          replace H := Option.bind_eq_some_iff.mp H
          obtain ⟨t155, A170, H⟩ := H
          replace H : ((turnoutref03_Sum.f k t145).bind fun t156 => (if (t155 == (t156 == 65535)) = true then ((turnoutlaw03_awake.f k).bind fun t157 => (some t157)) else (some false))) = some r := H
          have A17 := Aside0.mk A170
          clear A170
          replace H := Option.bind_eq_some_iff.mp H
          obtain ⟨t156, A180, H⟩ := H
          replace H : (if (t155 == (t156 == 65535)) = true then ((turnoutlaw03_awake.f k).bind fun t157 => (some t157)) else (some false)) = some r := H
          have hsame_ := Option.some.inj (A9.out.symm.trans A180)
          obtain rfl := hsame_
          clear A180
          by_cases c19 : (t155 == (t147 == 65535)) = true
          · rw [if_pos c19] at H
            have c19b0 : (t155 == (t147 == 65535)) = true := c19
            (try (have c19b1 : decide (t155 = (t147 == 65535)) = true := by simpa using c19))
            (try (have c19b2 : (t155 == (t147 == 65535)) = true := by simpa using c19))
            clear c19
            replace H := Option.bind_eq_some_iff.mp H
            obtain ⟨t157, A200, H⟩ := H
            replace H : (some t157) = some r := H
            have A20 := Aside0.mk A200
            clear A200
            obtain rfl := Option.some.inj H
            go_enter Try.func4, Try.ntmps4
            go_wp2_with (first | ((with_reducible refine gate_callee (f := 18) rfl ?_); refine goesL_ (some 5) rfl rfl Try.func18 (by kernel_rfl) rfl #[.slice A0 l0.length c0] rfl (by (try simp only [List.map_toArray, List.map_cons, List.map_nil]); first | done | rfl | (simp only [List.length_drop, List.length_take]; rfl)) ?_; (with_reducible refine (turnoutlaw03_long.calls k _ _ l0 false _ ?side1 ?side2 A2.out).mono ?_); (case side1 => repeat (first | exact HR0.out | (with_reducible refine Kd.C_alloc ?_ _) | (with_reducible refine Kd.C_drewN ?_ _) | (with_reducible refine Kd.C_drew ?_))); (case side2 => exact HC0.out); rintro e w21 ⟨rfl, hb⟩; refine ⟨_, rfl, ?_⟩; have n0_ := Aside0.mk (below_step (by repeat (first | (with_reducible first | exact HB.out | apply below_alloc | apply pw_below_drewN | apply below_drew1) | exact HB.out)) hb); clear HB; have HB := n0_; clear n0_; (try clear hb); (try clear hb2); (try clear hk); (try clear hi)) | ((with_reducible refine gate_callee (f := 19) rfl ?_); refine goesL_ (some 8) rfl rfl Try.func19 (by kernel_rfl) rfl #[.slice A0 l0.length c0] rfl (by (try simp only [List.map_toArray, List.map_cons, List.map_nil]); first | done | rfl | (simp only [List.length_drop, List.length_take]; rfl)) ?_; (with_reducible refine (turnoutref03_Joined.calls k _ _ l0 t145 _ ?side1 ?side2 A7.out).mono ?_); (case side1 => repeat (first | exact (Kd.C_below HR0.out HB.out) | (with_reducible refine Kd.C_alloc ?_ _) | (with_reducible refine Kd.C_drewN ?_ _) | (with_reducible refine Kd.C_drew ?_))); (case side2 => exact HC0.out); rintro e w' ⟨rfl, ⟨nd, rfl⟩⟩; refine ⟨_, rfl, ?_⟩) | ((with_reducible refine gate_callee (f := 13) rfl ?_); refine goesL_ (some 10) rfl rfl Try.func13 (by kernel_rfl) rfl #[.slice A0 l0.length c0] rfl (by (try simp only [List.map_toArray, List.map_cons, List.map_nil]); first | done | rfl | (simp only [List.length_drop, List.length_take]; rfl)) ?_; (with_reducible refine (sum_Sum.calls k _ _ l0 t146 _ ?side1 ?side2 A8.out).mono ?_); (case side1 => repeat (first | exact (Kd.C_below HR0.out (by repeat (first | (with_reducible first | exact HB.out | apply below_alloc | apply pw_below_drewN | apply below_drew1) | exact HB.out))) | (with_reducible refine Kd.C_alloc ?_ _) | (with_reducible refine Kd.C_drewN ?_ _) | (with_reducible refine Kd.C_drew ?_))); (case side2 => exact HC0.out); rintro e w' ⟨rfl, ⟨nd, rfl⟩⟩; refine ⟨_, rfl, ?_⟩) | ((with_reducible refine gate_callee (f := 20) rfl ?_); refine goesL_ (some 12) rfl rfl Try.func20 (by kernel_rfl) rfl #[.string t145] rfl (by (try simp only [List.map_toArray, List.map_cons, List.map_nil]); first | done | rfl | (simp only [List.length_drop, List.length_take]; rfl)) ?_; (with_reducible refine (turnoutref03_Sum.calls k t145 t147 _ A9.out).mono ?_); rintro e w' ⟨rfl, ⟨nd, rfl⟩⟩; refine ⟨_, rfl, ?_⟩) | (go_at_call 14; (with_reducible refine (sum_Of.calls k _ _ l0 t148 _ ?side1 ?side2 A11.out).mono ?_); (case side1 => repeat (first | exact (Kd.C_below HR0.out (by repeat (first | (with_reducible first | exact HB.out | apply below_alloc | apply pw_below_drewN | apply below_drew1) | exact HB.out))) | (with_reducible refine Kd.C_alloc ?_ _) | (with_reducible refine Kd.C_drewN ?_ _) | (with_reducible refine Kd.C_drew ?_))); (case side2 => exact HC0.out); rintro e w' ⟨rfl, ⟨nd, rfl⟩⟩) | (go_at_call 21; (with_reducible refine (turnoutref03_Of.calls k t145 t149 _ A12.out).mono ?_); rintro e w' ⟨rfl, ⟨nd, rfl⟩⟩) | ((with_reducible refine gate_dst (N := 23) rfl ?_); (try (refine gate_guard (by rfl) ?_; dsimp only)); refine Kd.R_lit Kd.string _ 9 ?hg (N := 23) ?hd (xs := ([t145] : List ByteArray)) (inner := [.string t145]) (ok := fun _ => True) (okp := fun _ => True) ?hr ?hp (fun _ hk => hk) trivial (Below.refl _ _) (Nat.le_refl _) (by simp) ?_; (case hd => rfl); (case hg => rfl); (case hr => first | (go_simp; done) | (go_simp; rfl)); (case hp => exact (Reps.one (show Kd.M Kd.string _ _ _ t145 [.string t145] from rfl) (Reps.none _ _))); intro v151 w22 ho23 hb hg_ hnew_; clear hg_ hnew_; (first | rw [← Ny150.out] at ho23 | (simp only [Int.reduceToNat] at ho23; rw [← Ny150.out] at ho23)); have n0_ := Aside0.mk (Kd.R_lower ho23 (below_size (by repeat (first | (with_reducible first | exact HB.out | apply below_alloc | apply pw_below_drewN | apply below_drew1) | exact HB.out)))); have n1_ := Aside0.mk (below_step (by repeat (first | (with_reducible first | exact HB.out | apply below_alloc | apply pw_below_drewN | apply below_drew1) | exact HB.out)) hb); clear HB; have HO152 := n0_; have HB := n1_; clear n0_ n1_; clear hb ho23; obtain ⟨Ao24, co24, eo24⟩ := Kd.R_slice HO152.out; subst eo24) | (go_at_call 13; (with_reducible refine (sum_Sum.calls k _ _ y150 t153 _ ?side1 ?side2 A14.out).mono ?_); (case side1 => repeat (first | exact (Kd.R_reads' HO152.out).2.2 | (with_reducible refine Kd.C_alloc ?_ _) | (with_reducible refine Kd.C_drewN ?_ _) | (with_reducible refine Kd.C_drew ?_))); (case side2 => exact (Kd.R_reads' HO152.out).2.1); rintro e w' ⟨rfl, ⟨nd, rfl⟩⟩) | (go_at_call 20; (with_reducible refine (turnoutref03_Sum.calls k t145 t147 _ A9.out).mono ?_); rintro e w' ⟨rfl, ⟨nd, rfl⟩⟩) | (go_at_call 16; (with_reducible refine (sum_Good.calls k t145 t155 _ A17.out).mono ?_); rintro e w25 ⟨rfl, hb⟩; have n0_ := Aside0.mk (Kd.R_below (by (with_reducible repeat (first | apply Kd.R_alloc | apply Kd.R_drewN | apply Kd.R_drew)); exact HO152.out) hb); have n1_ := Aside0.mk (below_step (by repeat (first | (with_reducible first | exact HB.out | apply below_alloc | apply pw_below_drewN | apply below_drew1) | exact HB.out)) hb); clear HO152; clear HB; have HO152 := n0_; have HB := n1_; clear n0_ n1_; (try clear hb); (try clear hb2); (try clear hk); (try clear hi)) | (go_at_call 20; (with_reducible refine (turnoutref03_Sum.calls k t145 t147 _ A9.out).mono ?_); rintro e w' ⟨rfl, ⟨nd, rfl⟩⟩) | (go_at_call 12; (with_reducible refine (turnoutlaw03_awake.calls k  t157 _ A20.out).mono ?_); rintro e w26 ⟨rfl, hb⟩; have n0_ := Aside0.mk (Kd.R_below (by (with_reducible repeat (first | apply Kd.R_alloc | apply Kd.R_drewN | apply Kd.R_drew)); exact HO152.out) hb); have n1_ := Aside0.mk (below_step (by repeat (first | (with_reducible first | exact HB.out | apply below_alloc | apply pw_below_drewN | apply below_drew1) | exact HB.out)) hb); clear HO152; clear HB; have HO152 := n0_; have HB := n1_; clear n0_ n1_; (try clear hb); (try clear hb2); (try clear hk); (try clear hi)))
            go_ret
            exact ⟨by first | rfl | (simp [errW_none, errW_some] <;> rfl) | (simp [*, errW_none, errW_some] <;> rfl), by repeat (first | (with_reducible first | exact HB.out | apply below_alloc | apply pw_below_drewN | apply below_drew1) | exact HB.out)⟩
          · rw [if_neg c19] at H
            have c19b0 : (t155 == (t147 == 65535)) = false := by simpa using c19
            (try (have c19b1 : decide (t155 = (t147 == 65535)) = false := by simpa using c19))
            (try (have c19b2 : (t155 == (t147 == 65535)) = false := by simpa using c19))
            (try (have c19b3 : ¬ (t155 = (t147 == 65535)) := by simpa using c19))
            clear c19
            exact absurd ((Option.some.inj H).trans hr_.out) (by decide)
        · rw [if_neg c16] at H
          have c16b0 : (t153 == t147) = false := beq_eq_false_iff_ne.mpr c16
          have c16b1 : (t153 != t147) = true := bne_iff_ne.mpr c16
          exact absurd ((Option.some.inj H).trans hr_.out) (by decide)
      · rw [if_neg c13] at H
        have c13b0 : (t148 == t149) = false := beq_eq_false_iff_ne.mpr c13
        have c13b1 : (t148 != t149) = true := bne_iff_ne.mpr c13
        exact absurd ((Option.some.inj H).trans hr_.out) (by decide)
    · rw [if_neg c10] at H
      have c10b0 : (t146 == t147) = false := beq_eq_false_iff_ne.mpr c10
      have c10b1 : (t146 != t147) = true := bne_iff_ne.mpr c10
      exact absurd ((Option.some.inj H).trans hr_.out) (by decide)

/-- THE ONE PURE STATEMENT of turnoutlaw03_SumTells: yours. -/
def turnoutlaw03_SumTells.Pure : Prop := ∀ (l0 : List ByteArray), l0.length * 16 ≤ 140737488351232 → (∀ x ∈ l0, x.size ≤ maxLen) → ∃ k, turnoutlaw03_SumTells.f k l0 = some true
theorem turnoutlaw03_SumTells.walk (P : turnoutlaw03_SumTells.Pure) (a0 : Option Addr) (cap0 : Nat) (l0 : List ByteArray) (w : World) (w0 : Kd.string.C w a0 l0.length l0) (hc0 : l0.length ≤ cap0) (y0 : l0.length * 16 ≤ 140737488351232) (z0 : ∀ x ∈ l0, x.size ≤ maxLen) :
    Calls Try.prog 4 #[.slice a0 l0.length cap0] w fun e w' => e = .returned (.bool true) ∧ Below w.heap.size w w' := by
  obtain ⟨k, h⟩ := P l0 y0 z0
  refine (turnoutlaw03_SumTells.calls k _ _ l0 true w w0 hc0 h ⟨rfl⟩).mono ?_
  rintro e w' ⟨rfl, hd⟩
  exact ⟨rfl, hd⟩

end Go.Proofs.Ytieopkigfbnhcaa.PSumT
