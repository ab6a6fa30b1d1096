-- Written by wip/turnprint.py, a program of this session (the kit's print, turned).
import Derived.Test.YtgpahhobifdapaaPFieldx0
import Derived.Test.YtgpahhobifdapaaPFieldx2
namespace Go.Proofs.Ytgpahhobifdapaa.PField
open Go.RowKit Go.Proofs.YtgpahhobifdapaaW.PrintWords Go.Proofs.YtgpahhobifdapaaW.PrintLast Go.Proofs.YtgpahhobifdapaaW.PrintMore
attribute [local go_sem] max2_int min2_int max_two min_two max_three min_three max_four min_four   -- for this text's walks alone
set_option linter.unusedVariables false
set_option linter.unusedSimpArgs false

attribute [local go_sem high] xorA_u8 xorA_u16 xorA_u32 xorA_u64
/-! ### field_Prefix: function 20 -/
mutual
def field_Prefix.j1 : Nat → ByteArray → ByteArray → Int → Option (Int)
  | 0, _, _, _ => none
  | k + 1, x0, x1, x5 => if x5 = (x0.size : Int) then (field_Prefix.j2 k x0 x1 x5 true) else (field_Prefix.j2 k x0 x1 x5 (x5 == (x1.size : Int)))
def field_Prefix.j2 : Nat → ByteArray → ByteArray → Int → Bool → Option (Int)
  | 0, _, _, _, _ => none
  | k + 1, x0, x1, x5, x38 => if x38 = true then (some (wrap64 (8 * x5))) else (if 0 ≤ x5 then (if x5 < (x0.size : Int) then (if x5 < (x1.size : Int) then (field_Prefix.l1 k x5 0 (Go.bits .xor .u8 (bt x0 x5) (bt x1 x5))) else (none)) else (none)) else (none))
def field_Prefix.l1 : Nat → Int → Int → Int → Option (Int)
  | 0, _, _, _ => none
  | k + 1, x5, x6, x7 => if x7 < 128 then (field_Prefix.l1 k x5 (wrap64 (x6 + 1)) ((x7 * 2) % 256)) else (some (wrap64 ((wrap64 (8 * x5)) + x6)))
def field_Prefix.l0 : Nat → ByteArray → ByteArray → Int → Option (Int)
  | 0, _, _, _ => none
  | k + 1, x0, x1, x5 => if x5 < (x0.size : Int) then (if x5 < (x1.size : Int) then (if 0 ≤ x5 then (if (bt x0 x5) = (bt x1 x5) then (field_Prefix.l0 k x0 x1 (wrap64 (x5 + 1))) else (field_Prefix.j1 k x0 x1 x5)) else (none)) else (field_Prefix.j1 k x0 x1 x5)) else (field_Prefix.j1 k x0 x1 x5)
end
def field_Prefix.f (k : Nat) (a0 : ByteArray) (a1 : ByteArray) : Option (Int) := field_Prefix.l0 k a0 a1 0
theorem field_Prefix.mono_l : ∀ k, (∀ y0 y1 y2, LeO (field_Prefix.j1 k y0 y1 y2) (field_Prefix.j1 (k + 1) y0 y1 y2)) ∧ (∀ y0 y1 y2 y3, LeO (field_Prefix.j2 k y0 y1 y2 y3) (field_Prefix.j2 (k + 1) y0 y1 y2 y3)) ∧ (∀ y0 y1 y2, LeO (field_Prefix.l1 k y0 y1 y2) (field_Prefix.l1 (k + 1) y0 y1 y2)) ∧ (∀ y0 y1 y2, LeO (field_Prefix.l0 k y0 y1 y2) (field_Prefix.l0 (k + 1) y0 y1 y2))
  | 0 => ⟨fun _ _ _ r h => by simp [field_Prefix.j1] at h, fun _ _ _ _ r h => by simp [field_Prefix.j2] at h, fun _ _ _ r h => by simp [field_Prefix.l1] at h, fun _ _ _ r h => by simp [field_Prefix.l0] at h⟩
  | k + 1 => by
   obtain ⟨ih0, ih1, ih2, ih3⟩ := field_Prefix.mono_l k
   refine ⟨?_, ?_, ?_, ?_⟩
   ·
    intro y0 y1 y2
    unfold field_Prefix.j1
    repeat' first
    | (with_reducible exact ih0 _ _ _)
    | (with_reducible exact ih1 _ _ _ _)
    | (with_reducible exact ih2 _ _ _)
    | (with_reducible exact ih3 _ _ _)
    | (with_reducible exact LeO.refl _)
    | (with_reducible exact LeO.none _)
    | (with_reducible refine LeO.ite ?_ ?_)
    | (with_reducible refine LeO.bind ?_ (fun _ => ?_))
    | exact ih0 _ _ _
    | exact ih1 _ _ _ _
    | exact ih2 _ _ _
    | exact ih3 _ _ _
    | exact LeO.none _
    | refine LeO.ite ?_ ?_
    | refine LeO.bind ?_ (fun _ => ?_)
   ·
    intro y0 y1 y2 y3
    unfold field_Prefix.j2
    repeat' first
    | (with_reducible exact ih0 _ _ _)
    | (with_reducible exact ih1 _ _ _ _)
    | (with_reducible exact ih2 _ _ _)
    | (with_reducible exact ih3 _ _ _)
    | (with_reducible exact LeO.refl _)
    | (with_reducible exact LeO.none _)
    | (with_reducible refine LeO.ite ?_ ?_)
    | (with_reducible refine LeO.bind ?_ (fun _ => ?_))
    | exact ih0 _ _ _
    | exact ih1 _ _ _ _
    | exact ih2 _ _ _
    | exact ih3 _ _ _
    | exact LeO.none _
    | refine LeO.ite ?_ ?_
    | refine LeO.bind ?_ (fun _ => ?_)
   ·
    intro y0 y1 y2
    unfold field_Prefix.l1
    repeat' first
    | (with_reducible exact ih0 _ _ _)
    | (with_reducible exact ih1 _ _ _ _)
    | (with_reducible exact ih2 _ _ _)
    | (with_reducible exact ih3 _ _ _)
    | (with_reducible exact LeO.refl _)
    | (with_reducible exact LeO.none _)
    | (with_reducible refine LeO.ite ?_ ?_)
    | (with_reducible refine LeO.bind ?_ (fun _ => ?_))
    | exact ih0 _ _ _
    | exact ih1 _ _ _ _
    | exact ih2 _ _ _
    | exact ih3 _ _ _
    | exact LeO.none _
    | refine LeO.ite ?_ ?_
    | refine LeO.bind ?_ (fun _ => ?_)
   ·
    intro y0 y1 y2
    unfold field_Prefix.l0
    repeat' first
    | (with_reducible exact ih0 _ _ _)
    | (with_reducible exact ih1 _ _ _ _)
    | (with_reducible exact ih2 _ _ _)
    | (with_reducible exact ih3 _ _ _)
    | (with_reducible exact LeO.refl _)
    | (with_reducible exact LeO.none _)
    | (with_reducible refine LeO.ite ?_ ?_)
    | (with_reducible refine LeO.bind ?_ (fun _ => ?_))
    | exact ih0 _ _ _
    | exact ih1 _ _ _ _
    | exact ih2 _ _ _
    | exact ih3 _ _ _
    | exact LeO.none _
    | refine LeO.ite ?_ ?_
    | refine LeO.bind ?_ (fun _ => ?_)
theorem field_Prefix.mono : ∀ a0 a1 k, LeO (field_Prefix.f k a0 a1) (field_Prefix.f (k + 1) a0 a1) := by
  intro a0 a1 k
  obtain ⟨ih0, ih1, ih2, ih3⟩ := field_Prefix.mono_l k
  unfold field_Prefix.f
  repeat' first
    | (with_reducible exact ih0 _ _ _)
    | (with_reducible exact ih1 _ _ _ _)
    | (with_reducible exact ih2 _ _ _)
    | (with_reducible exact ih3 _ _ _)
    | (with_reducible exact LeO.refl _)
    | (with_reducible exact LeO.none _)
    | (with_reducible refine LeO.ite ?_ ?_)
    | (with_reducible refine LeO.bind ?_ (fun _ => ?_))
    | exact ih0 _ _ _
    | exact ih1 _ _ _ _
    | exact ih2 _ _ _
    | exact ih3 _ _ _
    | exact LeO.none _
    | refine LeO.ite ?_ ?_
    | refine LeO.bind ?_ (fun _ => ?_)
set_option maxHeartbeats 8000000 in
set_option maxRecDepth 100000 in
theorem field_Prefix.calls (k : Nat) (a0 : ByteArray) (a1 : ByteArray) (r : Int) (w : World) (h : field_Prefix.f k a0 a1 = some r) :
   Calls Try.prog 20 #[.string a0, .string a1] w fun e w' => e = .returned (.int .i64 r) ∧ Drawn0 w w' := by
  have H : (field_Prefix.l0 k a0 a1 0) = some r := h
  clear h
  have HC3 := Aside0.mk H
  clear H
  go_enter Try.func20, Try.ntmps20
  go_upto_block 0 with (fail)
  repeat (go_quiet (fail); go_upto_block 0 with (fail))
  go_cut [5] (fun v5 wc => ∃ (kq : Nat) (x5_2 : Int), v5 = .int .i64 x5_2 ∧ Aside0 (field_Prefix.j1 kq a0 a1 x5_2 = some r) ∧ Aside0 (kq ≤ k) ∧ Drawn0 w wc)
  case first =>
   have H := HC3.out
   clear HC3
   have H' := Aside0.mk H
   clear H
   go_wp2
   repeat (go_quiet (fail); try go_wp2)
   go_loopg [5] k (fun kq v5 w' => ∃ (x5_1 : Int), v5 = .int .i64 x5_1 ∧ Aside0 (field_Prefix.l0 kq a0 a1 x5_1 = some r) ∧ Aside0 (kq ≤ k) ∧ Drawn0 w w')
   case atStart => exact ⟨(0), (by first | rfl | (simp; done) | (simp [*]; done)), H', ⟨Nat.le_refl _⟩, by repeat (first | exact Drawn0.refl _ | apply Drawn0.step)⟩
   case round =>
    clear H'
    try clear c2
    try clear p2
    obtain ⟨x5_1, rfl, HA, HK1, ⟨m1, rfl⟩⟩ := hrel
    cases gk with
    | zero => exact absurd HA.out (by simp [field_Prefix.l0])
    | succ k1 =>
     have H := HA.out
     clear HA
     simp only [field_Prefix.l0] at H
     by_cases c4 : x5_1 < (a0.size : Int)
     ·
      rw [if_pos c4] at H
      have c4b0 : decide (x5_1 < (a0.size : Int)) = true := decide_eq_true c4
      clear c4
      (first | rw [c4b0] | (simp only [i64_w, i32_w]; rw [c4b0]) | skip)
      by_cases c5 : x5_1 < (a1.size : Int)
      ·
       rw [if_pos c5] at H
       have c5b0 : decide (x5_1 < (a1.size : Int)) = true := decide_eq_true c5
       clear c5
       by_cases c6 : 0 ≤ x5_1
       ·
        rw [if_pos c6] at H
        have c6b0 : decide (0 ≤ x5_1) = true := decide_eq_true c6
        clear c6
        by_cases c9 : (bt a0 x5_1) = (bt a1 x5_1)
        ·
         rw [if_pos c9] at H
         have c9b0 : ((bt a0 x5_1) == (bt a1 x5_1)) = true := beq_iff_eq.mpr c9
         have c9b1 : ((bt a0 x5_1) != (bt a1 x5_1)) = false := bne_eq_false_iff_eq.mpr c9
         clear c9
         have H' := Aside0.mk H
         clear H
         have p7 : 0 ≤ (x5_1 : Int) := of_decide_eq_true (by first | (with_reducible assumption) | assumption)
         have q7 : x5_1 < (a0.size : Int) := of_decide_eq_true (by first | (with_reducible assumption) | assumption)
         have hx7 := bt_at a0 x5_1
         replace p7 := eq_true p7
         replace q7 := eq_true q7
         have p8 : 0 ≤ (x5_1 : Int) := of_decide_eq_true (by first | (with_reducible assumption) | assumption)
         have q8 : x5_1 < (a1.size : Int) := of_decide_eq_true (by first | (with_reducible assumption) | assumption)
         have hx8 := bt_at a1 x5_1
         replace p8 := eq_true p8
         replace q8 := eq_true q8
         go_wp2
         repeat (go_quiet (fail); try go_wp2)
         go_roundg k1
         case measure => have := HK1.out; omega
         case rel => exact ⟨(wrap64 (x5_1 + 1)), (by first | rfl | (simp; done) | (simp [*]; done)), H', ⟨by have := HK1.out; omega⟩, by repeat (first | exact Drawn0.refl _ | apply Drawn0.step)⟩
        ·
         rw [if_neg c9] at H
         have c9b0 : ((bt a0 x5_1) == (bt a1 x5_1)) = false := beq_eq_false_iff_ne.mpr c9
         have c9b1 : ((bt a0 x5_1) != (bt a1 x5_1)) = true := bne_iff_ne.mpr c9
         have H' := Aside0.mk H
         clear H
         have p7 : 0 ≤ (x5_1 : Int) := of_decide_eq_true (by first | (with_reducible assumption) | assumption)
         have q7 : x5_1 < (a0.size : Int) := of_decide_eq_true (by first | (with_reducible assumption) | assumption)
         have hx7 := bt_at a0 x5_1
         replace p7 := eq_true p7
         replace q7 := eq_true q7
         have p8 : 0 ≤ (x5_1 : Int) := of_decide_eq_true (by first | (with_reducible assumption) | assumption)
         have q8 : x5_1 < (a1.size : Int) := of_decide_eq_true (by first | (with_reducible assumption) | assumption)
         have hx8 := bt_at a1 x5_1
         replace p8 := eq_true p8
         replace q8 := eq_true q8
         go_wp2
         repeat (go_quiet (fail); try go_wp2)
         go_meet
         case rel => exact ⟨_, (x5_1), (by first | rfl | (simp; done) | (simp [*]; done)), H', ⟨by have := HK1.out; first | omega | exact Nat.le_refl _⟩, by repeat (first | exact Drawn0.refl _ | apply Drawn0.step)⟩
       ·
        rw [if_neg c6] at H
        exact absurd H (by simp)
      ·
       rw [if_neg c5] at H
       have c5b0 : decide (x5_1 < (a1.size : Int)) = false := decide_eq_false c5
       clear c5
       have H' := Aside0.mk H
       clear H
       go_wp2
       repeat (go_quiet (fail); try go_wp2)
       go_meet
       case rel => exact ⟨_, (x5_1), (by first | rfl | (simp; done) | (simp [*]; done)), H', ⟨by have := HK1.out; first | omega | exact Nat.le_refl _⟩, by repeat (first | exact Drawn0.refl _ | apply Drawn0.step)⟩
     ·
      rw [if_neg c4] at H
      have c4b0 : decide (x5_1 < (a0.size : Int)) = false := decide_eq_false c4
      clear c4
      (first | rw [c4b0] | (simp only [i64_w, i32_w]; rw [c4b0]) | skip)
      have H' := Aside0.mk H
      clear H
      go_wp2
      repeat (go_quiet (fail); try go_wp2)
      go_meet
      case rel => exact ⟨_, (x5_1), (by first | rfl | (simp; done) | (simp [*]; done)), H', ⟨by have := HK1.out; first | omega | exact Nat.le_refl _⟩, by repeat (first | exact Drawn0.refl _ | apply Drawn0.step)⟩
  case rest =>
   clear HC3
   try clear c2
   try clear p2
   try clear c4
   try clear c4b0
   try clear c5
   try clear c5b0
   try clear c6
   try clear c6b0
   try clear p6
   try clear p7
   try clear q7
   try clear hx7
   try clear p8
   try clear q8
   try clear hx8
   try clear c9
   try clear c9b0
   try clear c9b1
   try clear p2
   try clear p7
   try clear p8
   try clear q7
   try clear q8
   obtain ⟨kq, x5_2, rfl, HA, HJ2, ⟨mc2, rfl⟩⟩ := hcut
   cases kq with
   | zero => exact absurd HA.out (by simp [field_Prefix.j1])
   | succ kj2 =>
    have H := HA.out
    clear HA
    simp only [field_Prefix.j1] at H
    have HC10 := Aside0.mk H
    clear H
    go_upto_region 4 with (fail)
    repeat (go_quiet (fail); go_upto_region 4 with (fail))
    go_cut [38] (fun v38 wc => ∃ (kq : Nat) (x38_9 : Bool), v38 = .bool x38_9 ∧ Aside0 (field_Prefix.j2 kq a0 a1 x5_2 x38_9 = some r) ∧ Aside0 (kq ≤ kj2) ∧ Drawn0 w wc)
    case first =>
     have H := HC10.out
     clear HC10
     by_cases c11 : x5_2 = (a0.size : Int)
     ·
      rw [if_pos c11] at H
      have c11b0 : (x5_2 == (a0.size : Int)) = true := beq_iff_eq.mpr c11
      have c11b1 : (x5_2 != (a0.size : Int)) = false := bne_eq_false_iff_eq.mpr c11
      clear c11
      (first | rw [c11b0] | (simp only [i64_w, i32_w]; rw [c11b0]) | skip)
      have H' := Aside0.mk H
      clear H
      go_wp2
      repeat (go_quiet (fail); try go_wp2)
      go_meet
      case rel => exact ⟨_, (true), (by first | rfl | (simp; done) | (simp [*]; done)), H', ⟨by have := HJ2.out; first | omega | exact Nat.le_refl _⟩, by repeat (first | exact Drawn0.refl _ | apply Drawn0.step)⟩
     ·
      rw [if_neg c11] at H
      have c11b0 : (x5_2 == (a0.size : Int)) = false := beq_eq_false_iff_ne.mpr c11
      have c11b1 : (x5_2 != (a0.size : Int)) = true := bne_iff_ne.mpr c11
      (first | rw [c11b0] | (simp only [i64_w, i32_w]; rw [c11b0]) | skip)
      have H' := Aside0.mk H
      clear H
      go_wp2
      repeat (go_quiet (fail); try go_wp2)
      go_meet
      case rel => exact ⟨_, ((x5_2 == (a1.size : Int))), (by first | rfl | (simp; done) | (simp [*]; done)), H', ⟨by have := HJ2.out; first | omega | exact Nat.le_refl _⟩, by repeat (first | exact Drawn0.refl _ | apply Drawn0.step)⟩
    case rest =>
     clear HC10
     try clear c1
     try clear c2
     try clear p2
     try clear c4
     try clear c4b0
     try clear c5
     try clear c5b0
     try clear c6
     try clear c6b0
     try clear p6
     try clear p7
     try clear q7
     try clear hx7
     try clear p8
     try clear q8
     try clear hx8
     try clear c9
     try clear c9b0
     try clear c9b1
     try clear c11
     try clear c11b0
     try clear c11b1
     try clear p2
     try clear p6
     try clear p7
     try clear p8
     try clear q7
     try clear q8
     obtain ⟨kq, x38_9, rfl, HA, HJ9, ⟨mc9, rfl⟩⟩ := hcut
     cases kq with
     | zero => exact absurd HA.out (by simp [field_Prefix.j2])
     | succ kj9 =>
      have H := HA.out
      clear HA
      simp only [field_Prefix.j2] at H
      by_cases c12 : x38_9 = true
      ·
       subst c12
       have H1 : (some (wrap64 (8 * x5_2))) = some r := by rw [if_pos rfl] at H; exact H
       clear H; have H := H1; clear H1
       obtain rfl := Option.some.inj H
       go_wp2
       repeat (go_quiet (fail); try go_wp2)
       go_ret
       exact ⟨by first | rfl | (simp; done) | (simp [*]; done), by repeat (first | exact Drawn0.refl _ | apply Drawn0.step)⟩
      ·
       replace c12 := Bool.eq_false_iff.mpr c12
       subst c12
       have H1 : (if 0 ≤ x5_2 then (if x5_2 < (a0.size : Int) then (if x5_2 < (a1.size : Int) then (field_Prefix.l1 kj9 x5_2 0 (Go.bits .xor .u8 (bt a0 x5_2) (bt a1 x5_2))) else (none)) else (none)) else (none)) = some r := by rw [if_neg (show ¬ (false = true) by decide)] at H; exact H
       clear H; have H := H1; clear H1
       by_cases c13 : 0 ≤ x5_2
       ·
        rw [if_pos c13] at H
        have c13b0 : decide (0 ≤ x5_2) = true := decide_eq_true c13
        clear c13
        by_cases c14 : x5_2 < (a0.size : Int)
        ·
         rw [if_pos c14] at H
         have c14b0 : decide (x5_2 < (a0.size : Int)) = true := decide_eq_true c14
         clear c14
         by_cases c16 : x5_2 < (a1.size : Int)
         ·
          rw [if_pos c16] at H
          have c16b0 : decide (x5_2 < (a1.size : Int)) = true := decide_eq_true c16
          clear c16
          have H' := Aside0.mk H
          clear H
          have p15 : 0 ≤ (x5_2 : Int) := of_decide_eq_true (by first | (with_reducible assumption) | assumption)
          have q15 : x5_2 < (a0.size : Int) := of_decide_eq_true (by first | (with_reducible assumption) | assumption)
          have hx15 := bt_at a0 x5_2
          replace p15 := eq_true p15
          replace q15 := eq_true q15
          have p17 : 0 ≤ (x5_2 : Int) := of_decide_eq_true (by first | (with_reducible assumption) | assumption)
          have q17 : x5_2 < (a1.size : Int) := of_decide_eq_true (by first | (with_reducible assumption) | assumption)
          have hx17 := bt_at a1 x5_2
          replace p17 := eq_true p17
          replace q17 := eq_true q17
          go_wp2
          repeat (go_quiet (fail); try go_wp2)
          go_loopg [6, 7] kj9 (fun kq v6 v7 w' => ∃ (x6_3 : Int) (x7_3 : Int), v6 = .int .i64 x6_3 ∧ v7 = .int .u8 x7_3 ∧ Aside0 (field_Prefix.l1 kq x5_2 x6_3 x7_3 = some r) ∧ Aside0 (kq ≤ kj9) ∧ Drawn0 w w')
          case atStart => exact ⟨(0), (Go.bits .xor .u8 (bt a0 x5_2) (bt a1 x5_2)), (by first | rfl | (simp; done) | (simp [*]; done)), (by first | rfl | (simp; done) | (simp [*]; done)), H', ⟨Nat.le_refl _⟩, by repeat (first | exact Drawn0.refl _ | apply Drawn0.step)⟩
          case round =>
           clear H'
           try clear c1
           try clear p1
           try clear q1
           try clear hx1
           try clear c2
           try clear p2
           try clear c4
           try clear c4b0
           try clear c5
           try clear c5b0
           try clear c6
           try clear c6b0
           try clear p6
           try clear p7
           try clear q7
           try clear hx7
           try clear p8
           try clear q8
           try clear hx8
           try clear c9
           try clear c9b0
           try clear c9b1
           try clear c11
           try clear c11b0
           try clear c11b1
           try clear c12
           try clear c13
           try clear c13b0
           try clear c14
           try clear c14b0
           try clear p15
           try clear q15
           try clear hx15
           try clear c16
           try clear c16b0
           try clear p17
           try clear q17
           try clear hx17
           try clear p15
           try clear p17
           try clear p2
           try clear p6
           try clear p7
           try clear p8
           try clear q15
           try clear q17
           try clear q7
           try clear q8
           obtain ⟨x6_3, x7_3, rfl, rfl, HA, HK3, ⟨m3, rfl⟩⟩ := hrel
           cases gk with
           | zero => exact absurd HA.out (by simp [field_Prefix.l1])
           | succ k3 =>
            have H := HA.out
            clear HA
            simp only [field_Prefix.l1] at H
            by_cases c18 : x7_3 < 128
            ·
             rw [if_pos c18] at H
             have c18b0 : decide (x7_3 < 128) = true := decide_eq_true c18
             clear c18
             have H' := Aside0.mk H
             clear H
             go_wp2
             repeat (go_quiet (fail); try go_wp2)
             go_roundg k3
             case measure => have := HJ2.out; have := HJ9.out; have := HK3.out; omega
             case rel => exact ⟨(wrap64 (x6_3 + 1)), ((x7_3 * 2) % 256), (by first | rfl | (simp; done) | (simp [*]; done)), (by first | rfl | (simp; done) | (simp [*]; done)), H', ⟨by have := HJ2.out; have := HJ9.out; have := HK3.out; omega⟩, by repeat (first | exact Drawn0.refl _ | apply Drawn0.step)⟩
            ·
             rw [if_neg c18] at H
             have c18b0 : decide (x7_3 < 128) = false := decide_eq_false c18
             clear c18
             obtain rfl := Option.some.inj H
             go_wp2
             repeat (go_quiet (fail); try go_wp2)
             go_ret
             exact ⟨by first | rfl | (simp; done) | (simp [*]; done), by repeat (first | exact Drawn0.refl _ | apply Drawn0.step)⟩
         ·
          rw [if_neg c16] at H
          exact absurd H (by simp)
        ·
         rw [if_neg c14] at H
         exact absurd H (by simp)
       ·
        rw [if_neg c13] at H
        exact absurd H (by simp)

/-! ### field_Bytes: function 25 -/
def field_Bytes.f (a0 : Int) : Option (Int) := if a0 < 1 then (some 0) else (if a0 > 128 then (some 0) else (some (wrap64 (Int.tdiv (wrap64 ((wrap64 (a0 + 8)) - 1)) 8))))
set_option maxHeartbeats 8000000 in
set_option maxRecDepth 100000 in
theorem field_Bytes.calls (a0 : Int) (r : Int) (w : World) (h : field_Bytes.f a0 = some r) :
   Calls Try.prog 25 #[.int .i64 a0] w fun e w' => e = .returned (.int .i64 r) ∧ Drawn0 w w' := by
  have H : (if a0 < 1 then (some 0) else (if a0 > 128 then (some 0) else (some (wrap64 (Int.tdiv (wrap64 ((wrap64 (a0 + 8)) - 1)) 8))))) = some r := h
  clear h
  by_cases c2 : a0 < 1
  ·
   rw [if_pos c2] at H
   have c2b0 : decide (a0 < 1) = true := decide_eq_true c2
   clear c2
   obtain rfl := Option.some.inj H
   go_enter Try.func25, Try.ntmps25
   go_wp2
   go_ret
   exact ⟨by first | rfl | (simp; done) | (simp [*]; done), by repeat (first | exact Drawn0.refl _ | apply Drawn0.step)⟩
  ·
   rw [if_neg c2] at H
   have c2b0 : decide (a0 < 1) = false := decide_eq_false c2
   clear c2
   by_cases c3 : a0 > 128
   ·
    rw [if_pos c3] at H
    have c3b0 : decide (128 < a0) = true := decide_eq_true c3
    clear c3
    obtain rfl := Option.some.inj H
    go_enter Try.func25, Try.ntmps25
    go_wp2
    go_ret
    exact ⟨by first | rfl | (simp; done) | (simp [*]; done), by repeat (first | exact Drawn0.refl _ | apply Drawn0.step)⟩
   ·
    rw [if_neg c3] at H
    have c3b0 : decide (128 < a0) = false := decide_eq_false c3
    clear c3
    obtain rfl := Option.some.inj H
    go_enter Try.func25, Try.ntmps25
    go_wp2
    go_ret
    exact ⟨by first | rfl | (simp; done) | (simp [*]; done), by repeat (first | exact Drawn0.refl _ | apply Drawn0.step)⟩

/-! ### word_Text: function 41 -/
def word_Text.row (a b : Int) : Nat → Option (List Int)
  | 0 => some []
  | n + 1 => (word_Text.row a b n).bind fun l => (word_Right.f a b (128 - 8 * ((n : Int) + 1))).bind fun p => some (l ++ [p.2 % 256])
def word_Text.f (a0_0 : Int) (a0_1 : Int) : Option (ByteArray) := (word_Text.row a0_0 a0_1 16).bind fun l => some (strOfNums l)
def word_Text.cells (l : List Int) : Array Value := (nums .u8 l ++ List.replicate (16 - l.length) (Value.int .u8 0)).toArray
structure word_Text.At (a b : Int) (w wr : World) (i : Nat) (l : List Int) : Prop where
  row : word_Text.row a b i = some l
  len : l.length = i
  box : wr.heap[w.heap.size]? = some (.cells #[.int .u64 a, .int .u64 b] 25 (0, 0))
  arr : wr.heap[w.heap.size + 1]? = some (.cells (word_Text.cells l) 60 (0, 0))
  bel : Below w.heap.size w wr
theorem word_Text.row_len (a b : Int) : ∀ (n : Nat) (l : List Int), word_Text.row a b n = some l → l.length = n := by
  intro n
  induction n with
  | zero => intro l h; obtain rfl := Option.some.inj h; rfl
  | succ n ih =>
    intro l h
    obtain ⟨l0, h0, h⟩ := Option.bind_eq_some_iff.mp h
    obtain ⟨p, hp, h⟩ := Option.bind_eq_some_iff.mp h
    obtain rfl := Option.some.inj h
    rw [List.length_append, ih l0 h0]; rfl
theorem word_Text.row_le (a b : Int) (n : Nat) : ∀ (d : Nat) (l : List Int), word_Text.row a b (n + d) = some l → ∃ l0, word_Text.row a b n = some l0 := by
  intro d
  induction d with
  | zero => intro l h; exact ⟨l, h⟩
  | succ d ih =>
    intro l h
    obtain ⟨l0, h0, _⟩ := Option.bind_eq_some_iff.mp h
    exact ih l0 h0
theorem word_Text.row_next {a b : Int} {n : Nat} {l0 l : List Int} (h0 : word_Text.row a b n = some l0) (h : word_Text.row a b (n + 1) = some l) :
    ∃ p1 p2, word_Right.f a b (128 - 8 * ((n : Int) + 1)) = some (p1, p2) ∧ l = l0 ++ [p2 % 256] := by
  obtain ⟨l1, h1, h⟩ := Option.bind_eq_some_iff.mp h
  obtain rfl := Option.some.inj (h0.symm.trans h1)
  obtain ⟨p, hp, h⟩ := Option.bind_eq_some_iff.mp h
  exact ⟨p.1, p.2, hp, (Option.some.inj h).symm⟩
theorem word_Text.cells_size (l : List Int) (h : l.length ≤ 16) : (word_Text.cells l).size = 16 := by
  unfold word_Text.cells; simp [nums_length]; omega
theorem word_Text.cells_at (l : List Int) (h : l.length < 16) : (word_Text.cells l)[l.length]? = some (Value.int .u8 0) := by
  unfold word_Text.cells
  rw [List.getElem?_toArray, List.getElem?_append_right (by rw [nums_length]; exact Nat.le_refl _), nums_length, Nat.sub_self, List.getElem?_replicate, if_pos (by omega)]
theorem word_Text.cells_set (l : List Int) (v : Int) (h : l.length < 16) : (word_Text.cells l).setIfInBounds l.length (Value.int .u8 v) = word_Text.cells (l ++ [v]) := by
  unfold word_Text.cells
  rw [List.setIfInBounds_toArray]
  congr 1
  rw [List.set_append_right _ _ (by rw [nums_length]; exact Nat.le_refl _), nums_length, Nat.sub_self, nums_append]
  have e : 16 - l.length = (16 - (l ++ [v]).length) + 1 := by rw [List.length_append]; simp; omega
  rw [e, List.replicate_succ, List.set_cons_zero, List.append_assoc]
  rfl
theorem word_Text.fld (p1 p2 : Int) (W : World) : (Instr.field 25 (Value.agg #[.int .u64 p1, .int .u64 p2]) 1).run Try.prog W = .ok (.int .u64 p2) W := by kernel_rfl
theorem word_Text.calls (a0_0 : Int) (a0_1 : Int) (r : ByteArray) (w : World) (h : word_Text.f a0_0 a0_1 = some r) :
    Calls Try.prog 41 #[.agg #[.int .u64 a0_0, .int .u64 a0_1]] w fun e w' => e = .returned (.string r) ∧ Below w.heap.size w w' := by
  obtain ⟨lz, hz, h⟩ := Option.bind_eq_some_iff.mp h
  obtain rfl := Option.some.inj h
  have HZ := Aside0.mk hz
  clear h hz
  have huW_ := Try.underlying25
  go_enter Try.func41, Try.ntmps41
  go_wp2
  go_loopg [5] 16 (fun d v5 wr => ∃ (i : Nat) (l : List Int), v5 = .int .i64 i ∧ Aside0 (i + d = 16) ∧ word_Text.At a0_0 a0_1 w wr i l)
  case atStart =>
    refine ⟨0, [], rfl, ⟨rfl⟩, ⟨rfl, rfl, blk_alloc (blk_new w _) _, ?_, ((Below.refl _ _).alloc (Nat.le_refl _) _).alloc (by simp) _⟩⟩
    have e := blk_new (w.alloc (Obj.cells #[Value.int .u64 a0_0, Value.int .u64 a0_1] 25)) (Obj.cells (word_Text.cells []) 60)
    have hs : (w.alloc (Obj.cells #[Value.int .u64 a0_0, Value.int .u64 a0_1] 25)).heap.size = w.heap.size + 1 := by simp
    rw [hs] at e
    exact e
  case round =>
    obtain ⟨i, l, rfl, HD, hA⟩ := hrel
    have HA := Aside0.mk hA
    have hb0 : wr.cell? ⟨w.heap.size, 0, none⟩ = some (.int .u64 a0_0) := by
      have := hA.box; simp [World.cell?, this]
    have hb1 : wr.cell? ⟨w.heap.size, 1, none⟩ = some (.int .u64 a0_1) := by
      have := hA.box; simp [World.cell?, this]
    by_cases hi : i < 16
    · have hlt : decide ((i : Int) < 16) = true := decide_eq_true (by omega)
      obtain ⟨l1, hl1⟩ : ∃ l1, word_Text.row a0_0 a0_1 (i + 1) = some l1 := word_Text.row_le _ _ (i + 1) (15 - i) lz (by rw [show i + 1 + (15 - i) = 16 by omega]; exact HZ.out)
      obtain ⟨p1, p2, hp, rfl⟩ := word_Text.row_next hA.row hl1
      have HL1 := Aside0.mk hl1
      have HP := Aside0.mk hp
      clear hl1 hp hA
      have hlen : l.length = i := HA.out.len
      subst hlen
      have hfld := fun W => word_Text.fld p1 p2 W
      go_wp2_with (go_at_call 38; (with_reducible refine (word_Right.calls _ _ _ p1 p2 _ HP.out).mono ?_); rintro e w1 ⟨rfl, hb⟩; have HB1 := Aside0.mk hb; clear hb; have hc1 := (blk_cell (blk_below HA.out.arr HB1.out) l.length).trans (word_Text.cells_at l hi); have hf1 := blk_frozen (blk_below HA.out.arr HB1.out) l.length)
      go_roundg (15 - l.length)
      case measure => have := HD.out; omega
      case rel =>
        refine ⟨l.length + 1, l ++ [p2 % 256], by go_num, ⟨by have := HD.out; omega⟩, HL1.out, by simp, ?_, ?_, ?_⟩
        · exact blk_far (blk_below HA.out.box HB1.out) (by show w.heap.size ≠ w.heap.size + 1; omega) _
        · exact blk_put (blk_below HA.out.arr HB1.out) _ _ (word_Text.cells_set l _ hi)
        · exact below_set (HA.out.bel.trans (HB1.out.mono (HA.out.bel.size))) (by omega)
    · have hlt : decide ((i : Int) < 16) = false := decide_eq_false (by omega)
      obtain rfl : i = 16 := by have := HD.out; omega
      obtain rfl := Option.some.inj (hA.row.symm.trans HZ.out)
      have hlen := hA.len
      have hcv := own_string (P := Try.prog) (w := wr) (base := 0) (n := 16) (e' := 60) (v := .slice (some ⟨w.heap.size + 1, 0, none⟩) 16 16) (xs := l) Try.underlying55 Try.underlying5 Try.underlying9
        ⟨by rw [nums_length, hlen], .inr ⟨w.heap.size + 1, 16, word_Text.cells l, rfl, Nat.zero_le _, hA.arr, Nat.le_refl _, by decide, word_Text.cells_size l (by omega), by
          unfold word_Text.cells
          rw [List.take_append_of_le_length (by rw [nums_length]; omega), List.take_of_length_le (by rw [nums_length]; omega)]⟩⟩
      have HBel := Aside0.mk hA.bel
      clear hA hlen
      go_wp2
      go_ret
      exact ⟨rfl, HBel.out⟩

/-! ### field_Text: function 21 -/
def field_Text.f (a0_0 : Int) (a0_1 : Int) (a1 : Int) : Option (ByteArray × Int) := (field_Bytes.f a1).bind fun t143 => (if t143 = 0 then (some ((⟨#[]⟩ : ByteArray), 1)) else ((word_Cut.f a0_0 a0_1 a1).bind fun bt144 => ((word_Text.f bt144.1 bt144.2).bind fun t146 => (if 0 ≤ (wrap64 ((t146.size : Int) - t143)) then (if (wrap64 ((t146.size : Int) - t143)) ≤ (t146.size : Int) then (some ((t146.extract ((wrap64 ((t146.size : Int) - t143)) : Int).toNat t146.size), 0)) else (none)) else (none)))))
set_option maxHeartbeats 8000000 in
set_option maxRecDepth 100000 in
theorem field_Text.calls (a0_0 : Int) (a0_1 : Int) (a1 : Int) (r1 : ByteArray) (r2 : Int) (w : World) (h : field_Text.f a0_0 a0_1 a1 = some (r1, r2)) :
   Calls Try.prog 21 #[.agg #[.int .u64 a0_0, .int .u64 a0_1], .int .i64 a1] w fun e w' => e = .returned (.tuple #[.string r1, .int .i64 r2]) ∧ Below w.heap.size w w' := by
  have hu25 := Try.underlying25
  have HB := Aside0.mk (Below.refl w.heap.size w)
  have H : ((field_Bytes.f a1).bind fun t143 => (if t143 = 0 then (some ((⟨#[]⟩ : ByteArray), 1)) else ((word_Cut.f a0_0 a0_1 a1).bind fun bt144 => ((word_Text.f bt144.1 bt144.2).bind fun t146 => (if 0 ≤ (wrap64 ((t146.size : Int) - t143)) then (if (wrap64 ((t146.size : Int) - t143)) ≤ (t146.size : Int) then (some ((t146.extract ((wrap64 ((t146.size : Int) - t143)) : Int).toNat t146.size), 0)) else (none)) else (none)))))) = some (r1, r2) := h
  clear h
  replace H := Option.bind_eq_some_iff.mp H
  obtain ⟨t143, A30, H⟩ := H
  replace H : (if t143 = 0 then (some ((⟨#[]⟩ : ByteArray), 1)) else ((word_Cut.f a0_0 a0_1 a1).bind fun bt144 => ((word_Text.f bt144.1 bt144.2).bind fun t146 => (if 0 ≤ (wrap64 ((t146.size : Int) - t143)) then (if (wrap64 ((t146.size : Int) - t143)) ≤ (t146.size : Int) then (some ((t146.extract ((wrap64 ((t146.size : Int) - t143)) : Int).toNat t146.size), 0)) else (none)) else (none))))) = some (r1, r2) := H
  have A3 := Aside0.mk A30
  clear A30
  by_cases c4 : t143 = 0
  ·
   rw [if_pos c4] at H
   have c4b0 : (t143 == 0) = true := beq_iff_eq.mpr c4
   have c4b1 : (t143 != 0) = false := bne_eq_false_iff_eq.mpr c4
   clear c4
   simp only [Option.some.injEq, Prod.mk.injEq] at H
   obtain ⟨rfl, rfl⟩ := H
   go_enter Try.func21, Try.ntmps21
   go_wp2_with (first | ((with_reducible refine gate_dst (N := 2) rfl ?_); refine box_event ?hg (N := 2) ?hd (cs := #[.int .u64 a0_0, .int .u64 a0_1]) (t := 25) ?hr ?_; (case hd => rfl); (case hg => rfl); (case hr => first | (go_simp; done) | (go_simp; rfl)); intro gb142 hg w5 hbox hb; have BK142 := Aside0.mk (hbox); have GW142 := Aside0.mk ((by rw [hg]; exact (below_size (by repeat (first | (with_reducible first | exact HB.out | apply below_alloc | apply pw_below_drewN | apply below_drew1) | exact HB.out))) : w.heap.size ≤ gb142)); have GE142 := Aside0.mk ((by rw [hg]; exact (below_size (by repeat (first | (with_reducible first | exact HB.out | apply below_alloc | apply pw_below_drewN | apply below_drew1) | exact HB.out))) : w.heap.size ≤ gb142)); replace HB := Aside0.mk (below_step (by repeat (first | (with_reducible first | exact HB.out | apply below_alloc | apply pw_below_drewN | apply below_drew1) | exact HB.out)) hb); clear hb hbox hg) | ((with_reducible refine gate_callee (f := 25) rfl ?_); refine goesL_ (some 9) rfl rfl Try.func25 (by kernel_rfl) rfl #[.int .i64 a1] rfl (by (try simp only [List.map_toArray, List.map_cons, List.map_nil]); first | done | rfl | (simp only [List.length_drop, List.length_take]; rfl)) ?_; (with_reducible refine (field_Bytes.calls a1 t143 _ A3.out).mono ?_); rintro e w' ⟨rfl, ⟨nd, rfl⟩⟩; refine ⟨_, rfl, ?_⟩))
   go_ret2
   exact ⟨by first | rfl | (simp [errW_none, errW_some] <;> rfl) | (simp [*, errW_none, errW_some] <;> rfl), by repeat (first | (with_reducible first | exact HB.out | apply below_alloc | apply pw_below_drewN | apply below_drew1 | refine below_set ?_ GE142.out) | exact HB.out)⟩
  ·
   rw [if_neg c4] at H
   have c4b0 : (t143 == 0) = false := beq_eq_false_iff_ne.mpr c4
   have c4b1 : (t143 != 0) = true := bne_iff_ne.mpr c4
   replace H := Option.bind_eq_some_iff.mp H
   obtain ⟨⟨t144, t145⟩, A60, H⟩ := H
   replace H : ((word_Text.f t144 t145).bind fun t146 => (if 0 ≤ (wrap64 ((t146.size : Int) - t143)) then (if (wrap64 ((t146.size : Int) - t143)) ≤ (t146.size : Int) then (some ((t146.extract ((wrap64 ((t146.size : Int) - t143)) : Int).toNat t146.size), 0)) else (none)) else (none))) = some (r1, r2) := H
   have A6 := Aside0.mk A60
   clear A60
   replace H := Option.bind_eq_some_iff.mp H
   obtain ⟨t146, A70, H⟩ := H
   replace H : (if 0 ≤ (wrap64 ((t146.size : Int) - t143)) then (if (wrap64 ((t146.size : Int) - t143)) ≤ (t146.size : Int) then (some ((t146.extract ((wrap64 ((t146.size : Int) - t143)) : Int).toNat t146.size), 0)) else (none)) else (none)) = some (r1, r2) := H
   have A7 := Aside0.mk A70
   clear A70
   obtain ⟨ji8, hji8⟩ : ∃ j_ : Int, (wrap64 ((t146.size : Int) - t143)) = j_ := ⟨_, rfl⟩
   replace H : (if 0 ≤ (ji8) then (if (ji8) ≤ (t146.size : Int) then (some ((t146.extract ((ji8) : Int).toNat t146.size), 0)) else (none)) else (none)) = some (r1, r2) := by first | (rw [hji8] at H; exact H) | (simp only [hji8] at H ⊢; exact H)
   (try rw [hji8] at A3)
   (try rw [hji8] at A6)
   (try rw [hji8] at A7)
   have hji8w : (IntKind.i64.wrap ((t146.size : Int) - t143)) = ji8 := (i64_w _).trans hji8
   by_cases c9 : 0 ≤ (ji8)
   ·
    rw [if_pos c9] at H
    have c9b0 := eq_true c9
    have c9b1 : decide (0 ≤ (ji8)) = true := decide_eq_true c9
    clear c9
    by_cases c10 : (ji8) ≤ (t146.size : Int)
    ·
     rw [if_pos c10] at H
     have c10b0 := eq_true c10
     have c10b1 : decide ((ji8) ≤ (t146.size : Int)) = true := decide_eq_true c10
     clear c10
     obtain ⟨y147, hy147⟩ : ∃ y_ : ByteArray, (t146.extract ((ji8) : Int).toNat t146.size) = y_ := ⟨_, rfl⟩
     replace H : (some (y147, 0)) = some (r1, r2) := by first | (rw [← hy147]; exact H) | exact H
     simp only [Option.some.injEq, Prod.mk.injEq] at H
     obtain ⟨rfl, rfl⟩ := H
     go_enter Try.func21, Try.ntmps21
     go_wp2_with (first | ((with_reducible refine gate_dst (N := 2) rfl ?_); refine box_event ?hg (N := 2) ?hd (cs := #[.int .u64 a0_0, .int .u64 a0_1]) (t := 25) ?hr ?_; (case hd => rfl); (case hg => rfl); (case hr => first | (go_simp; done) | (go_simp; rfl)); intro gb142 hg w11 hbox hb; have BK142 := Aside0.mk (hbox); have GW142 := Aside0.mk ((by rw [hg]; exact (below_size (by repeat (first | (with_reducible first | exact HB.out | apply below_alloc | apply pw_below_drewN | apply below_drew1) | exact HB.out))) : w.heap.size ≤ gb142)); have GE142 := Aside0.mk ((by rw [hg]; exact (below_size (by repeat (first | (with_reducible first | exact HB.out | apply below_alloc | apply pw_below_drewN | apply below_drew1) | exact HB.out))) : w.heap.size ≤ gb142)); replace HB := Aside0.mk (below_step (by repeat (first | (with_reducible first | exact HB.out | apply below_alloc | apply pw_below_drewN | apply below_drew1) | exact HB.out)) hb); clear hb hbox hg) | ((with_reducible refine gate_callee (f := 25) rfl ?_); refine goesL_ (some 9) rfl rfl Try.func25 (by kernel_rfl) rfl #[.int .i64 a1] rfl (by (try simp only [List.map_toArray, List.map_cons, List.map_nil]); first | done | rfl | (simp only [List.length_drop, List.length_take]; rfl)) ?_; (with_reducible refine (field_Bytes.calls a1 t143 _ A3.out).mono ?_); rintro e w' ⟨rfl, ⟨nd, rfl⟩⟩; refine ⟨_, rfl, ?_⟩; have hcz12_0 : w11.cell? ⟨gb142, 0, none⟩ = some (.int .u64 a0_0) := (blk_cell BK142.out 0).trans rfl; have hcz12_1 : w11.cell? ⟨gb142, 1, none⟩ = some (.int .u64 a0_1) := (blk_cell BK142.out 1).trans rfl; have hfz12_0 := blk_frozen BK142.out 0; have hfz12_1 := blk_frozen BK142.out 1) | ((with_reducible refine gate_callee (f := 17) rfl ?_); refine goesL_ (some 14) rfl rfl Try.func17 (by kernel_rfl) rfl #[.agg #[.int .u64 a0_0, .int .u64 a0_1], .int .i64 a1] rfl (by (try simp only [List.map_toArray, List.map_cons, List.map_nil]); first | done | rfl | (simp only [List.length_drop, List.length_take]; rfl)) ?_; (with_reducible refine (word_Cut.calls a0_0 a0_1 a1 t144 t145 _ A6.out).mono ?_); rintro e w13 ⟨rfl, hb⟩; refine ⟨_, rfl, ?_⟩; replace BK142 := Aside0.mk (blk_below (bkA BK142.out) hb); replace HB := Aside0.mk (below_step (by repeat (first | (with_reducible first | exact HB.out | apply below_alloc | apply pw_below_drewN | apply below_drew1 | refine below_set ?_ GE142.out) | exact HB.out)) hb); (try clear hb); (try clear hb2); (try clear hk); (try clear hi)) | ((with_reducible refine gate_callee (f := 41) rfl ?_); refine goesL_ (some 15) rfl rfl Try.func41 (by kernel_rfl) rfl #[.agg #[.int .u64 t144, .int .u64 t145]] rfl (by (try simp only [List.map_toArray, List.map_cons, List.map_nil]); first | done | rfl | (simp only [List.length_drop, List.length_take]; rfl)) ?_; (with_reducible refine (word_Text.calls t144 t145 t146 _ A7.out).mono ?_); rintro e w14 ⟨rfl, hb⟩; refine ⟨_, rfl, ?_⟩; replace BK142 := Aside0.mk (blk_below (bkA BK142.out) hb); replace HB := Aside0.mk (below_step (by repeat (first | (with_reducible first | exact HB.out | apply below_alloc | apply pw_below_drewN | apply below_drew1 | refine below_set ?_ GE142.out) | exact HB.out)) hb); (try clear hb); (try clear hb2); (try clear hk); (try clear hi)))
     go_ret2
     exact ⟨by first | rfl | (simp [errW_none, errW_some] <;> rfl) | (simp only [← hji8]; first | rfl | (simp [errW_none, errW_some] <;> rfl)) | (simp [*, errW_none, errW_some] <;> rfl), by repeat (first | (with_reducible first | exact HB.out | apply below_alloc | apply pw_below_drewN | apply below_drew1 | refine below_set ?_ GE142.out) | exact HB.out)⟩
    ·
     rw [if_neg c10] at H
     exact absurd H (by simp)
   ·
    rw [if_neg c9] at H
    exact absurd H (by simp)

/-! ### turnoutlaw02_low: function 28 -/
def turnoutlaw02_low.f (a0 : Int) : Option (Int × Int) := some (0, a0)
set_option maxHeartbeats 8000000 in
set_option maxRecDepth 100000 in
theorem turnoutlaw02_low.calls (a0 : Int) (r1 : Int) (r2 : Int) (w : World) (h : turnoutlaw02_low.f a0 = some (r1, r2)) :
   Calls Try.prog 28 #[.int .u64 a0] w fun e w' => e = .returned (.agg #[.int .u64 r1, .int .u64 r2]) ∧ Below w.heap.size w w' := by
  have hu25 := Try.underlying25
  have HB := Aside0.mk (Below.refl w.heap.size w)
  have H : (some (0, a0)) = some (r1, r2) := h
  clear h
  simp only [Option.some.injEq, Prod.mk.injEq] at H
  obtain ⟨rfl, rfl⟩ := H
  go_enter Try.func28, Try.ntmps28
  go_wp2_with (first | ((with_reducible refine gate_dst (N := 2) rfl ?_); refine box_event ?hg (N := 2) ?hd (cs := #[.int .u64 0, .int .u64 0]) (t := 25) ?hr ?_; (case hd => rfl); (case hg => rfl); (case hr => first | (go_simp; done) | (go_simp; rfl)); intro gb148 hg w2 hbox hb; have BK148 := Aside0.mk (hbox); have GW148 := Aside0.mk ((by rw [hg]; exact (below_size (by repeat (first | (with_reducible first | exact HB.out | apply below_alloc | apply pw_below_drewN | apply below_drew1) | exact HB.out))) : w.heap.size ≤ gb148)); have GE148 := Aside0.mk ((by rw [hg]; exact (below_size (by repeat (first | (with_reducible first | exact HB.out | apply below_alloc | apply pw_below_drewN | apply below_drew1) | exact HB.out))) : w.heap.size ≤ gb148)); replace HB := Aside0.mk (below_step (by repeat (first | (with_reducible first | exact HB.out | apply below_alloc | apply pw_below_drewN | apply below_drew1) | exact HB.out)) hb); clear hb hbox hg; have hcz3_0 : w2.cell? ⟨gb148, 0, none⟩ = some (.int .u64 0) := (blk_cell BK148.out 0).trans rfl; have hcz3_1 : w2.cell? ⟨gb148, 1, none⟩ = some (.int .u64 0) := (blk_cell BK148.out 1).trans rfl; have hfz3_0 := blk_frozen BK148.out 0; have hfz3_1 := blk_frozen BK148.out 1))
  refine bodyPost_ret (results_cell_row rfl _ _ gb148 25 #[.int .u64 0, .int .u64 a0] (0, 0) _ rfl (by (with_reducible repeat (first | refine blk_drewN ?_ _ | refine blk_drew ?_ | refine blk_alloc ?_ _)); refine blk_put (cs := #[.int .u64 0, .int .u64 0]) ?_ 1 _ rfl; (with_reducible repeat (first | refine blk_drewN ?_ _ | refine blk_drew ?_ | refine blk_alloc ?_ _)); refine blk_put (cs := #[.int .u64 0, .int .u64 0]) ?_ 0 _ rfl; (with_reducible repeat (first | refine blk_drewN ?_ _ | refine blk_drew ?_ | refine blk_alloc ?_ _)); exact BK148.out) Try.underlying25 rfl (by kernel_rfl)) rfl ?_
  exact ⟨by first | rfl | (simp [errW_none, errW_some] <;> rfl) | (simp [*, errW_none, errW_some] <;> rfl), by repeat (first | (with_reducible first | exact HB.out | apply below_alloc | apply pw_below_drewN | apply below_drew1 | refine below_set ?_ GE148.out) | exact HB.out)⟩

end Go.Proofs.Ytgpahhobifdapaa.PField
