-- Written by wip/turnprint.py, a program of this session (the kit's print, turned).
import Derived.Test.YtieopkigfbnhcaaPSumNx0
import Derived.Test.YtieopkigfbnhcaaPSumNx1
namespace Go.Proofs.Ytieopkigfbnhcaa.PSumN
open Go.RowKit Go.Proofs.YtieopkigfbnhcaaW.PrintWords Go.Proofs.YtieopkigfbnhcaaW.PrintLast Go.Proofs.YtieopkigfbnhcaaW.PrintMore
attribute [local go_sem] max2_int min2_int max_two min_two max_three min_three max_four min_four   -- for this text's walks alone
set_option linter.unusedVariables false
set_option linter.unusedSimpArgs false

attribute [local go_sem high] xorA_u8 xorA_u16 xorA_u32 xorA_u64
/-! ### turnoutlaw03_SumNames: function 3 -/
mutual
def turnoutlaw03_SumNames.j0 : Nat → Bool → Option (Bool)
  | 0, _ => none
  | k + 1, x43 => if x43 = true then (some false) else (if 300000 ≤ 281474976710656 then (turnoutlaw03_SumNames.l0 k (List.replicate 300000 0) 0) else (none))
def turnoutlaw03_SumNames.l0 : Nat → List Int → Int → Option (Bool)
  | 0, _, _ => none
  | k + 1, x1, x2 => if x2 < (x1.length : Int) then (if 0 ≤ x2 then (turnoutlaw03_SumNames.l0 k (x1.set (x2 : Int).toNat 255) (wrap64 (x2 + 1))) else (none)) else ((sum_Sum.f k (([strOfNums x1] : List ByteArray))).bind fun t163 => (if t163 = 65535 then ((sum_Sum.f k (([strOfNums x1, (⟨#[0, 1]⟩ : ByteArray)] : List ByteArray))).bind fun t167 => (if t167 = 1 then ((sum_Good.f k (strOfNums x1)).bind fun t168 => (if t168 = true then ((sum_Good.f k (⟨#[0, 0]⟩ : ByteArray)).bind fun t169 => (if t169 = true then (some false) else ((sum_Good.f k (⟨#[255]⟩ : ByteArray)).bind fun t170 => (if t170 = true then (some false) else ((sum_Good.f k (⟨#[255, 0, 0, 255]⟩ : ByteArray)).bind fun t171 => (if t171 = true then ((sum_Update.f k 0 0 0).bind fun t172 => (if t172 = 0 then ((sum_Update.f k 65535 0 0).bind fun t173 => (if t173 = 0 then ((sum_Update.f k 65535 65535 0).bind fun t174 => (some (t174 == 65535))) else (some false))) else (some false))) else (some false))))))) else (some false))) else (some false))) else (some false)))
end
def turnoutlaw03_SumNames.f (k : Nat)  : Option (Bool) := (turnoutlaw03_awake.f k).bind fun t137 => (if t137 = true then ((sum_Sum.f k ([] : List ByteArray)).bind fun t138 => (if t138 = 0 then ((sum_Of.f k ([] : List ByteArray)).bind fun t139 => (if t139 = 65535 then ((sum_Add.f k 0 0).bind fun t140 => (if t140 = 0 then ((sum_Add.f k 65535 0).bind fun t141 => (if t141 = 65535 then ((sum_Add.f k 32768 32768).bind fun t142 => (if t142 = 1 then ((sum_Add.f k 65534 1).bind fun t143 => (if t143 = 65535 then ((sum_Sum.f k (([(⟨#[255]⟩ : ByteArray)] : List ByteArray))).bind fun t147 => (if t147 = 65280 then ((sum_Sum.f k (([(⟨#[255, 255, 255, 255]⟩ : ByteArray)] : List ByteArray))).bind fun t151 => (if t151 = 65535 then ((sum_Sum.f k (([(⟨#[255]⟩ : ByteArray), (⟨#[255]⟩ : ByteArray), (⟨#[]⟩ : ByteArray), (⟨#[0, 1]⟩ : ByteArray)] : List ByteArray))).bind fun t155 => (turnoutlaw03_SumNames.j0 k (t155 != 1))) else (turnoutlaw03_SumNames.j0 k true))) else (turnoutlaw03_SumNames.j0 k true))) else (turnoutlaw03_SumNames.j0 k true))) else (turnoutlaw03_SumNames.j0 k true))) else (turnoutlaw03_SumNames.j0 k true))) else (turnoutlaw03_SumNames.j0 k true))) else (turnoutlaw03_SumNames.j0 k true))) else (turnoutlaw03_SumNames.j0 k true))) else (turnoutlaw03_SumNames.j0 k true))
theorem turnoutlaw03_SumNames.mono_l : ∀ k, (∀ y0, LeO (turnoutlaw03_SumNames.j0 k y0) (turnoutlaw03_SumNames.j0 (k + 1) y0)) ∧ (∀ y0 y1, LeO (turnoutlaw03_SumNames.l0 k y0 y1) (turnoutlaw03_SumNames.l0 (k + 1) y0 y1))
  | 0 => ⟨fun _ r h => by simp [turnoutlaw03_SumNames.j0] at h, fun _ _ r h => by simp [turnoutlaw03_SumNames.l0] at h⟩
  | k + 1 => by
    obtain ⟨ih0, ih1⟩ := turnoutlaw03_SumNames.mono_l k
    refine ⟨?_, ?_⟩
    · intro y0
      unfold turnoutlaw03_SumNames.j0
      repeat' first
      | (with_reducible exact ih0 _)
      | (with_reducible exact ih1 _ _)
      | (with_reducible exact sum_Add.mono _ _ _)
      | (with_reducible exact sum_Good.mono _ _)
      | (with_reducible exact sum_Of.mono _ _)
      | (with_reducible exact sum_Sum.mono _ _)
      | (with_reducible exact sum_Update.mono _ _ _ _)
      | (with_reducible exact turnoutlaw03_awake.mono _)
      | (with_reducible exact LeO.refl _)
      | (with_reducible exact LeO.none _)
      | (with_reducible refine LeO.ite ?_ ?_)
      | (with_reducible refine LeO.bind ?_ (fun _ => ?_))
      | exact ih0 _
      | exact ih1 _ _
      | exact sum_Add.mono _ _ _
      | exact sum_Good.mono _ _
      | exact sum_Of.mono _ _
      | exact sum_Sum.mono _ _
      | exact sum_Update.mono _ _ _ _
      | exact turnoutlaw03_awake.mono _
      | exact LeO.none _
      | refine LeO.ite ?_ ?_
      | refine LeO.bind ?_ (fun _ => ?_)
    · intro y0 y1
      unfold turnoutlaw03_SumNames.l0
      repeat' first
      | (with_reducible exact ih0 _)
      | (with_reducible exact ih1 _ _)
      | (with_reducible exact sum_Add.mono _ _ _)
      | (with_reducible exact sum_Good.mono _ _)
      | (with_reducible exact sum_Of.mono _ _)
      | (with_reducible exact sum_Sum.mono _ _)
      | (with_reducible exact sum_Update.mono _ _ _ _)
      | (with_reducible exact turnoutlaw03_awake.mono _)
      | (with_reducible exact LeO.refl _)
      | (with_reducible exact LeO.none _)
      | (with_reducible refine LeO.ite ?_ ?_)
      | (with_reducible refine LeO.bind ?_ (fun _ => ?_))
      | exact ih0 _
      | exact ih1 _ _
      | exact sum_Add.mono _ _ _
      | exact sum_Good.mono _ _
      | exact sum_Of.mono _ _
      | exact sum_Sum.mono _ _
      | exact sum_Update.mono _ _ _ _
      | exact turnoutlaw03_awake.mono _
      | exact LeO.none _
      | refine LeO.ite ?_ ?_
      | refine LeO.bind ?_ (fun _ => ?_)
theorem turnoutlaw03_SumNames.mono : ∀ k, LeO (turnoutlaw03_SumNames.f k ) (turnoutlaw03_SumNames.f (k + 1) ) := by
  intro  k
  obtain ⟨ih0, ih1⟩ := turnoutlaw03_SumNames.mono_l k
  unfold turnoutlaw03_SumNames.f
  repeat' first
      | (with_reducible exact ih0 _)
      | (with_reducible exact ih1 _ _)
      | (with_reducible exact sum_Add.mono _ _ _)
      | (with_reducible exact sum_Good.mono _ _)
      | (with_reducible exact sum_Of.mono _ _)
      | (with_reducible exact sum_Sum.mono _ _)
      | (with_reducible exact sum_Update.mono _ _ _ _)
      | (with_reducible exact turnoutlaw03_awake.mono _)
      | (with_reducible exact LeO.refl _)
      | (with_reducible exact LeO.none _)
      | (with_reducible refine LeO.ite ?_ ?_)
      | (with_reducible refine LeO.bind ?_ (fun _ => ?_))
      | exact ih0 _
      | exact ih1 _ _
      | exact sum_Add.mono _ _ _
      | exact sum_Good.mono _ _
      | exact sum_Of.mono _ _
      | exact sum_Sum.mono _ _
      | exact sum_Update.mono _ _ _ _
      | exact turnoutlaw03_awake.mono _
      | exact LeO.none _
      | refine LeO.ite ?_ ?_
      | refine LeO.bind ?_ (fun _ => ?_)
set_option maxHeartbeats 8000000 in
set_option maxRecDepth 100000 in
theorem turnoutlaw03_SumNames.calls (k : Nat)  (r : Bool) (w : World) (h : turnoutlaw03_SumNames.f k  = some r) (hr_ : Aside0 (r = true)) :
    Calls Try.prog 3 #[] w fun e w' => e = .returned (.bool r) ∧ Below w.heap.size w w' := by
  have HB := Aside0.mk (Below.refl w.heap.size w)
  have H : ((turnoutlaw03_awake.f k).bind fun t137 => (if t137 = true then ((sum_Sum.f k ([] : List ByteArray)).bind fun t138 => (if t138 = 0 then ((sum_Of.f k ([] : List ByteArray)).bind fun t139 => (if t139 = 65535 then ((sum_Add.f k 0 0).bind fun t140 => (if t140 = 0 then ((sum_Add.f k 65535 0).bind fun t141 => (if t141 = 65535 then ((sum_Add.f k 32768 32768).bind fun t142 => (if t142 = 1 then ((sum_Add.f k 65534 1).bind fun t143 => (if t143 = 65535 then ((sum_Sum.f k (([(⟨#[255]⟩ : ByteArray)] : List ByteArray))).bind fun t147 => (if t147 = 65280 then ((sum_Sum.f k (([(⟨#[255, 255, 255, 255]⟩ : ByteArray)] : List ByteArray))).bind fun t151 => (if t151 = 65535 then ((sum_Sum.f k (([(⟨#[255]⟩ : ByteArray), (⟨#[255]⟩ : ByteArray), (⟨#[]⟩ : ByteArray), (⟨#[0, 1]⟩ : ByteArray)] : List ByteArray))).bind fun t155 => (turnoutlaw03_SumNames.j0 k (t155 != 1))) else (turnoutlaw03_SumNames.j0 k true))) else (turnoutlaw03_SumNames.j0 k true))) else (turnoutlaw03_SumNames.j0 k true))) else (turnoutlaw03_SumNames.j0 k true))) else (turnoutlaw03_SumNames.j0 k true))) else (turnoutlaw03_SumNames.j0 k true))) else (turnoutlaw03_SumNames.j0 k true))) else (turnoutlaw03_SumNames.j0 k true))) else (turnoutlaw03_SumNames.j0 k true))) = some r := h
  clear h
  have HC1 := Aside0.mk H
  clear H
  go_enter Try.func3, Try.ntmps3
  go_upto_region 1 with (fail)
  go_cut [43] (fun v43 wc => ∃ (kq : Nat) (x43_0 : Bool), v43 = .bool x43_0 ∧ Aside0 (turnoutlaw03_SumNames.j0 kq x43_0 = some r) ∧ Aside0 (kq ≤ k) ∧ Aside0 (Below w.heap.size w wc))
  case first =>
    have H := HC1.out
    clear HC1
    replace H := Option.bind_eq_some_iff.mp H
    obtain ⟨t137, A20, H⟩ := H
    replace H : (if t137 = true then ((sum_Sum.f k ([] : List ByteArray)).bind fun t138 => (if t138 = 0 then ((sum_Of.f k ([] : List ByteArray)).bind fun t139 => (if t139 = 65535 then ((sum_Add.f k 0 0).bind fun t140 => (if t140 = 0 then ((sum_Add.f k 65535 0).bind fun t141 => (if t141 = 65535 then ((sum_Add.f k 32768 32768).bind fun t142 => (if t142 = 1 then ((sum_Add.f k 65534 1).bind fun t143 => (if t143 = 65535 then ((sum_Sum.f k (([(⟨#[255]⟩ : ByteArray)] : List ByteArray))).bind fun t147 => (if t147 = 65280 then ((sum_Sum.f k (([(⟨#[255, 255, 255, 255]⟩ : ByteArray)] : List ByteArray))).bind fun t151 => (if t151 = 65535 then ((sum_Sum.f k (([(⟨#[255]⟩ : ByteArray), (⟨#[255]⟩ : ByteArray), (⟨#[]⟩ : ByteArray), (⟨#[0, 1]⟩ : ByteArray)] : List ByteArray))).bind fun t155 => (turnoutlaw03_SumNames.j0 k (t155 != 1))) else (turnoutlaw03_SumNames.j0 k true))) else (turnoutlaw03_SumNames.j0 k true))) else (turnoutlaw03_SumNames.j0 k true))) else (turnoutlaw03_SumNames.j0 k true))) else (turnoutlaw03_SumNames.j0 k true))) else (turnoutlaw03_SumNames.j0 k true))) else (turnoutlaw03_SumNames.j0 k true))) else (turnoutlaw03_SumNames.j0 k true))) else (turnoutlaw03_SumNames.j0 k true)) = some r := H
    have A2 := Aside0.mk A20
    clear A20
    by_cases c3 : t137 = true
    · subst c3
      have H1 : ((sum_Sum.f k ([] : List ByteArray)).bind fun t138 => (if t138 = 0 then ((sum_Of.f k ([] : List ByteArray)).bind fun t139 => (if t139 = 65535 then ((sum_Add.f k 0 0).bind fun t140 => (if t140 = 0 then ((sum_Add.f k 65535 0).bind fun t141 => (if t141 = 65535 then ((sum_Add.f k 32768 32768).bind fun t142 => (if t142 = 1 then ((sum_Add.f k 65534 1).bind fun t143 => (if t143 = 65535 then ((sum_Sum.f k (([(⟨#[255]⟩ : ByteArray)] : List ByteArray))).bind fun t147 => (if t147 = 65280 then ((sum_Sum.f k (([(⟨#[255, 255, 255, 255]⟩ : ByteArray)] : List ByteArray))).bind fun t151 => (if t151 = 65535 then ((sum_Sum.f k (([(⟨#[255]⟩ : ByteArray), (⟨#[255]⟩ : ByteArray), (⟨#[]⟩ : ByteArray), (⟨#[0, 1]⟩ : ByteArray)] : List ByteArray))).bind fun t155 => (turnoutlaw03_SumNames.j0 k (t155 != 1))) else (turnoutlaw03_SumNames.j0 k true))) else (turnoutlaw03_SumNames.j0 k true))) else (turnoutlaw03_SumNames.j0 k true))) else (turnoutlaw03_SumNames.j0 k true))) else (turnoutlaw03_SumNames.j0 k true))) else (turnoutlaw03_SumNames.j0 k true))) else (turnoutlaw03_SumNames.j0 k true))) else (turnoutlaw03_SumNames.j0 k true))) = some r := by rw [if_pos rfl] at H; exact H
      clear H
      have H := H1
      clear H1
      replace H := Option.bind_eq_some_iff.mp H
      obtain ⟨t138, A40, H⟩ := H
      replace H : (if t138 = 0 then ((sum_Of.f k ([] : List ByteArray)).bind fun t139 => (if t139 = 65535 then ((sum_Add.f k 0 0).bind fun t140 => (if t140 = 0 then ((sum_Add.f k 65535 0).bind fun t141 => (if t141 = 65535 then ((sum_Add.f k 32768 32768).bind fun t142 => (if t142 = 1 then ((sum_Add.f k 65534 1).bind fun t143 => (if t143 = 65535 then ((sum_Sum.f k (([(⟨#[255]⟩ : ByteArray)] : List ByteArray))).bind fun t147 => (if t147 = 65280 then ((sum_Sum.f k (([(⟨#[255, 255, 255, 255]⟩ : ByteArray)] : List ByteArray))).bind fun t151 => (if t151 = 65535 then ((sum_Sum.f k (([(⟨#[255]⟩ : ByteArray), (⟨#[255]⟩ : ByteArray), (⟨#[]⟩ : ByteArray), (⟨#[0, 1]⟩ : ByteArray)] : List ByteArray))).bind fun t155 => (turnoutlaw03_SumNames.j0 k (t155 != 1))) else (turnoutlaw03_SumNames.j0 k true))) else (turnoutlaw03_SumNames.j0 k true))) else (turnoutlaw03_SumNames.j0 k true))) else (turnoutlaw03_SumNames.j0 k true))) else (turnoutlaw03_SumNames.j0 k true))) else (turnoutlaw03_SumNames.j0 k true))) else (turnoutlaw03_SumNames.j0 k true))) else (turnoutlaw03_SumNames.j0 k true)) = some r := H
      have A4 := Aside0.mk A40
      clear A40
      by_cases c5 : t138 = 0
      · rw [if_pos c5] at H
        have c5b0 : (t138 == 0) = true := beq_iff_eq.mpr c5
        have c5b1 : (t138 != 0) = false := bne_eq_false_iff_eq.mpr c5
        clear c5
        (first | rw [c5b0] | (simp only [i64_w, i32_w]; rw [c5b0]) | skip)
        replace H := Option.bind_eq_some_iff.mp H
        obtain ⟨t139, A60, H⟩ := H
        replace H : (if t139 = 65535 then ((sum_Add.f k 0 0).bind fun t140 => (if t140 = 0 then ((sum_Add.f k 65535 0).bind fun t141 => (if t141 = 65535 then ((sum_Add.f k 32768 32768).bind fun t142 => (if t142 = 1 then ((sum_Add.f k 65534 1).bind fun t143 => (if t143 = 65535 then ((sum_Sum.f k (([(⟨#[255]⟩ : ByteArray)] : List ByteArray))).bind fun t147 => (if t147 = 65280 then ((sum_Sum.f k (([(⟨#[255, 255, 255, 255]⟩ : ByteArray)] : List ByteArray))).bind fun t151 => (if t151 = 65535 then ((sum_Sum.f k (([(⟨#[255]⟩ : ByteArray), (⟨#[255]⟩ : ByteArray), (⟨#[]⟩ : ByteArray), (⟨#[0, 1]⟩ : ByteArray)] : List ByteArray))).bind fun t155 => (turnoutlaw03_SumNames.j0 k (t155 != 1))) else (turnoutlaw03_SumNames.j0 k true))) else (turnoutlaw03_SumNames.j0 k true))) else (turnoutlaw03_SumNames.j0 k true))) else (turnoutlaw03_SumNames.j0 k true))) else (turnoutlaw03_SumNames.j0 k true))) else (turnoutlaw03_SumNames.j0 k true))) else (turnoutlaw03_SumNames.j0 k true)) = some r := H
        have A6 := Aside0.mk A60
        clear A60
        by_cases c7 : t139 = 65535
        · rw [if_pos c7] at H
          have c7b0 : (t139 == 65535) = true := beq_iff_eq.mpr c7
          have c7b1 : (t139 != 65535) = false := bne_eq_false_iff_eq.mpr c7
          clear c7
          replace H := Option.bind_eq_some_iff.mp H
          obtain ⟨t140, A80, H⟩ := H
          replace H : (if t140 = 0 then ((sum_Add.f k 65535 0).bind fun t141 => (if t141 = 65535 then ((sum_Add.f k 32768 32768).bind fun t142 => (if t142 = 1 then ((sum_Add.f k 65534 1).bind fun t143 => (if t143 = 65535 then ((sum_Sum.f k (([(⟨#[255]⟩ : ByteArray)] : List ByteArray))).bind fun t147 => (if t147 = 65280 then ((sum_Sum.f k (([(⟨#[255, 255, 255, 255]⟩ : ByteArray)] : List ByteArray))).bind fun t151 => (if t151 = 65535 then ((sum_Sum.f k (([(⟨#[255]⟩ : ByteArray), (⟨#[255]⟩ : ByteArray), (⟨#[]⟩ : ByteArray), (⟨#[0, 1]⟩ : ByteArray)] : List ByteArray))).bind fun t155 => (turnoutlaw03_SumNames.j0 k (t155 != 1))) else (turnoutlaw03_SumNames.j0 k true))) else (turnoutlaw03_SumNames.j0 k true))) else (turnoutlaw03_SumNames.j0 k true))) else (turnoutlaw03_SumNames.j0 k true))) else (turnoutlaw03_SumNames.j0 k true))) else (turnoutlaw03_SumNames.j0 k true)) = some r := H
          have A8 := Aside0.mk A80
          clear A80
          by_cases c9 : t140 = 0
          · rw [if_pos c9] at H
            have c9b0 : (t140 == 0) = true := beq_iff_eq.mpr c9
            have c9b1 : (t140 != 0) = false := bne_eq_false_iff_eq.mpr c9
            clear c9
            replace H := Option.bind_eq_some_iff.mp H
            obtain ⟨t141, A100, H⟩ := H
            replace H : (if t141 = 65535 then ((sum_Add.f k 32768 32768).bind fun t142 => (if t142 = 1 then ((sum_Add.f k 65534 1).bind fun t143 => (if t143 = 65535 then ((sum_Sum.f k (([(⟨#[255]⟩ : ByteArray)] : List ByteArray))).bind fun t147 => (if t147 = 65280 then ((sum_Sum.f k (([(⟨#[255, 255, 255, 255]⟩ : ByteArray)] : List ByteArray))).bind fun t151 => (if t151 = 65535 then ((sum_Sum.f k (([(⟨#[255]⟩ : ByteArray), (⟨#[255]⟩ : ByteArray), (⟨#[]⟩ : ByteArray), (⟨#[0, 1]⟩ : ByteArray)] : List ByteArray))).bind fun t155 => (turnoutlaw03_SumNames.j0 k (t155 != 1))) else (turnoutlaw03_SumNames.j0 k true))) else (turnoutlaw03_SumNames.j0 k true))) else (turnoutlaw03_SumNames.j0 k true))) else (turnoutlaw03_SumNames.j0 k true))) else (turnoutlaw03_SumNames.j0 k true)) = some r := H
            have A10 := Aside0.mk A100
            clear A100
            by_cases c11 : t141 = 65535
            · rw [if_pos c11] at H
              have c11b0 : (t141 == 65535) = true := beq_iff_eq.mpr c11
              have c11b1 : (t141 != 65535) = false := bne_eq_false_iff_eq.mpr c11
              clear c11
              replace H := Option.bind_eq_some_iff.mp H
              obtain ⟨t142, A120, H⟩ := H
              replace H : (if t142 = 1 then ((sum_Add.f k 65534 1).bind fun t143 => (if t143 = 65535 then ((sum_Sum.f k (([(⟨#[255]⟩ : ByteArray)] : List ByteArray))).bind fun t147 => (if t147 = 65280 then ((sum_Sum.f k (([(⟨#[255, 255, 255, 255]⟩ : ByteArray)] : List ByteArray))).bind fun t151 => (if t151 = 65535 then ((sum_Sum.f k (([(⟨#[255]⟩ : ByteArray), (⟨#[255]⟩ : ByteArray), (⟨#[]⟩ : ByteArray), (⟨#[0, 1]⟩ : ByteArray)] : List ByteArray))).bind fun t155 => (turnoutlaw03_SumNames.j0 k (t155 != 1))) else (turnoutlaw03_SumNames.j0 k true))) else (turnoutlaw03_SumNames.j0 k true))) else (turnoutlaw03_SumNames.j0 k true))) else (turnoutlaw03_SumNames.j0 k true)) = some r := H
              have A12 := Aside0.mk A120
              clear A120
              by_cases c13 : t142 = 1
              · rw [if_pos c13] at H
                have c13b0 : (t142 == 1) = true := beq_iff_eq.mpr c13
                have c13b1 : (t142 != 1) = false := bne_eq_false_iff_eq.mpr c13
                clear c13
                replace H := Option.bind_eq_some_iff.mp H
                obtain ⟨t143, A140, H⟩ := H
                replace H : (if t143 = 65535 then ((sum_Sum.f k (([(⟨#[255]⟩ : ByteArray)] : List ByteArray))).bind fun t147 => (if t147 = 65280 then ((sum_Sum.f k (([(⟨#[255, 255, 255, 255]⟩ : ByteArray)] : List ByteArray))).bind fun t151 => (if t151 = 65535 then ((sum_Sum.f k (([(⟨#[255]⟩ : ByteArray), (⟨#[255]⟩ : ByteArray), (⟨#[]⟩ : ByteArray), (⟨#[0, 1]⟩ : ByteArray)] : List ByteArray))).bind fun t155 => (turnoutlaw03_SumNames.j0 k (t155 != 1))) else (turnoutlaw03_SumNames.j0 k true))) else (turnoutlaw03_SumNames.j0 k true))) else (turnoutlaw03_SumNames.j0 k true)) = some r := H
                have A14 := Aside0.mk A140
                clear A140
                by_cases c15 : t143 = 65535
                · rw [if_pos c15] at H
                  have c15b0 : (t143 == 65535) = true := beq_iff_eq.mpr c15
                  have c15b1 : (t143 != 65535) = false := bne_eq_false_iff_eq.mpr c15
                  clear c15
                  obtain ⟨y144, hy144⟩ : ∃ y_ : List ByteArray, y_ = (([(⟨#[255]⟩ : ByteArray)] : List ByteArray)) := ⟨_, rfl⟩
                  replace H : ((sum_Sum.f k y144).bind fun t147 => (if t147 = 65280 then ((sum_Sum.f k (([(⟨#[255, 255, 255, 255]⟩ : ByteArray)] : List ByteArray))).bind fun t151 => (if t151 = 65535 then ((sum_Sum.f k (([(⟨#[255]⟩ : ByteArray), (⟨#[255]⟩ : ByteArray), (⟨#[]⟩ : ByteArray), (⟨#[0, 1]⟩ : ByteArray)] : List ByteArray))).bind fun t155 => (turnoutlaw03_SumNames.j0 k (t155 != 1))) else (turnoutlaw03_SumNames.j0 k true))) else (turnoutlaw03_SumNames.j0 k true))) = some r := by first | (rw [hy144]; with_reducible exact H) | (have H2_ := (Option.bind_some _ _).symm.trans H; rw [hy144]; with_reducible exact H2_) | (have H2_ := (Option.bind_some _ _).symm.trans H; with_reducible exact H2_) | with_reducible exact H | (rw [hy144]; exact H) | exact H
                  have Ny144 := Aside0.mk hy144
                  clear hy144
                  replace H := Option.bind_eq_some_iff.mp H
                  obtain ⟨t147, A160, H⟩ := H
                  replace H : (if t147 = 65280 then ((sum_Sum.f k (([(⟨#[255, 255, 255, 255]⟩ : ByteArray)] : List ByteArray))).bind fun t151 => (if t151 = 65535 then ((sum_Sum.f k (([(⟨#[255]⟩ : ByteArray), (⟨#[255]⟩ : ByteArray), (⟨#[]⟩ : ByteArray), (⟨#[0, 1]⟩ : ByteArray)] : List ByteArray))).bind fun t155 => (turnoutlaw03_SumNames.j0 k (t155 != 1))) else (turnoutlaw03_SumNames.j0 k true))) else (turnoutlaw03_SumNames.j0 k true)) = some r := H
                  have A16 := Aside0.mk A160
                  clear A160
                  by_cases c17 : t147 = 65280
                  · rw [if_pos c17] at H
                    have c17b0 : (t147 == 65280) = true := beq_iff_eq.mpr c17
                    have c17b1 : (t147 != 65280) = false := bne_eq_false_iff_eq.mpr c17
                    clear c17
                    obtain ⟨y148, hy148⟩ : ∃ y_ : List ByteArray, y_ = (([(⟨#[255, 255, 255, 255]⟩ : ByteArray)] : List ByteArray)) := ⟨_, rfl⟩
                    replace H : ((sum_Sum.f k y148).bind fun t151 => (if t151 = 65535 then ((sum_Sum.f k (([(⟨#[255]⟩ : ByteArray), (⟨#[255]⟩ : ByteArray), (⟨#[]⟩ : ByteArray), (⟨#[0, 1]⟩ : ByteArray)] : List ByteArray))).bind fun t155 => (turnoutlaw03_SumNames.j0 k (t155 != 1))) else (turnoutlaw03_SumNames.j0 k true))) = some r := by first | (rw [hy148]; with_reducible exact H) | (have H2_ := (Option.bind_some _ _).symm.trans H; rw [hy148]; with_reducible exact H2_) | (have H2_ := (Option.bind_some _ _).symm.trans H; with_reducible exact H2_) | with_reducible exact H | (rw [hy148]; exact H) | exact H
                    have Ny148 := Aside0.mk hy148
                    clear hy148
                    replace H := Option.bind_eq_some_iff.mp H
                    obtain ⟨t151, A180, H⟩ := H
                    replace H : (if t151 = 65535 then ((sum_Sum.f k (([(⟨#[255]⟩ : ByteArray), (⟨#[255]⟩ : ByteArray), (⟨#[]⟩ : ByteArray), (⟨#[0, 1]⟩ : ByteArray)] : List ByteArray))).bind fun t155 => (turnoutlaw03_SumNames.j0 k (t155 != 1))) else (turnoutlaw03_SumNames.j0 k true)) = some r := H
                    have A18 := Aside0.mk A180
                    clear A180
                    by_cases c19 : t151 = 65535
                    · rw [if_pos c19] at H
                      have c19b0 : (t151 == 65535) = true := beq_iff_eq.mpr c19
                      have c19b1 : (t151 != 65535) = false := bne_eq_false_iff_eq.mpr c19
                      clear c19
                      obtain ⟨y152, hy152⟩ : ∃ y_ : List ByteArray, y_ = (([(⟨#[255]⟩ : ByteArray), (⟨#[255]⟩ : ByteArray), (⟨#[]⟩ : ByteArray), (⟨#[0, 1]⟩ : ByteArray)] : List ByteArray)) := ⟨_, rfl⟩
                      replace H : ((sum_Sum.f k y152).bind fun t155 => (turnoutlaw03_SumNames.j0 k (t155 != 1))) = some r := by first | (rw [hy152]; with_reducible exact H) | (have H2_ := (Option.bind_some _ _).symm.trans H; rw [hy152]; with_reducible exact H2_) | (have H2_ := (Option.bind_some _ _).symm.trans H; with_reducible exact H2_) | with_reducible exact H | (rw [hy152]; exact H) | exact H
                      have Ny152 := Aside0.mk hy152
                      clear hy152
                      replace H := Option.bind_eq_some_iff.mp H
                      obtain ⟨t155, A200, H⟩ := H
                      replace H : (turnoutlaw03_SumNames.j0 k (t155 != 1)) = some r := H
                      have A20 := Aside0.mk A200
                      clear A200
                      have H' := Aside0.mk H
                      clear H
                      go_wp2_with (first | ((with_reducible refine gate_callee (f := 12) rfl ?_); refine goesL_ (some 3) rfl rfl Try.func12 (by kernel_rfl) rfl #[] rfl (by (try simp only [List.map_toArray, List.map_cons, List.map_nil]); first | done | rfl | (simp only [List.length_drop, List.length_take]; rfl)) ?_; (with_reducible refine (turnoutlaw03_awake.calls k  true _ A2.out).mono ?_); rintro e w21 ⟨rfl, hb⟩; refine ⟨_, rfl, ?_⟩; have n0_ := Aside0.mk (below_step (by repeat (first | (with_reducible first | exact HB.out | apply below_alloc | apply pw_below_drewN | apply below_drew1) | exact HB.out)) hb); clear HB; have HB := n0_; clear n0_; (try clear hb); (try clear hb2); (try clear hk); (try clear hi)) | (go_at_call 13; (with_reducible refine (show Calls Try.prog 13 #[.slice none 0 0] _ _ from ?_)); (refine (sum_Sum.calls k _ _ ([] : List ByteArray) t138 _ ?side1 ?side2 A4.out).mono ?_); (case side1 => exact Kd.C_nil _ _); (case side2 => exact Nat.le_refl _); rintro e w' ⟨rfl, ⟨nd, rfl⟩⟩) | (go_at_call 14; (with_reducible refine (show Calls Try.prog 14 #[.slice none 0 0] _ _ from ?_)); (refine (sum_Of.calls k _ _ ([] : List ByteArray) t139 _ ?side1 ?side2 A6.out).mono ?_); (case side1 => exact Kd.C_nil _ _); (case side2 => exact Nat.le_refl _); rintro e w' ⟨rfl, ⟨nd, rfl⟩⟩) | (go_at_call 15; (with_reducible refine (sum_Add.calls k 0 0 t140 _ A8.out).mono ?_); rintro e w' ⟨rfl, ⟨nd, rfl⟩⟩) | (go_at_call 15; (with_reducible refine (sum_Add.calls k 65535 0 t141 _ A10.out).mono ?_); rintro e w' ⟨rfl, ⟨nd, rfl⟩⟩) | (go_at_call 15; (with_reducible refine (sum_Add.calls k 32768 32768 t142 _ A12.out).mono ?_); rintro e w' ⟨rfl, ⟨nd, rfl⟩⟩) | (go_at_call 15; (with_reducible refine (sum_Add.calls k 65534 1 t143 _ A14.out).mono ?_); rintro e w' ⟨rfl, ⟨nd, rfl⟩⟩) | ((with_reducible refine gate_dst (N := 30) rfl ?_); (try (refine gate_guard (by rfl) ?_; dsimp only)); refine Kd.R_lit Kd.string _ 9 ?hg (N := 30) ?hd (xs := ([(⟨#[255]⟩ : ByteArray)] : List ByteArray)) (inner := [.string (⟨#[255]⟩ : ByteArray)]) (ok := fun _ => True) (okp := fun _ => True) ?hr ?hp (fun _ hk => hk) trivial (Below.refl _ _) (Nat.le_refl _) (by simp) ?_; (case hd => rfl); (case hg => rfl); (case hr => first | (go_simp; done) | (go_simp; rfl)); (case hp => exact (Reps.one (show Kd.M Kd.string _ _ _ (⟨#[255]⟩ : ByteArray) [.string (⟨#[255]⟩ : ByteArray)] from rfl) (Reps.none _ _))); intro v145 w22 ho23 hb hg_ hnew_; clear hg_ hnew_; (first | rw [← Ny144.out] at ho23 | (simp only [Int.reduceToNat] at ho23; rw [← Ny144.out] at ho23)); have n0_ := Aside0.mk (Kd.R_lower ho23 (below_size (by repeat (first | (with_reducible first | exact HB.out | apply below_alloc | apply pw_below_drewN | apply below_drew1) | exact HB.out)))); have n1_ := Aside0.mk (below_step (by repeat (first | (with_reducible first | exact HB.out | apply below_alloc | apply pw_below_drewN | apply below_drew1) | exact HB.out)) hb); clear HB; have HO146 := n0_; have HB := n1_; clear n0_ n1_; clear hb ho23; obtain ⟨Ao24, co24, eo24⟩ := Kd.R_slice HO146.out; subst eo24) | (go_at_call 13; (with_reducible refine (sum_Sum.calls k _ _ y144 t147 _ ?side1 ?side2 A16.out).mono ?_); (case side1 => repeat (first | exact (Kd.R_reads' HO146.out).2.2 | (with_reducible refine Kd.C_alloc ?_ _) | (with_reducible refine Kd.C_drewN ?_ _) | (with_reducible refine Kd.C_drew ?_))); (case side2 => exact (Kd.R_reads' HO146.out).2.1); rintro e w' ⟨rfl, ⟨nd, rfl⟩⟩) | ((with_reducible refine gate_dst (N := 35) rfl ?_); (try (refine gate_guard (by rfl) ?_; dsimp only)); refine Kd.R_lit Kd.string _ 9 ?hg (N := 35) ?hd (xs := ([(⟨#[255, 255, 255, 255]⟩ : ByteArray)] : List ByteArray)) (inner := [.string (⟨#[255, 255, 255, 255]⟩ : ByteArray)]) (ok := fun _ => True) (okp := fun _ => True) ?hr ?hp (fun _ hk => hk) trivial (Below.refl _ _) (Nat.le_refl _) (by simp) ?_; (case hd => rfl); (case hg => rfl); (case hr => first | (go_simp; done) | (go_simp; rfl)); (case hp => exact (Reps.one (show Kd.M Kd.string _ _ _ (⟨#[255, 255, 255, 255]⟩ : ByteArray) [.string (⟨#[255, 255, 255, 255]⟩ : ByteArray)] from rfl) (Reps.none _ _))); intro v149 w25 ho26 hb hg_ hnew_; clear hg_ hnew_; (first | rw [← Ny148.out] at ho26 | (simp only [Int.reduceToNat] at ho26; rw [← Ny148.out] at ho26)); have n0_ := Aside0.mk (Kd.R_elder' (by (with_reducible repeat (first | apply Kd.R_alloc | apply Kd.R_drewN | apply Kd.R_drew)); exact HO146.out) (Kd.R_base ho26) hb); have n1_ := Aside0.mk (Kd.R_lower (Kd.R_new' ho26 (Kd.R_lt (by (with_reducible repeat (first | apply Kd.R_alloc | apply Kd.R_drewN | apply Kd.R_drew)); exact HO146.out))) (below_size (by repeat (first | (with_reducible first | exact HB.out | apply below_alloc | apply pw_below_drewN | apply below_drew1) | exact HB.out)))); have n2_ := Aside0.mk (below_step (by repeat (first | (with_reducible first | exact HB.out | apply below_alloc | apply pw_below_drewN | apply below_drew1) | exact HB.out)) hb); clear HO146; clear HB; have HO146 := n0_; have HO150 := n1_; have HB := n2_; clear n0_ n1_ n2_; clear hb ho26; obtain ⟨Ao27, co27, eo27⟩ := Kd.R_slice HO150.out; subst eo27) | (go_at_call 13; (with_reducible refine (sum_Sum.calls k _ _ y148 t151 _ ?side1 ?side2 A18.out).mono ?_); (case side1 => repeat (first | exact (Kd.R_reads' HO150.out).2.2 | (with_reducible refine Kd.C_alloc ?_ _) | (with_reducible refine Kd.C_drewN ?_ _) | (with_reducible refine Kd.C_drew ?_))); (case side2 => exact (Kd.R_reads' HO150.out).2.1); rintro e w' ⟨rfl, ⟨nd, rfl⟩⟩) | ((with_reducible refine gate_dst (N := 40) rfl ?_); (try (refine gate_guard (by rfl) ?_; dsimp only)); refine Kd.R_lit Kd.string _ 9 ?hg (N := 40) ?hd (xs := ([(⟨#[255]⟩ : ByteArray), (⟨#[255]⟩ : ByteArray), (⟨#[]⟩ : ByteArray), (⟨#[0, 1]⟩ : ByteArray)] : List ByteArray)) (inner := [.string (⟨#[255]⟩ : ByteArray), .string (⟨#[255]⟩ : ByteArray), .string (⟨#[]⟩ : ByteArray), .string (⟨#[0, 1]⟩ : ByteArray)]) (ok := fun _ => True) (okp := fun _ => True) ?hr ?hp (fun _ hk => hk) trivial (Below.refl _ _) (Nat.le_refl _) (by simp) ?_; (case hd => rfl); (case hg => rfl); (case hr => first | (go_simp; done) | (go_simp; rfl)); (case hp => exact (Reps.one (show Kd.M Kd.string _ _ _ (⟨#[255]⟩ : ByteArray) [.string (⟨#[255]⟩ : ByteArray)] from rfl) (Reps.one (show Kd.M Kd.string _ _ _ (⟨#[255]⟩ : ByteArray) [.string (⟨#[255]⟩ : ByteArray)] from rfl) (Reps.one (show Kd.M Kd.string _ _ _ (⟨#[]⟩ : ByteArray) [.string (⟨#[]⟩ : ByteArray)] from rfl) (Reps.one (show Kd.M Kd.string _ _ _ (⟨#[0, 1]⟩ : ByteArray) [.string (⟨#[0, 1]⟩ : ByteArray)] from rfl) (Reps.none _ _)))))); intro v153 w28 ho29 hb hg_ hnew_; clear hg_ hnew_; (first | rw [← Ny152.out] at ho29 | (simp only [Int.reduceToNat] at ho29; rw [← Ny152.out] at ho29)); have n0_ := Aside0.mk (Kd.R_elder' (by (with_reducible repeat (first | apply Kd.R_alloc | apply Kd.R_drewN | apply Kd.R_drew)); exact HO146.out) (Kd.R_base ho29) hb); have n1_ := Aside0.mk (Kd.R_elder' (by (with_reducible repeat (first | apply Kd.R_alloc | apply Kd.R_drewN | apply Kd.R_drew)); exact HO150.out) (Kd.R_base ho29) hb); have n2_ := Aside0.mk (Kd.R_lower (Kd.R_new' (Kd.R_new' ho29 (Kd.R_lt (by (with_reducible repeat (first | apply Kd.R_alloc | apply Kd.R_drewN | apply Kd.R_drew)); exact HO146.out))) (Kd.R_lt (by (with_reducible repeat (first | apply Kd.R_alloc | apply Kd.R_drewN | apply Kd.R_drew)); exact HO150.out))) (below_size (by repeat (first | (with_reducible first | exact HB.out | apply below_alloc | apply pw_below_drewN | apply below_drew1) | exact HB.out)))); have n3_ := Aside0.mk (below_step (by repeat (first | (with_reducible first | exact HB.out | apply below_alloc | apply pw_below_drewN | apply below_drew1) | exact HB.out)) hb); clear HO146; clear HO150; clear HB; have HO146 := n0_; have HO150 := n1_; have HO154 := n2_; have HB := n3_; clear n0_ n1_ n2_ n3_; clear hb ho29; obtain ⟨Ao30, co30, eo30⟩ := Kd.R_slice HO154.out; subst eo30) | (go_at_call 13; (with_reducible refine (sum_Sum.calls k _ _ y152 t155 _ ?side1 ?side2 A20.out).mono ?_); (case side1 => repeat (first | exact (Kd.R_reads' HO154.out).2.2 | (with_reducible refine Kd.C_alloc ?_ _) | (with_reducible refine Kd.C_drewN ?_ _) | (with_reducible refine Kd.C_drew ?_))); (case side2 => exact (Kd.R_reads' HO154.out).2.1); rintro e w' ⟨rfl, ⟨nd, rfl⟩⟩))
                      go_meet
                      case rel => exact ⟨_, ((t155 != 1)), (by first | rfl | (simp; done) | (simp [*]; done)), H', ⟨by first | omega | exact Nat.le_refl _⟩, ⟨by repeat (first | (with_reducible first | exact HB.out | apply below_alloc | apply pw_below_drewN | apply below_drew1) | exact HB.out)⟩⟩
                    · rw [if_neg c19] at H
                      have c19b0 : (t151 == 65535) = false := beq_eq_false_iff_ne.mpr c19
                      have c19b1 : (t151 != 65535) = true := bne_iff_ne.mpr c19
                      exact absurd hr_.out (by cases k with | zero => simp [turnoutlaw03_SumNames.j0] at H | succ _ => simp only [turnoutlaw03_SumNames.j0] at H; (first | rw [if_pos rfl] at H | rw [if_pos trivial] at H); rw [← Option.some.inj H]; decide)
                  · rw [if_neg c17] at H
                    have c17b0 : (t147 == 65280) = false := beq_eq_false_iff_ne.mpr c17
                    have c17b1 : (t147 != 65280) = true := bne_iff_ne.mpr c17
                    exact absurd hr_.out (by cases k with | zero => simp [turnoutlaw03_SumNames.j0] at H | succ _ => simp only [turnoutlaw03_SumNames.j0] at H; (first | rw [if_pos rfl] at H | rw [if_pos trivial] at H); rw [← Option.some.inj H]; decide)
                · rw [if_neg c15] at H
                  have c15b0 : (t143 == 65535) = false := beq_eq_false_iff_ne.mpr c15
                  have c15b1 : (t143 != 65535) = true := bne_iff_ne.mpr c15
                  exact absurd hr_.out (by cases k with | zero => simp [turnoutlaw03_SumNames.j0] at H | succ _ => simp only [turnoutlaw03_SumNames.j0] at H; (first | rw [if_pos rfl] at H | rw [if_pos trivial] at H); rw [← Option.some.inj H]; decide)
              · rw [if_neg c13] at H
                have c13b0 : (t142 == 1) = false := beq_eq_false_iff_ne.mpr c13
                have c13b1 : (t142 != 1) = true := bne_iff_ne.mpr c13
                exact absurd hr_.out (by cases k with | zero => simp [turnoutlaw03_SumNames.j0] at H | succ _ => simp only [turnoutlaw03_SumNames.j0] at H; (first | rw [if_pos rfl] at H | rw [if_pos trivial] at H); rw [← Option.some.inj H]; decide)
            · rw [if_neg c11] at H
              have c11b0 : (t141 == 65535) = false := beq_eq_false_iff_ne.mpr c11
              have c11b1 : (t141 != 65535) = true := bne_iff_ne.mpr c11
              exact absurd hr_.out (by cases k with | zero => simp [turnoutlaw03_SumNames.j0] at H | succ _ => simp only [turnoutlaw03_SumNames.j0] at H; (first | rw [if_pos rfl] at H | rw [if_pos trivial] at H); rw [← Option.some.inj H]; decide)
          · rw [if_neg c9] at H
            have c9b0 : (t140 == 0) = false := beq_eq_false_iff_ne.mpr c9
            have c9b1 : (t140 != 0) = true := bne_iff_ne.mpr c9
            exact absurd hr_.out (by cases k with | zero => simp [turnoutlaw03_SumNames.j0] at H | succ _ => simp only [turnoutlaw03_SumNames.j0] at H; (first | rw [if_pos rfl] at H | rw [if_pos trivial] at H); rw [← Option.some.inj H]; decide)
        · rw [if_neg c7] at H
          have c7b0 : (t139 == 65535) = false := beq_eq_false_iff_ne.mpr c7
          have c7b1 : (t139 != 65535) = true := bne_iff_ne.mpr c7
          exact absurd hr_.out (by cases k with | zero => simp [turnoutlaw03_SumNames.j0] at H | succ _ => simp only [turnoutlaw03_SumNames.j0] at H; (first | rw [if_pos rfl] at H | rw [if_pos trivial] at H); rw [← Option.some.inj H]; decide)
      · rw [if_neg c5] at H
        have c5b0 : (t138 == 0) = false := beq_eq_false_iff_ne.mpr c5
        have c5b1 : (t138 != 0) = true := bne_iff_ne.mpr c5
        (first | rw [c5b0] | (simp only [i64_w, i32_w]; rw [c5b0]) | skip)
        exact absurd hr_.out (by cases k with | zero => simp [turnoutlaw03_SumNames.j0] at H | succ _ => simp only [turnoutlaw03_SumNames.j0] at H; (first | rw [if_pos rfl] at H | rw [if_pos trivial] at H); rw [← Option.some.inj H]; decide)
    · replace c3 := Bool.eq_false_iff.mpr c3
      subst c3
      have H1 : (turnoutlaw03_SumNames.j0 k true) = some r := by rw [if_neg (show ¬ (false = true) by decide)] at H; exact H
      clear H
      have H := H1
      clear H1
      exact absurd hr_.out (by cases k with | zero => simp [turnoutlaw03_SumNames.j0] at H | succ _ => simp only [turnoutlaw03_SumNames.j0] at H; (first | rw [if_pos rfl] at H | rw [if_pos trivial] at H); rw [← Option.some.inj H]; decide)
  case rest =>
    clear HC1
    try clear c1
    try clear p2
    try clear c3
    try clear c5
    try clear c5b0
    try clear c5b1
    try clear c7
    try clear c7b0
    try clear c7b1
    try clear c9
    try clear c9b0
    try clear c9b1
    try clear c11
    try clear c11b0
    try clear c11b1
    try clear c12
    try clear c13
    try clear c13b0
    try clear c13b1
    try clear c15
    try clear c15b0
    try clear c15b1
    try clear c17
    try clear c17b0
    try clear c17b1
    try clear c19
    try clear c19b0
    try clear c19b1
    obtain ⟨kq, x43_0, rfl, HA, HJ0, HB⟩ := hcut
    cases kq with
    | zero => exact absurd HA.out (by simp [turnoutlaw03_SumNames.j0])
    | succ kj0 =>
      have H := HA.out
      clear HA
      simp only [turnoutlaw03_SumNames.j0] at H
      by_cases c31 : x43_0 = true
      · subst c31
        have H1 : (some false) = some r := by rw [if_pos rfl] at H; exact H
        clear H
        have H := H1
        clear H1
        exact absurd ((Option.some.inj H).trans hr_.out) (by decide)
      · replace c31 := Bool.eq_false_iff.mpr c31
        subst c31
        have H1 : (if 300000 ≤ 281474976710656 then (turnoutlaw03_SumNames.l0 kj0 (List.replicate 300000 0) 0) else (none)) = some r := by rw [if_neg (show ¬ (false = true) by decide)] at H; exact H
        clear H
        have H := H1
        clear H1
        by_cases c32 : 300000 ≤ 281474976710656
        · rw [if_pos c32] at H
          have c32b0 := eq_true c32
          have c32b1 : decide (300000 ≤ 281474976710656) = true := decide_eq_true c32
          clear c32
          obtain ⟨y156, hy156⟩ : ∃ y_ : List Int, y_ = (List.replicate 300000 0) := ⟨_, rfl⟩
          replace H : (turnoutlaw03_SumNames.l0 kj0 y156 0) = some r := by first | (rw [hy156]; with_reducible exact H) | (have H2_ := (Option.bind_some _ _).symm.trans H; rw [hy156]; with_reducible exact H2_) | (have H2_ := (Option.bind_some _ _).symm.trans H; with_reducible exact H2_) | with_reducible exact H | (rw [hy156]; exact H) | exact H
          have Ny156 := Aside0.mk hy156
          clear hy156
          have H' := Aside0.mk H
          clear H
          go_wp2_with (first | ((with_reducible refine gate_dst (N := 44) rfl ?_); (try (refine gate_guard (by rfl) ?_; dsimp only)); refine Kd.R_make (Kd.int .u8) _ 5 rfl (N := 44) rfl 26 _ _ rfl 300000 rfl rfl Try.underlying26 (.int .u8 0) 1 info5 rfl (by decide) (by omega) 0 (ok := fun _ => True) (okp := fun _ => True) rfl (fun _ hk => hk) trivial (by omega) (by omega) (Below.refl _ _) (Nat.le_refl _) ?_; intro v157 w33 ho34 hb hg_ hnew_; clear hg_ hnew_; (first | rw [← Ny156.out] at ho34 | (simp only [Int.reduceToNat] at ho34; rw [← Ny156.out] at ho34)); have n0_ := Aside0.mk (Kd.R_lower ho34 (below_size (by repeat (first | (with_reducible first | exact HB.out | apply below_alloc | apply pw_below_drewN | apply below_drew1) | exact HB.out)))); have n1_ := Aside0.mk (below_step (by repeat (first | (with_reducible first | exact HB.out | apply below_alloc | apply pw_below_drewN | apply below_drew1) | exact HB.out)) hb); clear HB; have HO158 := n0_; have HB := n1_; clear n0_ n1_; clear hb ho34))
          go_loopg [2] kj0 (fun kq v2 w' => ∃ (x1_2 : List Int) (x2_2 : Int), v2 = .int .i64 x2_2 ∧ Aside0 (turnoutlaw03_SumNames.l0 kq x1_2 x2_2 = some r) ∧ Aside0 (kq ≤ kj0) ∧ Aside0 (Kd.R (Kd.int .u8) 5 w' w.heap.size (fun _ => True) v157 x1_2) ∧ Aside0 (Below w.heap.size w w'))
          case atStart => exact ⟨(y156), (0), (by first | rfl | (simp; done) | (simp [*]; done)), H', ⟨Nat.le_refl _⟩, ⟨by (with_reducible repeat (first | apply Kd.R_alloc | apply Kd.R_drewN | apply Kd.R_drew)); exact HO158.out⟩, ⟨by repeat (first | (with_reducible first | exact HB.out | apply below_alloc | apply pw_below_drewN | apply below_drew1) | exact HB.out)⟩⟩
          case round =>
            clear H'
            try clear c1
            try clear p2
            try clear c3
            try clear c5
            try clear c5b0
            try clear c5b1
            try clear c7
            try clear c7b0
            try clear c7b1
            try clear c9
            try clear c9b0
            try clear c9b1
            try clear c11
            try clear c11b0
            try clear c11b1
            try clear c12
            try clear c13
            try clear c13b0
            try clear c13b1
            try clear c15
            try clear c15b0
            try clear c15b1
            try clear c17
            try clear c17b0
            try clear c17b1
            try clear c19
            try clear c19b0
            try clear c19b1
            try clear c31
            try clear c32
            try clear c32b0
            try clear c32b1
            try clear p2
            obtain ⟨x1_2, x2_2, rfl, HA, HK2, HO_1, HB⟩ := hrel
            cases gk with
            | zero => exact absurd HA.out (by simp [turnoutlaw03_SumNames.l0])
            | succ k2 =>
              have H := HA.out
              clear HA
              simp only [turnoutlaw03_SumNames.l0] at H
              by_cases c35 : x2_2 < (x1_2.length : Int)
              · rw [if_pos c35] at H
                have c35b0 : decide (x2_2 < (x1_2.length : Int)) = true := decide_eq_true c35
                clear c35
                by_cases c36 : 0 ≤ x2_2
                · rw [if_pos c36] at H
                  have c36b0 : decide (0 ≤ x2_2) = true := decide_eq_true c36
                  clear c36
                  obtain ⟨y159, hy159⟩ : ∃ y_ : List Int, y_ = (x1_2.set (x2_2 : Int).toNat 255) := ⟨_, rfl⟩
                  replace H : (turnoutlaw03_SumNames.l0 k2 y159 (wrap64 (x2_2 + 1))) = some r := by first | (rw [hy159]; with_reducible exact H) | (have H2_ := (Option.bind_some _ _).symm.trans H; rw [hy159]; with_reducible exact H2_) | (have H2_ := (Option.bind_some _ _).symm.trans H; with_reducible exact H2_) | with_reducible exact H | (rw [hy159]; exact H) | exact H
                  have Ny159 := Aside0.mk hy159
                  clear hy159
                  have H' := Aside0.mk H
                  clear H
                  obtain ⟨Ao38, co38, eo38⟩ := Kd.R_slice HO_1.out
                  subst eo38
                  have p37 : 0 ≤ (x2_2 : Int) := of_decide_eq_true (by first | (with_reducible assumption) | assumption)
                  have q37 : (x2_2 : Int) < ((x1_2.length : Int) : Int) := of_decide_eq_true (by first | (with_reducible assumption) | assumption)
                  obtain ⟨go37, co37, eo37, gb37, gl37, cl37, HG37⟩ := Kd.R_form HO_1.out (by omega)
                  (first | cases eo37 | (injection eo37 with ea_ en_ ec_; (first | subst ea_ | (injection ea_ with ea_; subst ea_)); subst ec_; clear en_))
                  have GB37 := Aside0.mk gb37
                  have GG37 := Aside0.mk HG37
                  clear gb37 gl37 HG37
                  obtain ⟨hx37_0, hf37_0⟩ := Kd.R_celln 0 HO_1.out (x2_2 : Int) p37 q37
                  replace p37 := eq_true p37
                  replace q37 := eq_true q37
                  have HP39 := Kd.R_putg HO_1.out (x2_2 : Int) 255
                  go_wp2_with (first | ((with_reducible refine gate_store (t := 5) (p := 53) rfl ?_); refine store_event (t := 5) (p := 53) (v := ?vo_w40) (w1 := (wr.setCell ⟨go37, (x2_2 : Int).toNat, none⟩ (.int .u8 255))) ?hg ?ho ?hn ?hr ?_; (case ho => rfl); (case hg => rfl); (case hn => rfl); (case hr => first | (go_simp; done) | (go_simp; rfl)); intro w40 hw; have hg : wr.grownBy w40 (some go37) := (by rw [hw]; exact HP39.2); have hp_ : Kd.R (Kd.int .u8) 5 w40 w.heap.size (fun _ => True) (.slice (some ⟨go37, 0, none⟩) x1_2.length co38) y159 := (by rw [hw, Ny159.out]; exact HP39.1); clear HP39; have n0_ := Aside0.mk (hp_); have n1_ := Aside0.mk ((by rw [hw]; exact below_set (HB.out) GB37.out : Below w.heap.size w w40)); clear HO_1; clear HB; have HO_1 := n0_; have HB := n1_; clear n0_ n1_; clear hg hw hp_))
                  go_roundg k2
                  case measure => have := HJ0.out; have := HK2.out; omega
                  case rel => exact ⟨(y159), (wrap64 (x2_2 + 1)), (by first | rfl | (simp; done) | (simp [*]; done)), H', ⟨by have := HJ0.out; have := HK2.out; omega⟩, ⟨by (with_reducible repeat (first | apply Kd.R_alloc | apply Kd.R_drewN | apply Kd.R_drew)); exact HO_1.out⟩, ⟨by repeat (first | (with_reducible first | exact HB.out | apply below_alloc | apply pw_below_drewN | apply below_drew1) | exact HB.out)⟩⟩
                · rw [if_neg c36] at H
                  exact absurd H (by simp)
              · rw [if_neg c35] at H
                have c35b0 : decide (x2_2 < (x1_2.length : Int)) = false := decide_eq_false c35
                clear c35
                obtain ⟨y160, hy160⟩ : ∃ y_ : List ByteArray, y_ = (([strOfNums x1_2] : List ByteArray)) := ⟨_, rfl⟩
                replace H : ((sum_Sum.f k2 y160).bind fun t163 => (if t163 = 65535 then ((sum_Sum.f k2 (([strOfNums x1_2, (⟨#[0, 1]⟩ : ByteArray)] : List ByteArray))).bind fun t167 => (if t167 = 1 then ((sum_Good.f k2 (strOfNums x1_2)).bind fun t168 => (if t168 = true then ((sum_Good.f k2 (⟨#[0, 0]⟩ : ByteArray)).bind fun t169 => (if t169 = true then (some false) else ((sum_Good.f k2 (⟨#[255]⟩ : ByteArray)).bind fun t170 => (if t170 = true then (some false) else ((sum_Good.f k2 (⟨#[255, 0, 0, 255]⟩ : ByteArray)).bind fun t171 => (if t171 = true then ((sum_Update.f k2 0 0 0).bind fun t172 => (if t172 = 0 then ((sum_Update.f k2 65535 0 0).bind fun t173 => (if t173 = 0 then ((sum_Update.f k2 65535 65535 0).bind fun t174 => (some (t174 == 65535))) else (some false))) else (some false))) else (some false))))))) else (some false))) else (some false))) else (some false))) = some r := by first | (rw [hy160]; with_reducible exact H) | (have H2_ := (Option.bind_some _ _).symm.trans H; rw [hy160]; with_reducible exact H2_) | (have H2_ := (Option.bind_some _ _).symm.trans H; with_reducible exact H2_) | with_reducible exact H | (rw [hy160]; exact H) | exact H
                have Ny160 := Aside0.mk hy160
                clear hy160
                replace H := Option.bind_eq_some_iff.mp H
                obtain ⟨t163, A410, H⟩ := H
                replace H : (if t163 = 65535 then ((sum_Sum.f k2 (([strOfNums x1_2, (⟨#[0, 1]⟩ : ByteArray)] : List ByteArray))).bind fun t167 => (if t167 = 1 then ((sum_Good.f k2 (strOfNums x1_2)).bind fun t168 => (if t168 = true then ((sum_Good.f k2 (⟨#[0, 0]⟩ : ByteArray)).bind fun t169 => (if t169 = true then (some false) else ((sum_Good.f k2 (⟨#[255]⟩ : ByteArray)).bind fun t170 => (if t170 = true then (some false) else ((sum_Good.f k2 (⟨#[255, 0, 0, 255]⟩ : ByteArray)).bind fun t171 => (if t171 = true then ((sum_Update.f k2 0 0 0).bind fun t172 => (if t172 = 0 then ((sum_Update.f k2 65535 0 0).bind fun t173 => (if t173 = 0 then ((sum_Update.f k2 65535 65535 0).bind fun t174 => (some (t174 == 65535))) else (some false))) else (some false))) else (some false))))))) else (some false))) else (some false))) else (some false)) = some r := H
                have A41 := Aside0.mk A410
                clear A410
                by_cases c42 : t163 = 65535
                · rw [if_pos c42] at H
                  have c42b0 : (t163 == 65535) = true := beq_iff_eq.mpr c42
                  have c42b1 : (t163 != 65535) = false := bne_eq_false_iff_eq.mpr c42
                  clear c42
                  obtain ⟨y164, hy164⟩ : ∃ y_ : List ByteArray, y_ = (([strOfNums x1_2, (⟨#[0, 1]⟩ : ByteArray)] : List ByteArray)) := ⟨_, rfl⟩
                  replace H : ((sum_Sum.f k2 y164).bind fun t167 => (if t167 = 1 then ((sum_Good.f k2 (strOfNums x1_2)).bind fun t168 => (if t168 = true then ((sum_Good.f k2 (⟨#[0, 0]⟩ : ByteArray)).bind fun t169 => (if t169 = true then (some false) else ((sum_Good.f k2 (⟨#[255]⟩ : ByteArray)).bind fun t170 => (if t170 = true then (some false) else ((sum_Good.f k2 (⟨#[255, 0, 0, 255]⟩ : ByteArray)).bind fun t171 => (if t171 = true then ((sum_Update.f k2 0 0 0).bind fun t172 => (if t172 = 0 then ((sum_Update.f k2 65535 0 0).bind fun t173 => (if t173 = 0 then ((sum_Update.f k2 65535 65535 0).bind fun t174 => (some (t174 == 65535))) else (some false))) else (some false))) else (some false))))))) else (some false))) else (some false))) = some r := by first | (rw [hy164]; with_reducible exact H) | (have H2_ := (Option.bind_some _ _).symm.trans H; rw [hy164]; with_reducible exact H2_) | (have H2_ := (Option.bind_some _ _).symm.trans H; with_reducible exact H2_) | with_reducible exact H | (rw [hy164]; exact H) | exact H
                  have Ny164 := Aside0.mk hy164
                  clear hy164
                  replace H := Option.bind_eq_some_iff.mp H
                  obtain ⟨t167, A430, H⟩ := H
                  replace H : (if t167 = 1 then ((sum_Good.f k2 (strOfNums x1_2)).bind fun t168 => (if t168 = true then ((sum_Good.f k2 (⟨#[0, 0]⟩ : ByteArray)).bind fun t169 => (if t169 = true then (some false) else ((sum_Good.f k2 (⟨#[255]⟩ : ByteArray)).bind fun t170 => (if t170 = true then (some false) else ((sum_Good.f k2 (⟨#[255, 0, 0, 255]⟩ : ByteArray)).bind fun t171 => (if t171 = true then ((sum_Update.f k2 0 0 0).bind fun t172 => (if t172 = 0 then ((sum_Update.f k2 65535 0 0).bind fun t173 => (if t173 = 0 then ((sum_Update.f k2 65535 65535 0).bind fun t174 => (some (t174 == 65535))) else (some false))) else (some false))) else (some false))))))) else (some false))) else (some false)) = some r := H
                  have A43 := Aside0.mk A430
                  clear A430
                  by_cases c44 : t167 = 1
                  · rw [if_pos c44] at H
                    have c44b0 : (t167 == 1) = true := beq_iff_eq.mpr c44
                    have c44b1 : (t167 != 1) = false := bne_eq_false_iff_eq.mpr c44
                    clear c44
                    replace H := Option.bind_eq_some_iff.mp H
                    obtain ⟨t168, A450, H⟩ := H
                    replace H : (if t168 = true then ((sum_Good.f k2 (⟨#[0, 0]⟩ : ByteArray)).bind fun t169 => (if t169 = true then (some false) else ((sum_Good.f k2 (⟨#[255]⟩ : ByteArray)).bind fun t170 => (if t170 = true then (some false) else ((sum_Good.f k2 (⟨#[255, 0, 0, 255]⟩ : ByteArray)).bind fun t171 => (if t171 = true then ((sum_Update.f k2 0 0 0).bind fun t172 => (if t172 = 0 then ((sum_Update.f k2 65535 0 0).bind fun t173 => (if t173 = 0 then ((sum_Update.f k2 65535 65535 0).bind fun t174 => (some (t174 == 65535))) else (some false))) else (some false))) else (some false))))))) else (some false)) = some r := H
                    have A45 := Aside0.mk A450
                    clear A450
                    by_cases c46 : t168 = true
                    · subst c46
                      have H1 : ((sum_Good.f k2 (⟨#[0, 0]⟩ : ByteArray)).bind fun t169 => (if t169 = true then (some false) else ((sum_Good.f k2 (⟨#[255]⟩ : ByteArray)).bind fun t170 => (if t170 = true then (some false) else ((sum_Good.f k2 (⟨#[255, 0, 0, 255]⟩ : ByteArray)).bind fun t171 => (if t171 = true then ((sum_Update.f k2 0 0 0).bind fun t172 => (if t172 = 0 then ((sum_Update.f k2 65535 0 0).bind fun t173 => (if t173 = 0 then ((sum_Update.f k2 65535 65535 0).bind fun t174 => (some (t174 == 65535))) else (some false))) else (some false))) else (some false))))))) = some r := by rw [if_pos rfl] at H; exact H
                      clear H
                      have H := H1
                      clear H1
                      replace H := Option.bind_eq_some_iff.mp H
                      obtain ⟨t169, A470, H⟩ := H
                      replace H : (if t169 = true then (some false) else ((sum_Good.f k2 (⟨#[255]⟩ : ByteArray)).bind fun t170 => (if t170 = true then (some false) else ((sum_Good.f k2 (⟨#[255, 0, 0, 255]⟩ : ByteArray)).bind fun t171 => (if t171 = true then ((sum_Update.f k2 0 0 0).bind fun t172 => (if t172 = 0 then ((sum_Update.f k2 65535 0 0).bind fun t173 => (if t173 = 0 then ((sum_Update.f k2 65535 65535 0).bind fun t174 => (some (t174 == 65535))) else (some false))) else (some false))) else (some false)))))) = some r := H
                      have A47 := Aside0.mk A470
                      clear A470
                      by_cases c48 : t169 = true
                      · subst c48
                        have H1 : (some false) = some r := by rw [if_pos rfl] at H; exact H
                        clear H
                        have H := H1
                        clear H1
                        exact absurd ((Option.some.inj H).trans hr_.out) (by decide)
                      · replace c48 := Bool.eq_false_iff.mpr c48
                        subst c48
                        have H1 : ((sum_Good.f k2 (⟨#[255]⟩ : ByteArray)).bind fun t170 => (if t170 = true then (some false) else ((sum_Good.f k2 (⟨#[255, 0, 0, 255]⟩ : ByteArray)).bind fun t171 => (if t171 = true then ((sum_Update.f k2 0 0 0).bind fun t172 => (if t172 = 0 then ((sum_Update.f k2 65535 0 0).bind fun t173 => (if t173 = 0 then ((sum_Update.f k2 65535 65535 0).bind fun t174 => (some (t174 == 65535))) else (some false))) else (some false))) else (some false))))) = some r := by rw [if_neg (show ¬ (false = true) by decide)] at H; exact H
                        clear H
                        have H := H1
                        clear H1
                        replace H := Option.bind_eq_some_iff.mp H
                        obtain ⟨t170, A490, H⟩ := H
                        replace H : (if t170 = true then (some false) else ((sum_Good.f k2 (⟨#[255, 0, 0, 255]⟩ : ByteArray)).bind fun t171 => (if t171 = true then ((sum_Update.f k2 0 0 0).bind fun t172 => (if t172 = 0 then ((sum_Update.f k2 65535 0 0).bind fun t173 => (if t173 = 0 then ((sum_Update.f k2 65535 65535 0).bind fun t174 => (some (t174 == 65535))) else (some false))) else (some false))) else (some false)))) = some r := H
                        have A49 := Aside0.mk A490
                        clear A490
                        by_cases c50 : t170 = true
                        · subst c50
                          have H1 : (some false) = some r := by rw [if_pos rfl] at H; exact H
                          clear H
                          have H := H1
                          clear H1
                          exact absurd ((Option.some.inj H).trans hr_.out) (by decide)
                        · replace c50 := Bool.eq_false_iff.mpr c50
                          subst c50
                          have H1 : ((sum_Good.f k2 (⟨#[255, 0, 0, 255]⟩ : ByteArray)).bind fun t171 => (if t171 = true then ((sum_Update.f k2 0 0 0).bind fun t172 => (if t172 = 0 then ((sum_Update.f k2 65535 0 0).bind fun t173 => (if t173 = 0 then ((sum_Update.f k2 65535 65535 0).bind fun t174 => (some (t174 == 65535))) else (some false))) else (some false))) else (some false))) = some r := by rw [if_neg (show ¬ (false = true) by decide)] at H; exact H
                          clear H
                          have H := H1
                          clear H1
                          replace H := Option.bind_eq_some_iff.mp H
                          obtain ⟨t171, A510, H⟩ := H
                          replace H : (if t171 = true then ((sum_Update.f k2 0 0 0).bind fun t172 => (if t172 = 0 then ((sum_Update.f k2 65535 0 0).bind fun t173 => (if t173 = 0 then ((sum_Update.f k2 65535 65535 0).bind fun t174 => (some (t174 == 65535))) else (some false))) else (some false))) else (some false)) = some r := H
                          have A51 := Aside0.mk A510
                          clear A510
                          by_cases c52 : t171 = true
                          · subst c52
                            have H1 : ((sum_Update.f k2 0 0 0).bind fun t172 => (if t172 = 0 then ((sum_Update.f k2 65535 0 0).bind fun t173 => (if t173 = 0 then ((sum_Update.f k2 65535 65535 0).bind fun t174 => (some (t174 == 65535))) else (some false))) else (some false))) = some r := by rw [if_pos rfl] at H; exact H
                            clear H
                            have H := H1
                            clear H1
                            replace H := Option.bind_eq_some_iff.mp H
                            obtain ⟨t172, A530, H⟩ := H
                            replace H : (if t172 = 0 then ((sum_Update.f k2 65535 0 0).bind fun t173 => (if t173 = 0 then ((sum_Update.f k2 65535 65535 0).bind fun t174 => (some (t174 == 65535))) else (some false))) else (some false)) = some r := H
                            have A53 := Aside0.mk A530
                            clear A530
                            by_cases c54 : t172 = 0
                            · rw [if_pos c54] at H
                              have c54b0 : (t172 == 0) = true := beq_iff_eq.mpr c54
                              have c54b1 : (t172 != 0) = false := bne_eq_false_iff_eq.mpr c54
                              clear c54
                              replace H := Option.bind_eq_some_iff.mp H
                              obtain ⟨t173, A550, H⟩ := H
                              replace H : (if t173 = 0 then ((sum_Update.f k2 65535 65535 0).bind fun t174 => (some (t174 == 65535))) else (some false)) = some r := H
                              have A55 := Aside0.mk A550
                              clear A550
                              by_cases c56 : t173 = 0
                              · rw [if_pos c56] at H
                                have c56b0 : (t173 == 0) = true := beq_iff_eq.mpr c56
                                have c56b1 : (t173 != 0) = false := bne_eq_false_iff_eq.mpr c56
                                clear c56
                                replace H := Option.bind_eq_some_iff.mp H
                                obtain ⟨t174, A570, H⟩ := H
                                replace H : (some (t174 == 65535)) = some r := H
                                have A57 := Aside0.mk A570
                                clear A570
                                obtain rfl := Option.some.inj H
                                obtain ⟨Ao58, co58, eo58⟩ := Kd.R_slice HO_1.out
                                subst eo58
                                have hcv59 := own_string (P := Try.prog) Try.underlying26 Try.underlying5 Try.underlying9 (Kd.own_of_R HO_1.out)
                                have hcd59 := own_stringD (P := Try.prog) Try.underlying26 Try.underlying5 Try.underlying9 (Kd.own_of_R HO_1.out)
                                go_wp2_with (first | ((with_reducible refine gate_dst (N := 56) rfl ?_); (try (refine gate_guard (by rfl) ?_; dsimp only)); refine Kd.R_lit Kd.string _ 9 ?hg (N := 56) ?hd (xs := ([strOfNums x1_2] : List ByteArray)) (inner := [.string (strOfNums x1_2)]) (ok := fun _ => True) (okp := fun _ => True) ?hr ?hp (fun _ hk => hk) trivial (Below.refl _ _) (Nat.le_refl _) (by simp) ?_; (case hd => rfl); (case hg => rfl); (case hr => first | (go_simp; done) | (go_simp; rfl)); (case hp => exact (Reps.one (show Kd.M Kd.string _ _ _ (strOfNums x1_2) [.string (strOfNums x1_2)] from rfl) (Reps.none _ _))); intro v161 w60 ho61 hb hg_ hnew_; clear hg_ hnew_; (first | rw [← Ny160.out] at ho61 | (simp only [Int.reduceToNat] at ho61; rw [← Ny160.out] at ho61)); have n0_ := Aside0.mk (Kd.R_below (by (with_reducible repeat (first | apply Kd.R_alloc | apply Kd.R_drewN | apply Kd.R_drew)); exact HO_1.out) hb); have n1_ := Aside0.mk (Kd.R_lower ho61 (below_size (by repeat (first | (with_reducible first | exact HB.out | apply below_alloc | apply pw_below_drewN | apply below_drew1) | exact HB.out)))); have n2_ := Aside0.mk (below_step (by repeat (first | (with_reducible first | exact HB.out | apply below_alloc | apply pw_below_drewN | apply below_drew1) | exact HB.out)) hb); clear HO_1; clear HB; have HO_1 := n0_; have HO162 := n1_; have HB := n2_; clear n0_ n1_ n2_; clear hb ho61; obtain ⟨Ao62, co62, eo62⟩ := Kd.R_slice HO162.out; subst eo62) | ((with_reducible refine gate_callee (f := 13) rfl ?_); refine goesL_ (some 57) rfl rfl Try.func13 (by kernel_rfl) rfl #[.slice Ao62 y160.length co62] rfl (by (try simp only [List.map_toArray, List.map_cons, List.map_nil]); first | done | rfl | (simp only [List.length_drop, List.length_take]; rfl)) ?_; (with_reducible refine (sum_Sum.calls k2 _ _ y160 t163 _ ?side1 ?side2 A41.out).mono ?_); (case side1 => repeat (first | exact (Kd.R_reads' HO162.out).2.2 | (with_reducible refine Kd.C_alloc ?_ _) | (with_reducible refine Kd.C_drewN ?_ _) | (with_reducible refine Kd.C_drew ?_))); (case side2 => exact (Kd.R_reads' HO162.out).2.1); rintro e w' ⟨rfl, ⟨nd, rfl⟩⟩; refine ⟨_, rfl, ?_⟩; have hcv63 := own_string (P := Try.prog) Try.underlying26 Try.underlying5 Try.underlying9 (Kd.own_of_R HO_1.out); have hcd63 := own_stringD (P := Try.prog) Try.underlying26 Try.underlying5 Try.underlying9 (Kd.own_of_R HO_1.out)) | ((with_reducible refine gate_dst (N := 62) rfl ?_); (try (refine gate_guard (by rfl) ?_; dsimp only)); refine Kd.R_lit Kd.string _ 9 ?hg (N := 62) ?hd (xs := ([strOfNums x1_2, (⟨#[0, 1]⟩ : ByteArray)] : List ByteArray)) (inner := [.string (strOfNums x1_2), .string (⟨#[0, 1]⟩ : ByteArray)]) (ok := fun _ => True) (okp := fun _ => True) ?hr ?hp (fun _ hk => hk) trivial (Below.refl _ _) (Nat.le_refl _) (by simp) ?_; (case hd => rfl); (case hg => rfl); (case hr => first | (go_simp; done) | (go_simp; rfl)); (case hp => exact (Reps.one (show Kd.M Kd.string _ _ _ (strOfNums x1_2) [.string (strOfNums x1_2)] from rfl) (Reps.one (show Kd.M Kd.string _ _ _ (⟨#[0, 1]⟩ : ByteArray) [.string (⟨#[0, 1]⟩ : ByteArray)] from rfl) (Reps.none _ _)))); intro v165 w64 ho65 hb hg_ hnew_; clear hg_ hnew_; (first | rw [← Ny164.out] at ho65 | (simp only [Int.reduceToNat] at ho65; rw [← Ny164.out] at ho65)); have n0_ := Aside0.mk (Kd.R_below (by (with_reducible repeat (first | apply Kd.R_alloc | apply Kd.R_drewN | apply Kd.R_drew)); exact HO_1.out) hb); have n1_ := Aside0.mk (Kd.R_elder' (by (with_reducible repeat (first | apply Kd.R_alloc | apply Kd.R_drewN | apply Kd.R_drew)); exact HO162.out) (Kd.R_base ho65) hb); have n2_ := Aside0.mk (Kd.R_lower (Kd.R_new' ho65 (Kd.R_lt (by (with_reducible repeat (first | apply Kd.R_alloc | apply Kd.R_drewN | apply Kd.R_drew)); exact HO162.out))) (below_size (by repeat (first | (with_reducible first | exact HB.out | apply below_alloc | apply pw_below_drewN | apply below_drew1) | exact HB.out)))); have n3_ := Aside0.mk (below_step (by repeat (first | (with_reducible first | exact HB.out | apply below_alloc | apply pw_below_drewN | apply below_drew1) | exact HB.out)) hb); clear HO_1; clear HO162; clear HB; have HO_1 := n0_; have HO162 := n1_; have HO166 := n2_; have HB := n3_; clear n0_ n1_ n2_ n3_; clear hb ho65; obtain ⟨Ao66, co66, eo66⟩ := Kd.R_slice HO166.out; subst eo66) | (go_at_call 13; (with_reducible refine (sum_Sum.calls k2 _ _ y164 t167 _ ?side1 ?side2 A43.out).mono ?_); (case side1 => repeat (first | exact (Kd.R_reads' HO166.out).2.2 | (with_reducible refine Kd.C_alloc ?_ _) | (with_reducible refine Kd.C_drewN ?_ _) | (with_reducible refine Kd.C_drew ?_))); (case side2 => exact (Kd.R_reads' HO166.out).2.1); rintro e w' ⟨rfl, ⟨nd, rfl⟩⟩; have hcv67 := own_string (P := Try.prog) Try.underlying26 Try.underlying5 Try.underlying9 (Kd.own_of_R HO_1.out); have hcd67 := own_stringD (P := Try.prog) Try.underlying26 Try.underlying5 Try.underlying9 (Kd.own_of_R HO_1.out)) | (go_at_call 16; (with_reducible refine (sum_Good.calls k2 (strOfNums x1_2) true _ A45.out).mono ?_); rintro e w68 ⟨rfl, hb⟩; have n0_ := Aside0.mk (Kd.R_below (by (with_reducible repeat (first | apply Kd.R_alloc | apply Kd.R_drewN | apply Kd.R_drew)); exact HO_1.out) hb); have n1_ := Aside0.mk (Kd.R_below (by (with_reducible repeat (first | apply Kd.R_alloc | apply Kd.R_drewN | apply Kd.R_drew)); exact HO162.out) hb); have n2_ := Aside0.mk (Kd.R_below (by (with_reducible repeat (first | apply Kd.R_alloc | apply Kd.R_drewN | apply Kd.R_drew)); exact HO166.out) hb); have n3_ := Aside0.mk (below_step (by repeat (first | (with_reducible first | exact HB.out | apply below_alloc | apply pw_below_drewN | apply below_drew1) | exact HB.out)) hb); clear HO_1; clear HO162; clear HO166; clear HB; have HO_1 := n0_; have HO162 := n1_; have HO166 := n2_; have HB := n3_; clear n0_ n1_ n2_ n3_; (try clear hb); (try clear hb2); (try clear hk); (try clear hi)) | (go_at_call 16; (with_reducible refine (sum_Good.calls k2 (⟨#[0, 0]⟩ : ByteArray) false _ A47.out).mono ?_); rintro e w69 ⟨rfl, hb⟩; have n0_ := Aside0.mk (Kd.R_below (by (with_reducible repeat (first | apply Kd.R_alloc | apply Kd.R_drewN | apply Kd.R_drew)); exact HO_1.out) hb); have n1_ := Aside0.mk (Kd.R_below (by (with_reducible repeat (first | apply Kd.R_alloc | apply Kd.R_drewN | apply Kd.R_drew)); exact HO162.out) hb); have n2_ := Aside0.mk (Kd.R_below (by (with_reducible repeat (first | apply Kd.R_alloc | apply Kd.R_drewN | apply Kd.R_drew)); exact HO166.out) hb); have n3_ := Aside0.mk (below_step (by repeat (first | (with_reducible first | exact HB.out | apply below_alloc | apply pw_below_drewN | apply below_drew1) | exact HB.out)) hb); clear HO_1; clear HO162; clear HO166; clear HB; have HO_1 := n0_; have HO162 := n1_; have HO166 := n2_; have HB := n3_; clear n0_ n1_ n2_ n3_; (try clear hb); (try clear hb2); (try clear hk); (try clear hi)) | (go_at_call 16; (with_reducible refine (sum_Good.calls k2 (⟨#[255]⟩ : ByteArray) false _ A49.out).mono ?_); rintro e w70 ⟨rfl, hb⟩; have n0_ := Aside0.mk (Kd.R_below (by (with_reducible repeat (first | apply Kd.R_alloc | apply Kd.R_drewN | apply Kd.R_drew)); exact HO_1.out) hb); have n1_ := Aside0.mk (Kd.R_below (by (with_reducible repeat (first | apply Kd.R_alloc | apply Kd.R_drewN | apply Kd.R_drew)); exact HO162.out) hb); have n2_ := Aside0.mk (Kd.R_below (by (with_reducible repeat (first | apply Kd.R_alloc | apply Kd.R_drewN | apply Kd.R_drew)); exact HO166.out) hb); have n3_ := Aside0.mk (below_step (by repeat (first | (with_reducible first | exact HB.out | apply below_alloc | apply pw_below_drewN | apply below_drew1) | exact HB.out)) hb); clear HO_1; clear HO162; clear HO166; clear HB; have HO_1 := n0_; have HO162 := n1_; have HO166 := n2_; have HB := n3_; clear n0_ n1_ n2_ n3_; (try clear hb); (try clear hb2); (try clear hk); (try clear hi)) | (go_at_call 16; (with_reducible refine (sum_Good.calls k2 (⟨#[255, 0, 0, 255]⟩ : ByteArray) true _ A51.out).mono ?_); rintro e w71 ⟨rfl, hb⟩; have n0_ := Aside0.mk (Kd.R_below (by (with_reducible repeat (first | apply Kd.R_alloc | apply Kd.R_drewN | apply Kd.R_drew)); exact HO_1.out) hb); have n1_ := Aside0.mk (Kd.R_below (by (with_reducible repeat (first | apply Kd.R_alloc | apply Kd.R_drewN | apply Kd.R_drew)); exact HO162.out) hb); have n2_ := Aside0.mk (Kd.R_below (by (with_reducible repeat (first | apply Kd.R_alloc | apply Kd.R_drewN | apply Kd.R_drew)); exact HO166.out) hb); have n3_ := Aside0.mk (below_step (by repeat (first | (with_reducible first | exact HB.out | apply below_alloc | apply pw_below_drewN | apply below_drew1) | exact HB.out)) hb); clear HO_1; clear HO162; clear HO166; clear HB; have HO_1 := n0_; have HO162 := n1_; have HO166 := n2_; have HB := n3_; clear n0_ n1_ n2_ n3_; (try clear hb); (try clear hb2); (try clear hk); (try clear hi)) | (go_at_call 17; (with_reducible refine (sum_Update.calls k2 0 0 0 t172 _ A53.out).mono ?_); rintro e w' ⟨rfl, ⟨nd, rfl⟩⟩) | (go_at_call 17; (with_reducible refine (sum_Update.calls k2 65535 0 0 t173 _ A55.out).mono ?_); rintro e w' ⟨rfl, ⟨nd, rfl⟩⟩) | (go_at_call 17; (with_reducible refine (sum_Update.calls k2 65535 65535 0 t174 _ A57.out).mono ?_); rintro e w' ⟨rfl, ⟨nd, rfl⟩⟩))
                                go_ret
                                exact ⟨by first | rfl | (simp [errW_none, errW_some] <;> rfl) | (simp [*, errW_none, errW_some] <;> rfl), by repeat (first | (with_reducible first | exact HB.out | apply below_alloc | apply pw_below_drewN | apply below_drew1) | exact HB.out)⟩
                              · rw [if_neg c56] at H
                                have c56b0 : (t173 == 0) = false := beq_eq_false_iff_ne.mpr c56
                                have c56b1 : (t173 != 0) = true := bne_iff_ne.mpr c56
                                exact absurd ((Option.some.inj H).trans hr_.out) (by decide)
                            · rw [if_neg c54] at H
                              have c54b0 : (t172 == 0) = false := beq_eq_false_iff_ne.mpr c54
                              have c54b1 : (t172 != 0) = true := bne_iff_ne.mpr c54
                              exact absurd ((Option.some.inj H).trans hr_.out) (by decide)
                          · replace c52 := Bool.eq_false_iff.mpr c52
                            subst c52
                            have H1 : (some false) = some r := by rw [if_neg (show ¬ (false = true) by decide)] at H; exact H
                            clear H
                            have H := H1
                            clear H1
                            exact absurd ((Option.some.inj H).trans hr_.out) (by decide)
                    · replace c46 := Bool.eq_false_iff.mpr c46
                      subst c46
                      have H1 : (some false) = some r := by rw [if_neg (show ¬ (false = true) by decide)] at H; exact H
                      clear H
                      have H := H1
                      clear H1
                      exact absurd ((Option.some.inj H).trans hr_.out) (by decide)
                  · rw [if_neg c44] at H
                    have c44b0 : (t167 == 1) = false := beq_eq_false_iff_ne.mpr c44
                    have c44b1 : (t167 != 1) = true := bne_iff_ne.mpr c44
                    exact absurd ((Option.some.inj H).trans hr_.out) (by decide)
                · rw [if_neg c42] at H
                  have c42b0 : (t163 == 65535) = false := beq_eq_false_iff_ne.mpr c42
                  have c42b1 : (t163 != 65535) = true := bne_iff_ne.mpr c42
                  exact absurd ((Option.some.inj H).trans hr_.out) (by decide)
        · rw [if_neg c32] at H
          exact absurd H (by simp)

/-- THE ONE PURE STATEMENT of turnoutlaw03_SumNames: yours. -/
def turnoutlaw03_SumNames.Pure : Prop := ∃ k, turnoutlaw03_SumNames.f k  = some true
theorem turnoutlaw03_SumNames.walk (P : turnoutlaw03_SumNames.Pure)  (w : World)  :
    Calls Try.prog 3 #[] w fun e w' => e = .returned (.bool true) ∧ Below w.heap.size w w' := by
  obtain ⟨k, h⟩ := P  
  refine (turnoutlaw03_SumNames.calls k  true w h ⟨rfl⟩).mono ?_
  rintro e w' ⟨rfl, hd⟩
  exact ⟨rfl, hd⟩

end Go.Proofs.Ytieopkigfbnhcaa.PSumN
