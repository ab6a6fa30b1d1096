-- Written by wip/turnprint.py, a program of this session (the kit's print, turned).
import Derived.Test.YtmplgmlfpfopbaaPWordKx0
namespace Go.Proofs.Ytmplgmlfpfopbaa.PWordK
open Go.RowKit Go.Proofs.YtmplgmlfpfopbaaW.PrintWords Go.Proofs.YtmplgmlfpfopbaaW.PrintLast Go.Proofs.YtmplgmlfpfopbaaW.PrintMore
attribute [local go_sem] max2_int min2_int max_two min_two max_three min_three max_four min_four   -- for this text's walks alone
set_option linter.unusedVariables false
set_option linter.unusedSimpArgs false

attribute [local go_sem high] xorA_u8 xorA_u16 xorA_u32 xorA_u64 gtr_str
/-! ### turnoutref01_Bits: function 46 -/
def turnoutref01_Bits.l0 : Nat → List Int → Int → Int → Int → Option (List Int)
  | 0, _, _, _, _ => none
  | k + 1, x3, x4, x174000, x174001 => if x4 < 64 then (if 0 ≤ (IntKind.u64.wrap (x4)) then (if 0 ≤ (wrap64 (63 - x4)) then (if (wrap64 (63 - x4)) < (x3.length : Int) then (if 0 ≤ (wrap64 (127 - x4)) then (if (wrap64 (127 - x4)) < (x3.length : Int) then (turnoutref01_Bits.l0 k ((x3.set ((wrap64 (63 - x4)) : Int).toNat ((Int.tmod (shr .u64 x174000 (IntKind.u64.wrap (x4))) 2) % 256)).set ((wrap64 (127 - x4)) : Int).toNat ((Int.tmod (shr .u64 x174001 (IntKind.u64.wrap (x4))) 2) % 256)) (wrap64 (x4 + 1)) x174000 x174001) else (none)) else (none)) else (none)) else (none)) else (none)) else (some x3)
def turnoutref01_Bits.f (k : Nat) (a0_0 : Int) (a0_1 : Int) : Option (List Int) := if 128 ≤ 281474976710656 then (turnoutref01_Bits.l0 k (List.replicate 128 0) 0 a0_0 a0_1) else (none)
theorem turnoutref01_Bits.mono_l : ∀ k, (∀ y0 y1 y2 y3, LeO (turnoutref01_Bits.l0 k y0 y1 y2 y3) (turnoutref01_Bits.l0 (k + 1) y0 y1 y2 y3))
  | 0 => fun _ _ _ _ r h => by simp [turnoutref01_Bits.l0] at h
  | k + 1 => by
   have ih0 := turnoutref01_Bits.mono_l k
   ·
    intro y0 y1 y2 y3
    unfold turnoutref01_Bits.l0
    repeat' first
    | (with_reducible exact ih0 _ _ _ _)
    | (with_reducible exact LeO.refl _)
    | (with_reducible exact LeO.none _)
    | (with_reducible refine LeO.ite ?_ ?_)
    | (with_reducible refine LeO.bind ?_ (fun _ => ?_))
    | exact ih0 _ _ _ _
    | exact LeO.none _
    | refine LeO.ite ?_ ?_
    | refine LeO.bind ?_ (fun _ => ?_)
theorem turnoutref01_Bits.mono : ∀ a0 a1 k, LeO (turnoutref01_Bits.f k a0 a1) (turnoutref01_Bits.f (k + 1) a0 a1) := by
  intro a0 a1 k
  have ih0 := turnoutref01_Bits.mono_l k
  unfold turnoutref01_Bits.f
  repeat' first
    | (with_reducible exact ih0 _ _ _ _)
    | (with_reducible exact LeO.refl _)
    | (with_reducible exact LeO.none _)
    | (with_reducible refine LeO.ite ?_ ?_)
    | (with_reducible refine LeO.bind ?_ (fun _ => ?_))
    | exact ih0 _ _ _ _
    | exact LeO.none _
    | refine LeO.ite ?_ ?_
    | refine LeO.bind ?_ (fun _ => ?_)
set_option maxHeartbeats 8000000 in
set_option maxRecDepth 100000 in
theorem turnoutref01_Bits.calls (k : Nat) (a0_0 : Int) (a0_1 : Int) (r : List Int) (w : World) (h : turnoutref01_Bits.f k a0_0 a0_1 = some r) :
   Calls Try.prog 46 #[.agg #[.int .u64 a0_0, .int .u64 a0_1]] w fun e w' => ∃ v0_ : Value, e = .returned (v0_) ∧ Kd.R (Kd.int .u8) 5 w' w.heap.size (fun _ => True) v0_ r ∧ Below w.heap.size w w' := by
  have hu24 := Try.underlying24
  have HB := Aside0.mk (Below.refl w.heap.size w)
  have H : (if 128 ≤ 281474976710656 then (turnoutref01_Bits.l0 k (List.replicate 128 0) 0 a0_0 a0_1) else (none)) = some r := h
  clear h
  by_cases c2 : 128 ≤ 281474976710656
  ·
   rw [if_pos c2] at H
   have c2b0 := eq_true c2
   have c2b1 : decide (128 ≤ 281474976710656) = true := decide_eq_true c2
   clear c2
   obtain ⟨y174, hy174⟩ : ∃ y_ : List Int, y_ = (List.replicate 128 0) := ⟨_, rfl⟩
   replace H : (turnoutref01_Bits.l0 k y174 0 a0_0 a0_1) = some r := by first | (rw [hy174]; with_reducible exact H) | (have H2_ := (Option.bind_some _ _).symm.trans H; rw [hy174]; with_reducible exact H2_) | (have H2_ := (Option.bind_some _ _).symm.trans H; with_reducible exact H2_) | with_reducible exact H | (rw [hy174]; exact H) | exact H
   have Ny174 := Aside0.mk hy174
   clear hy174
   have H' := Aside0.mk H
   clear H
   go_enter Try.func46, Try.ntmps46
   go_wp2_with (first | ((with_reducible refine gate_dst (N := 1) rfl ?_); refine box_event ?hg (N := 1) ?hd (cs := #[.int .u64 a0_0, .int .u64 a0_1]) (t := 24) ?hr ?_; (case hd => rfl); (case hg => rfl); (case hr => first | (go_simp; done) | (go_simp; rfl)); intro gb173 hg w3 hbox hb; have BK173 := Aside0.mk (hbox); have GW173 := Aside0.mk ((by rw [hg]; exact (below_size (by repeat (first | (with_reducible first | exact HB.out | apply below_alloc | apply pw_below_drewN | apply below_drew1) | exact HB.out))) : w.heap.size ≤ gb173)); have GE173 := Aside0.mk ((by rw [hg]; exact (below_size (by repeat (first | (with_reducible first | exact HB.out | apply below_alloc | apply pw_below_drewN | apply below_drew1) | exact HB.out))) : w.heap.size ≤ gb173)); replace HB := Aside0.mk (below_step (by repeat (first | (with_reducible first | exact HB.out | apply below_alloc | apply pw_below_drewN | apply below_drew1) | exact HB.out)) hb); clear hb hbox hg) | ((with_reducible refine gate_dst (N := 5) rfl ?_); refine Kd.R_make (Kd.int .u8) _ 5 rfl (N := 5) rfl 48 _ _ rfl 128 rfl rfl Try.underlying48 (.int .u8 0) 1 info5 rfl (by decide) (by omega) 0 (ok := fun _ => True) (okp := fun _ => True) rfl (fun _ hk => hk) trivial (by omega) (by omega) (Below.refl _ _) (Nat.le_refl _) ?_; intro v175 w4 ho5 hb hg_ hnew_; clear hg_ hnew_; (first | rw [← Ny174.out] at ho5 | (simp only [Int.reduceToNat] at ho5; rw [← Ny174.out] at ho5)); have HO176 := Aside0.mk (Kd.R_lower ho5 (below_size (by repeat (first | (with_reducible first | exact HB.out | apply below_alloc | apply pw_below_drewN | apply below_drew1 | refine below_set ?_ GE173.out) | exact HB.out)))); replace BK173 := Aside0.mk (blk_below (bkA BK173.out) hb); replace HB := Aside0.mk (below_step (by repeat (first | (with_reducible first | exact HB.out | apply below_alloc | apply pw_below_drewN | apply below_drew1 | refine below_set ?_ GE173.out) | exact HB.out)) hb); clear hb ho5))
   go_loopg [4] k (fun kq v4 w' => ∃ (x3_1 : List Int) (x4_1 : Int), v4 = .int .i64 x4_1 ∧ Aside0 (turnoutref01_Bits.l0 kq x3_1 x4_1 a0_0 a0_1 = some r) ∧ Aside0 (kq ≤ k) ∧ Aside0 (Kd.R (Kd.int .u8) 5 w' w.heap.size (fun _ => True) v175 x3_1) ∧ Aside0 (w'.heap[gb173]? = some (.cells #[.int .u64 a0_0, .int .u64 a0_1] 24 (0, 0))) ∧ Aside0 (Below w.heap.size w w'))
   case atStart => exact ⟨(y174), (0), (by first | rfl | (simp; done) | (simp [*]; done)), H', ⟨Nat.le_refl _⟩, ⟨by (with_reducible repeat (first | apply Kd.R_alloc | apply Kd.R_drewN | apply Kd.R_drew)); exact HO176.out⟩, ⟨by (with_reducible repeat (first | refine blk_drewN ?_ _ | refine blk_drew ?_ | refine blk_alloc ?_ _)); exact BK173.out⟩, ⟨by repeat (first | (with_reducible first | exact HB.out | apply below_alloc | apply pw_below_drewN | apply below_drew1 | refine below_set ?_ GE173.out) | exact HB.out)⟩⟩
   case round =>
    clear H'
    try clear c2
    try clear c2b0
    try clear c2b1
    try clear p2
    try clear c4
    obtain ⟨x3_1, x4_1, rfl, HA, HK1, HO_3, BK173, HB⟩ := hrel
    cases gk with
    | zero => exact absurd HA.out (by simp [turnoutref01_Bits.l0])
    | succ k1 =>
     have H := HA.out
     clear HA
     simp only [turnoutref01_Bits.l0] at H
     by_cases c6 : x4_1 < 64
     ·
      rw [if_pos c6] at H
      have c6b0 : decide (x4_1 < 64) = true := decide_eq_true c6
      clear c6
      obtain ⟨ji7, hji7⟩ : ∃ j_ : Int, (IntKind.u64.wrap (x4_1)) = j_ := ⟨_, rfl⟩
      replace H : (if 0 ≤ (ji7) then (if 0 ≤ (wrap64 (63 - x4_1)) then (if (wrap64 (63 - x4_1)) < (x3_1.length : Int) then (if 0 ≤ (wrap64 (127 - x4_1)) then (if (wrap64 (127 - x4_1)) < (x3_1.length : Int) then (turnoutref01_Bits.l0 k1 ((x3_1.set ((wrap64 (63 - x4_1)) : Int).toNat ((Int.tmod (shr .u64 a0_0 (ji7)) 2) % 256)).set ((wrap64 (127 - x4_1)) : Int).toNat ((Int.tmod (shr .u64 a0_1 (ji7)) 2) % 256)) (wrap64 (x4_1 + 1)) a0_0 a0_1) else (none)) else (none)) else (none)) else (none)) else (none)) = some r := by first | (rw [hji7] at H; exact H) | (simp only [hji7] at H ⊢; exact H)
      by_cases c8 : 0 ≤ (ji7)
      ·
       rw [if_pos c8] at H
       have c8b0 := eq_true c8
       have c8b1 : decide (0 ≤ (ji7)) = true := decide_eq_true c8
       clear c8
       obtain ⟨ji9, hji9⟩ : ∃ j_ : Int, (shr .u64 a0_0 (ji7)) = j_ := ⟨_, rfl⟩
       replace H : (if 0 ≤ (wrap64 (63 - x4_1)) then (if (wrap64 (63 - x4_1)) < (x3_1.length : Int) then (if 0 ≤ (wrap64 (127 - x4_1)) then (if (wrap64 (127 - x4_1)) < (x3_1.length : Int) then (turnoutref01_Bits.l0 k1 ((x3_1.set ((wrap64 (63 - x4_1)) : Int).toNat ((Int.tmod (ji9) 2) % 256)).set ((wrap64 (127 - x4_1)) : Int).toNat ((Int.tmod (shr .u64 a0_1 (ji7)) 2) % 256)) (wrap64 (x4_1 + 1)) a0_0 a0_1) else (none)) else (none)) else (none)) else (none)) = some r := by first | (rw [hji9] at H; exact H) | (simp only [hji9] at H ⊢; exact H)
       have hji9_ : (a0_0 / 2 ^ min (ji7).toNat 64) = ji9 := hji9
       have hji9z : (ji7) ≤ 64 → (a0_0 / 2 ^ (ji7).toNat) = ji9 := shr_small hji9
       obtain ⟨ji10, hji10⟩ : ∃ j_ : Int, (wrap64 (63 - x4_1)) = j_ := ⟨_, rfl⟩
       replace H : (if 0 ≤ (ji10) then (if (ji10) < (x3_1.length : Int) then (if 0 ≤ (wrap64 (127 - x4_1)) then (if (wrap64 (127 - x4_1)) < (x3_1.length : Int) then (turnoutref01_Bits.l0 k1 ((x3_1.set ((ji10) : Int).toNat ((Int.tmod (ji9) 2) % 256)).set ((wrap64 (127 - x4_1)) : Int).toNat ((Int.tmod (shr .u64 a0_1 (ji7)) 2) % 256)) (wrap64 (x4_1 + 1)) a0_0 a0_1) else (none)) else (none)) else (none)) else (none)) = some r := by first | (rw [hji10] at H; exact H) | (simp only [hji10] at H ⊢; exact H)
       have hji10w : (IntKind.i64.wrap (63 - x4_1)) = ji10 := (i64_w _).trans hji10
       by_cases c11 : 0 ≤ (ji10)
       ·
        rw [if_pos c11] at H
        have c11b0 : decide (0 ≤ (ji10)) = true := decide_eq_true c11
        clear c11
        by_cases c12 : (ji10) < (x3_1.length : Int)
        ·
         rw [if_pos c12] at H
         have c12b0 : decide ((ji10) < (x3_1.length : Int)) = true := decide_eq_true c12
         clear c12
         obtain ⟨y177, hy177⟩ : ∃ y_ : List Int, y_ = (x3_1.set ((ji10) : Int).toNat ((Int.tmod (ji9) 2) % 256)) := ⟨_, rfl⟩
         replace H : (if 0 ≤ (wrap64 (127 - x4_1)) then (if (wrap64 (127 - x4_1)) < (x3_1.length : Int) then (turnoutref01_Bits.l0 k1 (y177.set ((wrap64 (127 - x4_1)) : Int).toNat ((Int.tmod (shr .u64 a0_1 (ji7)) 2) % 256)) (wrap64 (x4_1 + 1)) a0_0 a0_1) else (none)) else (none)) = some r := by first | (rw [hy177]; with_reducible exact H) | (have H2_ := (Option.bind_some _ _).symm.trans H; rw [hy177]; with_reducible exact H2_) | (have H2_ := (Option.bind_some _ _).symm.trans H; with_reducible exact H2_) | with_reducible exact H | (rw [hy177]; exact H) | exact H
         have Ny177 := Aside0.mk hy177
         clear hy177
         have c14b0 := eq_true (of_decide_eq_true (by first | (with_reducible assumption) | assumption) : 0 ≤ (ji7))
         obtain ⟨ji15, hji15⟩ : ∃ j_ : Int, (shr .u64 a0_1 (ji7)) = j_ := ⟨_, rfl⟩
         replace H : (if 0 ≤ (wrap64 (127 - x4_1)) then (if (wrap64 (127 - x4_1)) < (x3_1.length : Int) then (turnoutref01_Bits.l0 k1 (y177.set ((wrap64 (127 - x4_1)) : Int).toNat ((Int.tmod (ji15) 2) % 256)) (wrap64 (x4_1 + 1)) a0_0 a0_1) else (none)) else (none)) = some r := by first | (rw [hji15] at H; exact H) | (simp only [hji15] at H ⊢; exact H)
         have hji15_ : (a0_1 / 2 ^ min (ji7).toNat 64) = ji15 := hji15
         have hji15z : (ji7) ≤ 64 → (a0_1 / 2 ^ (ji7).toNat) = ji15 := shr_small hji15
         obtain ⟨ji16, hji16⟩ : ∃ j_ : Int, (wrap64 (127 - x4_1)) = j_ := ⟨_, rfl⟩
         replace H : (if 0 ≤ (ji16) then (if (ji16) < (x3_1.length : Int) then (turnoutref01_Bits.l0 k1 (y177.set ((ji16) : Int).toNat ((Int.tmod (ji15) 2) % 256)) (wrap64 (x4_1 + 1)) a0_0 a0_1) else (none)) else (none)) = some r := by first | (rw [hji16] at H; exact H) | (simp only [hji16] at H ⊢; exact H)
         have hji16w : (IntKind.i64.wrap (127 - x4_1)) = ji16 := (i64_w _).trans hji16
         by_cases c17 : 0 ≤ (ji16)
         ·
          rw [if_pos c17] at H
          have c17b0 : decide (0 ≤ (ji16)) = true := decide_eq_true c17
          clear c17
          by_cases c18 : (ji16) < (x3_1.length : Int)
          ·
           rw [if_pos c18] at H
           have c18b0 : decide ((ji16) < (x3_1.length : Int)) = true := decide_eq_true c18
           clear c18
           obtain ⟨y178, hy178⟩ : ∃ y_ : List Int, y_ = (y177.set ((ji16) : Int).toNat ((Int.tmod (ji15) 2) % 256)) := ⟨_, rfl⟩
           replace H : (turnoutref01_Bits.l0 k1 y178 (wrap64 (x4_1 + 1)) a0_0 a0_1) = some r := by first | (rw [hy178]; with_reducible exact H) | (have H2_ := (Option.bind_some _ _).symm.trans H; rw [hy178]; with_reducible exact H2_) | (have H2_ := (Option.bind_some _ _).symm.trans H; with_reducible exact H2_) | with_reducible exact H | (rw [hy178]; exact H) | exact H
           have Ny178 := Aside0.mk hy178
           clear hy178
           have H' := Aside0.mk H
           clear H
           have hcz20_0 : wr.cell? ⟨gb173, 0, none⟩ = some (.int .u64 a0_0) := (blk_cell BK173.out 0).trans rfl
           have hcz20_1 : wr.cell? ⟨gb173, 1, none⟩ = some (.int .u64 a0_1) := (blk_cell BK173.out 1).trans rfl
           have hfz20_0 := blk_frozen BK173.out 0
           have hfz20_1 := blk_frozen BK173.out 1
           have p13 : 0 ≤ ((ji10) : Int) := of_decide_eq_true (by first | (with_reducible assumption) | assumption)
           have q13 : ((ji10) : Int) < ((x3_1.length : Int) : Int) := of_decide_eq_true (by first | (with_reducible assumption) | assumption)
           obtain ⟨go13, co13, eo13, gb13, gl13, cl13, HG13⟩ := Kd.R_form HO_3.out (by omega)
           (first | cases eo13 | (injection eo13 with ea_ en_ ec_; (first | subst ea_ | (injection ea_ with ea_; subst ea_)); subst ec_; clear en_))
           have GB13 := Aside0.mk gb13
           have GG13 := Aside0.mk HG13
           clear gb13 gl13 HG13
           obtain ⟨hx13_0, hf13_0⟩ := Kd.R_celln 0 HO_3.out ((ji10) : Int) p13 q13
           replace p13 := eq_true p13
           replace q13 := eq_true q13
           have HP21 := Kd.R_putg HO_3.out ((ji10) : Int) ((Int.tmod (ji9) 2) % 256)
           go_wp2_with (first | ((with_reducible refine gate_store (t := 5) (p := 20) rfl ?_); refine store_event (t := 5) (p := 20) (v := ?vo_w22) (w1 := (wr.setCell ⟨go13, ((ji10) : Int).toNat, none⟩ (.int .u8 ((Int.tmod (ji9) 2) % 256)))) ?hg ?ho ?hn ?hr ?_; (case ho => rfl); (case hg => rfl); (case hn => rfl); (case hr => first | (go_simp; done) | (go_simp; rfl)); intro w22 hw; have hg : wr.grownBy w22 (some go13) := (by rw [hw]; exact HP21.2); have hp_ : Kd.R (Kd.int .u8) 5 w22 w.heap.size (fun _ => True) (.slice (some ⟨go13, 0, none⟩) x3_1.length co13) y177 := (by rw [hw, Ny177.out]; exact HP21.1); clear HP21; replace BK173 := Aside0.mk (blk_grown (bkA BK173.out) hg (Kd.R_ne HO_3.out BK173.out (by decide))); replace HO_3 := Aside0.mk (hp_); replace HB := Aside0.mk ((by rw [hw]; exact below_set (HB.out) GB13.out : Below w.heap.size w w22)); clear hg hw hp_; have hcz23_0 : w22.cell? ⟨gb173, 0, none⟩ = some (.int .u64 a0_0) := (blk_cell BK173.out 0).trans rfl; have hcz23_1 : w22.cell? ⟨gb173, 1, none⟩ = some (.int .u64 a0_1) := (blk_cell BK173.out 1).trans rfl; have hfz23_0 := blk_frozen BK173.out 0; have hfz23_1 := blk_frozen BK173.out 1; have p19 : 0 ≤ ((ji16) : Int) := of_decide_eq_true (by first | (with_reducible assumption) | assumption); have q19 : ((ji16) : Int) < ((x3_1.length : Int) : Int) := of_decide_eq_true (by first | (with_reducible assumption) | assumption); obtain ⟨hx19_0, hf19_0⟩ := Kd.R_celln 0 HO_3.out ((ji16) : Int) p19 q19; replace p19 := eq_true p19; replace q19 := eq_true q19; obtain ⟨hy24_, hz24_⟩ := Kd.R_celln 0 HO_3.out ((ji16) : Int) (of_decide_eq_true (by first | (with_reducible assumption) | assumption)) (of_decide_eq_true (by first | (with_reducible assumption) | assumption)); have HP24 := Kd.R_putg HO_3.out ((ji16) : Int) ((Int.tmod (ji15) 2) % 256)) | ((with_reducible refine gate_store (t := 5) (p := 31) rfl ?_); refine store_event (t := 5) (p := 31) (v := ?vo_w25) (w1 := (w22.setCell ⟨go13, ((ji16) : Int).toNat, none⟩ (.int .u8 ((Int.tmod (ji15) 2) % 256)))) ?hg ?ho ?hn ?hr ?_; (case ho => rfl); (case hg => rfl); (case hn => rfl); (case hr => first | (go_simp; done) | (go_simp; rfl)); intro w25 hw; have hg : w22.grownBy w25 (some go13) := (by rw [hw]; exact HP24.2); have hp_ : Kd.R (Kd.int .u8) 5 w25 w.heap.size (fun _ => True) (.slice (some ⟨go13, 0, none⟩) x3_1.length co13) y178 := (by rw [hw, Ny178.out]; exact HP24.1); clear HP24; replace BK173 := Aside0.mk (blk_grown (bkA BK173.out) hg (Kd.R_ne HO_3.out BK173.out (by decide))); replace HO_3 := Aside0.mk (hp_); replace HB := Aside0.mk ((by rw [hw]; exact below_set (HB.out) GB13.out : Below w.heap.size w w25)); clear hg hw hp_))
           go_roundg k1
           case measure => have := HK1.out; omega
           case rel => exact ⟨(y178), (wrap64 (x4_1 + 1)), (by first | rfl | (simp; done) | (simp [*]; done)), H', ⟨by have := HK1.out; omega⟩, ⟨by (with_reducible repeat (first | apply Kd.R_alloc | apply Kd.R_drewN | apply Kd.R_drew)); exact HO_3.out⟩, ⟨by (with_reducible repeat (first | refine blk_drewN ?_ _ | refine blk_drew ?_ | refine blk_alloc ?_ _)); exact BK173.out⟩, ⟨by repeat (first | (with_reducible first | exact HB.out | apply below_alloc | apply pw_below_drewN | apply below_drew1 | refine below_set ?_ GE173.out) | exact HB.out)⟩⟩
          ·
           rw [if_neg c18] at H
           exact absurd H (by simp)
         ·
          rw [if_neg c17] at H
          exact absurd H (by simp)
        ·
         rw [if_neg c12] at H
         exact absurd H (by simp)
       ·
        rw [if_neg c11] at H
        exact absurd H (by simp)
      ·
       rw [if_neg c8] at H
       exact absurd H (by simp)
     ·
      rw [if_neg c6] at H
      have c6b0 : decide (x4_1 < 64) = false := decide_eq_false c6
      clear c6
      obtain rfl := Option.some.inj H
      go_wp2
      go_ret
      exact ⟨_, by first | rfl | (simp [errW_none, errW_some] <;> rfl) | (simp [*, errW_none, errW_some] <;> rfl), by (with_reducible repeat (first | apply Kd.R_alloc | apply Kd.R_drewN | apply Kd.R_drew)); exact HO_3.out, by repeat (first | (with_reducible first | exact HB.out | apply below_alloc | apply pw_below_drewN | apply below_drew1 | refine below_set ?_ GE173.out) | exact HB.out)⟩
  ·
   rw [if_neg c2] at H
   exact absurd H (by simp)

/-! ### turnoutref01_Word: function 47 -/
def turnoutref01_Word.l0 : Nat → List Int → Int → Int → Int → Option (Int × Int)
  | 0, _, _, _, _ => none
  | k + 1, x0, x4, x181000, x181001 => if x4 < (x0.length : Int) then (if 0 ≤ x4 then (turnoutref01_Word.l0 k x0 (wrap64 (x4 + 1)) (IntKind.u64.wrap ((IntKind.u64.wrap (x181000 * 2)) + (IntKind.u64.wrap (Int.tdiv x181001 9223372036854775808)))) (IntKind.u64.wrap ((IntKind.u64.wrap (x181001 * 2)) + (IntKind.u64.wrap (rd x0 x4))))) else (none)) else (some (x181000, x181001))
def turnoutref01_Word.f (k : Nat) (l0 : List Int) : Option (Int × Int) := turnoutref01_Word.l0 k l0 0 0 0
theorem turnoutref01_Word.mono_l : ∀ k, (∀ y0 y1 y2 y3, LeO (turnoutref01_Word.l0 k y0 y1 y2 y3) (turnoutref01_Word.l0 (k + 1) y0 y1 y2 y3))
  | 0 => fun _ _ _ _ r h => by simp [turnoutref01_Word.l0] at h
  | k + 1 => by
   have ih0 := turnoutref01_Word.mono_l k
   ·
    intro y0 y1 y2 y3
    unfold turnoutref01_Word.l0
    repeat' first
    | (with_reducible exact ih0 _ _ _ _)
    | (with_reducible exact LeO.refl _)
    | (with_reducible exact LeO.none _)
    | (with_reducible refine LeO.ite ?_ ?_)
    | (with_reducible refine LeO.bind ?_ (fun _ => ?_))
    | exact ih0 _ _ _ _
    | exact LeO.none _
    | refine LeO.ite ?_ ?_
    | refine LeO.bind ?_ (fun _ => ?_)
theorem turnoutref01_Word.mono : ∀ a0 k, LeO (turnoutref01_Word.f k a0) (turnoutref01_Word.f (k + 1) a0) := by
  intro a0 k
  have ih0 := turnoutref01_Word.mono_l k
  unfold turnoutref01_Word.f
  repeat' first
    | (with_reducible exact ih0 _ _ _ _)
    | (with_reducible exact LeO.refl _)
    | (with_reducible exact LeO.none _)
    | (with_reducible refine LeO.ite ?_ ?_)
    | (with_reducible refine LeO.bind ?_ (fun _ => ?_))
    | exact ih0 _ _ _ _
    | exact LeO.none _
    | refine LeO.ite ?_ ?_
    | refine LeO.bind ?_ (fun _ => ?_)
def turnoutref01_Word.T6 : Bool × List (List Nat × List Nat) := (true, [([], []), ([0], [0]), ([1], [1]), ([], []), ([], []), ([3, 4], [3, 4]), ([5], [5]), ([6], [6]), ([2, 7], [2, 7]), ([0, 1, 2, 3, 4, 5, 6, 7, 8], []), ([9, 8, 0, 1, 2, 3, 4, 5, 6, 7, 8], [8, 9])])
def turnoutref01_Word.B6 : List Nat := [0, 1, 3, 0, 0, 24, 56, 120, 255, 511, 1023]
theorem turnoutref01_Word.tab6 : rtab .any (opsOf Try.f47 6) = turnoutref01_Word.T6 := by kernel_rfl
theorem turnoutref01_Word.bits6 : waitsOk turnoutref01_Word.T6.2 turnoutref01_Word.B6 = true := by kernel_rfl
set_option maxHeartbeats 8000000 in
set_option maxRecDepth 100000 in
theorem turnoutref01_Word.calls (k : Nat) (A0 : Option Addr) (c0 : Nat) (l0 : List Int) (r1 : Int) (r2 : Int) (w : World) (hr0 : Kd.C (Kd.int .u8) w A0 l0.length l0) (hc0 : l0.length ≤ c0) (h : turnoutref01_Word.f k l0 = some (r1, r2)) :
   Calls Try.prog 47 #[.slice A0 l0.length c0] w fun e w' => e = .returned (.agg #[.int .u64 r1, .int .u64 r2]) ∧ Below w.heap.size w w' := by
  have hu24 := Try.underlying24
  have HR0 := Aside0.mk hr0
  have HC0 := Aside0.mk hc0
  clear hr0 hc0
  have HB := Aside0.mk (Below.refl w.heap.size w)
  have H : (turnoutref01_Word.l0 k l0 0 0 0) = some (r1, r2) := h
  clear h
  have H' := Aside0.mk H
  clear H
  go_enter Try.func47, Try.ntmps47
  go_wp2_with (first | ((with_reducible refine gate_dst (N := 2) rfl ?_); refine box_event ?hg (N := 2) ?hd (cs := #[.int .u64 0, .int .u64 0]) (t := 24) ?hr ?_; (case hd => rfl); (case hg => rfl); (case hr => first | (go_simp; done) | (go_simp; rfl)); intro gb179 hg w2 hbox hb; have BK179 := Aside0.mk (hbox); have GW179 := Aside0.mk ((by rw [hg]; exact (below_size (by repeat (first | (with_reducible first | exact HB.out | apply below_alloc | apply pw_below_drewN | apply below_drew1) | exact HB.out))) : w.heap.size ≤ gb179)); have GE179 := Aside0.mk ((by rw [hg]; exact (below_size (by repeat (first | (with_reducible first | exact HB.out | apply below_alloc | apply pw_below_drewN | apply below_drew1) | exact HB.out))) : w.heap.size ≤ gb179)); replace HB := Aside0.mk (below_step (by repeat (first | (with_reducible first | exact HB.out | apply below_alloc | apply pw_below_drewN | apply below_drew1) | exact HB.out)) hb); clear hb hbox hg) | ((with_reducible refine gate_dst (N := 3) rfl ?_); refine box_event ?hg (N := 3) ?hd (cs := #[.int .u64 0, .int .u64 0]) (t := 24) ?hr ?_; (case hd => rfl); (case hg => rfl); (case hr => first | (go_simp; done) | (go_simp; rfl)); intro gb180 hg w3 hbox hb; have BK180 := Aside0.mk (hbox); have GW180 := Aside0.mk ((by rw [hg]; exact (below_size (by repeat (first | (with_reducible first | exact HB.out | apply below_alloc | apply pw_below_drewN | apply below_drew1 | refine below_set ?_ GE179.out) | exact HB.out))) : w.heap.size ≤ gb180)); have GE180 := Aside0.mk ((by rw [hg]; exact (below_size (by repeat (first | (with_reducible first | exact HB.out | apply below_alloc | apply pw_below_drewN | apply below_drew1 | refine below_set ?_ GE179.out) | exact HB.out))) : w.heap.size ≤ gb180)); replace HB := Aside0.mk (below_step (by repeat (first | (with_reducible first | exact HB.out | apply below_alloc | apply pw_below_drewN | apply below_drew1 | refine below_set ?_ GE179.out) | exact HB.out)) hb); have NB179_180 := Aside0.mk ((by rw [hg]; exact Nat.ne_of_lt (blk_lt (bkA BK179.out)) : gb179 ≠ gb180)); have NB180_179 := Aside0.mk ((by rw [hg]; exact Nat.ne_of_gt (blk_lt (bkA BK179.out)) : gb180 ≠ gb179)); replace BK179 := Aside0.mk (blk_below (bkA BK179.out) hb); clear hb hbox hg))
  go_loopg [4] k (fun kq v4 w' => ∃ (x4_1 : Int) (x181000_1 : Int) (x181001_1 : Int), v4 = .int .i64 x4_1 ∧ Aside0 (turnoutref01_Word.l0 kq l0 x4_1 x181000_1 x181001_1 = some (r1, r2)) ∧ Aside0 (kq ≤ k) ∧ Aside0 (w'.heap[gb179]? = some (.cells #[.int .u64 0, .int .u64 0] 24 (0, 0))) ∧ Aside0 (w'.heap[gb180]? = some (.cells #[.int .u64 x181000_1, .int .u64 x181001_1] 24 (0, 0))) ∧ Aside0 (Below w.heap.size w w'))
  case atStart => exact ⟨(0), (0), (0), (by first | rfl | (simp; done) | (simp [*]; done)), H', ⟨Nat.le_refl _⟩, ⟨by (with_reducible repeat (first | refine blk_drewN ?_ _ | refine blk_drew ?_ | refine blk_alloc ?_ _)); exact BK179.out⟩, ⟨by (with_reducible repeat (first | refine blk_drewN ?_ _ | refine blk_drew ?_ | refine blk_alloc ?_ _)); exact BK180.out⟩, ⟨by repeat (first | (with_reducible first | exact HB.out | apply below_alloc | apply pw_below_drewN | apply below_drew1 | refine below_set ?_ GE179.out | refine below_set ?_ GE180.out) | exact HB.out)⟩⟩
  case round =>
   clear H'
   try clear p2
   obtain ⟨x4_1, x181000_1, x181001_1, rfl, HA, HK1, BK179, BK180, HB⟩ := hrel
   cases gk with
   | zero => exact absurd HA.out (by simp [turnoutref01_Word.l0])
   | succ k1 =>
    have H := HA.out
    clear HA
    simp only [turnoutref01_Word.l0] at H
    by_cases c4 : x4_1 < (l0.length : Int)
    ·
     rw [if_pos c4] at H
     have c4b0 : decide (x4_1 < (l0.length : Int)) = true := decide_eq_true c4
     clear c4
     by_cases c5 : 0 ≤ x4_1
     ·
      rw [if_pos c5] at H
      have c5b0 : decide (0 ≤ x4_1) = true := decide_eq_true c5
      clear c5
      have H' := Aside0.mk H
      clear H
      have hnb6 := NB180_179.out
      have hnc6 := NB179_180.out
      have hcz7_0 : wr.cell? ⟨gb180, 0, none⟩ = some (.int .u64 x181000_1) := (blk_cell BK180.out 0).trans rfl
      have hcz7_1 : wr.cell? ⟨gb180, 1, none⟩ = some (.int .u64 x181001_1) := (blk_cell BK180.out 1).trans rfl
      have hfz7_0 := blk_frozen BK180.out 0
      have hfz7_1 := blk_frozen BK180.out 1
      try go_wp2
      have n0_ : Aside0 ((wr.setCell ⟨gb180, 0, none⟩ (.int .u64 (IntKind.u64.wrap ((IntKind.u64.wrap (x181000_1 * 2)) + (IntKind.u64.wrap (Int.tdiv x181001_1 9223372036854775808)))))).heap[gb179]? = some (.cells #[.int .u64 0, .int .u64 0] 24 (0, 0))) := ⟨by (with_reducible repeat (first | refine blk_drewN ?_ _ | refine blk_drew ?_ | refine blk_alloc ?_ _)); refine blk_far ?_ NB179_180.out _; (with_reducible repeat (first | refine blk_drewN ?_ _ | refine blk_drew ?_ | refine blk_alloc ?_ _)); exact BK179.out⟩
      have n1_ : Aside0 ((wr.setCell ⟨gb180, 0, none⟩ (.int .u64 (IntKind.u64.wrap ((IntKind.u64.wrap (x181000_1 * 2)) + (IntKind.u64.wrap (Int.tdiv x181001_1 9223372036854775808)))))).heap[gb180]? = some (.cells #[.int .u64 (IntKind.u64.wrap ((IntKind.u64.wrap (x181000_1 * 2)) + (IntKind.u64.wrap (Int.tdiv x181001_1 9223372036854775808)))), .int .u64 x181001_1] 24 (0, 0))) := ⟨by (with_reducible repeat (first | refine blk_drewN ?_ _ | refine blk_drew ?_ | refine blk_alloc ?_ _)); refine blk_put (cs := #[.int .u64 x181000_1, .int .u64 x181001_1]) ?_ 0 _ rfl; (with_reducible repeat (first | refine blk_drewN ?_ _ | refine blk_drew ?_ | refine blk_alloc ?_ _)); exact BK180.out⟩
      have n2_ : Aside0 (Below w.heap.size w (wr.setCell ⟨gb180, 0, none⟩ (.int .u64 (IntKind.u64.wrap ((IntKind.u64.wrap (x181000_1 * 2)) + (IntKind.u64.wrap (Int.tdiv x181001_1 9223372036854775808))))))) := ⟨by repeat (first | (with_reducible first | exact HB.out | apply below_alloc | apply pw_below_drewN | apply below_drew1 | refine below_set ?_ GE179.out | refine below_set ?_ GE180.out) | exact HB.out)⟩
      (try clear BK179); (try clear BK180); (try clear HB); generalize (wr.setCell ⟨gb180, 0, none⟩ (.int .u64 (IntKind.u64.wrap ((IntKind.u64.wrap (x181000_1 * 2)) + (IntKind.u64.wrap (Int.tdiv x181001_1 9223372036854775808)))))) = w8 at n0_ n1_ n2_ ⊢; have BK179 := n0_; have BK180 := n1_; have HB := n2_; clear n0_ n1_ n2_; replace BK179 := Aside0.mk (blk_drew BK179.out); replace BK180 := Aside0.mk (blk_drew BK180.out); replace HB := Aside0.mk (below_drew1 HB.out)
      have p181 : 0 ≤ (x4_1 : Int) := of_decide_eq_true (by first | (with_reducible assumption) | assumption)
      have q181 : x4_1 < (l0.length : Int) := of_decide_eq_true (by first | (with_reducible assumption) | assumption)
      obtain ⟨ad181, e181, hx181_0⟩ := Kd.at_int HR0.out x4_1 p181 q181
      have hw181_0 := hx181_0
      cases e181
      replace hx181_0 := (HB.out.cell (World.block_lt_of_cell? w _ hx181_0)).trans hx181_0
      replace p181 := eq_true p181
      replace q181 := eq_true q181
      refine start_ (n := 11) (S := fun w' => w'.cell? ⟨gb180, 0, none⟩ = some (.int .u64 (IntKind.u64.wrap ((IntKind.u64.wrap (x181000_1 * 2)) + (IntKind.u64.wrap (Int.tdiv x181001_1 9223372036854775808))))) ∧ w'.cell? ⟨gb180, 1, none⟩ = some (.int .u64 x181001_1) ∧ w'.cell? (ad181.add (x4_1).toNat) = some (.int .u8 (rd l0 x4_1))) (ds := [10]) #[F,F,F,F,F,F,F,F,F,F,F] (by kernel_rfl) rfl rfl ⟨(blk_cell BK180.out 0).trans rfl, (blk_cell BK180.out 1).trans rfl, ((HB.out.cell (World.block_lt_of_cell? w _ hw181_0)).trans hw181_0)⟩ (fun hHeld => ?_); refine with_tabW turnoutref01_Word.tab6 turnoutref01_Word.bits6 (fun HT_ HW_ => ?_)
      generalize w8.drew = w9 at BK179 BK180 HB hx181_0 hHeld ⊢
      refine pure_ (i := 0) (N := some 19) (v := ?_) (a' := ?_) #[T,F,F,F,F,F,F,F,F,F,F] rfl rfl (any_of HT_.out (by kernel_rfl)) (fun _ _ _ h => h) (Or.inl ⟨by rfl, ?_⟩) ?_ ?_
      rotate_left
      ·
       intro w'
       go_simp
       with_reducible rfl
      rotate_left
      ·
       simp only [Act.put, List.setIfInBounds_toArray, List.set_cons_zero, List.set_cons_succ, i64_w, i32_w]
       rfl
      refine pure_ (i := 3) (N := some 22) (v := ?_) (a' := ?_) #[T,F,F,T,F,F,F,F,F,F,F] rfl rfl (any_of HT_.out (by kernel_rfl)) (fun _ _ _ h => h) (Or.inl ⟨by rfl, ?_⟩) ?_ ?_
      rotate_left
      ·
       intro w'
       go_simp
       with_reducible rfl
      rotate_left
      ·
       simp only [Act.put, List.setIfInBounds_toArray, List.set_cons_zero, List.set_cons_succ, i64_w, i32_w]
       rfl
      refine pure_ (i := 4) (N := some 23) (v := ?_) (a' := ?_) #[T,F,F,T,T,F,F,F,F,F,F] rfl rfl (any_of HT_.out (by kernel_rfl)) (fun _ _ _ h => h) (Or.inl ⟨by rfl, ?_⟩) ?_ ?_
      rotate_left
      ·
       intro w'
       go_simp
       with_reducible rfl
      rotate_left
      ·
       simp only [Act.put, List.setIfInBounds_toArray, List.set_cons_zero, List.set_cons_succ, i64_w, i32_w]
       rfl
      refine pure_ (i := 5) (N := some 24) (v := ?_) (a' := ?_) #[T,F,F,T,T,T,F,F,F,F,F] rfl rfl (any_of HT_.out (by kernel_rfl)) (fun _ _ _ h => h) (Or.inl ⟨by rfl, ?_⟩) ?_ ?_
      rotate_left
      ·
       intro w'
       go_simp
       with_reducible rfl
      rotate_left
      ·
       simp only [Act.put, List.setIfInBounds_toArray, List.set_cons_zero, List.set_cons_succ, i64_w, i32_w]
       rfl
      refine take_ (i := 1) (N := some 20) (v := ?_) (a' := ?_) #[T,T,F,T,T,T,F,F,F,F,F] rfl rfl (take_ofW HT_.out HW_.out (by kernel_rfl)) (fun _ _ _ h => h) (Or.inl ⟨by rfl, ?_⟩) hHeld ?_ ?_
      rotate_left
      ·
       rintro w' ⟨s0, s1, s2⟩
       go_simp
       with_reducible rfl
      rotate_left
      ·
       simp only [Act.put, List.setIfInBounds_toArray, List.set_cons_zero, List.set_cons_succ, i64_w, i32_w]
       rfl
      refine pure_ (i := 2) (N := some 21) (v := ?_) (a' := ?_) #[T,T,T,T,T,T,F,F,F,F,F] rfl rfl (any_of HT_.out (by kernel_rfl)) (fun _ _ _ h => h) (Or.inl ⟨by rfl, ?_⟩) ?_ ?_
      rotate_left
      ·
       intro w'
       go_simp
       with_reducible rfl
      rotate_left
      ·
       simp only [Act.put, List.setIfInBounds_toArray, List.set_cons_zero, List.set_cons_succ, i64_w, i32_w]
       rfl
      refine take_ (i := 6) (N := some 25) (v := ?_) (a' := ?_) #[T,T,T,T,T,T,T,F,F,F,F] rfl rfl (take_ofW HT_.out HW_.out (by kernel_rfl)) (fun _ _ _ h => h) (Or.inl ⟨by rfl, ?_⟩) hHeld ?_ ?_
      rotate_left
      ·
       rintro w' ⟨s0, s1, s2⟩
       go_simp
       with_reducible rfl
      rotate_left
      ·
       simp only [Act.put, List.setIfInBounds_toArray, List.set_cons_zero, List.set_cons_succ, i64_w, i32_w]
       rfl
      refine pure_ (i := 7) (N := some 26) (v := ?_) (a' := ?_) #[T,T,T,T,T,T,T,T,F,F,F] rfl rfl (any_of HT_.out (by kernel_rfl)) (fun _ _ _ h => h) (Or.inl ⟨by rfl, ?_⟩) ?_ ?_
      rotate_left
      ·
       intro w'
       go_simp
       with_reducible rfl
      rotate_left
      ·
       simp only [Act.put, List.setIfInBounds_toArray, List.set_cons_zero, List.set_cons_succ, i64_w, i32_w]
       rfl
      refine pure_ (i := 8) (N := some 27) (v := ?_) (a' := ?_) #[T,T,T,T,T,T,T,T,T,F,F] rfl rfl (any_of HT_.out (by kernel_rfl)) (fun _ _ _ h => h) (Or.inl ⟨by rfl, ?_⟩) ?_ ?_
      rotate_left
      ·
       intro w'
       go_simp
       with_reducible rfl
      rotate_left
      ·
       simp only [Act.put, List.setIfInBounds_toArray, List.set_cons_zero, List.set_cons_succ, i64_w, i32_w]
       rfl
      refine pure_ (i := 9) (N := some 28) (v := ?_) (a' := ?_) #[T,T,T,T,T,T,T,T,T,T,F] rfl rfl (any_of HT_.out (by kernel_rfl)) (fun _ _ _ h => h) (Or.inl ⟨by rfl, ?_⟩) ?_ ?_
      rotate_left
      ·
       intro w'
       go_simp
       with_reducible rfl
      rotate_left
      ·
       simp only [Act.put, List.setIfInBounds_toArray, List.set_cons_zero, List.set_cons_succ, i64_w, i32_w]
       rfl
      refine last_ (i := 10) (N := none) #[T,T,T,T,T,T,T,T,T,T,T] rfl rfl (one_of HT_.out (by kernel_rfl)) (by decide) (fun K hK => ?_)
      have hs10 : w9.cell? ⟨gb180, 1, none⟩ = some (.int .u64 x181001_1) := (blk_cell BK180.out 1).trans rfl
      have hfs10 := blk_frozen BK180.out 1
      have hns10_0 := NB179_180.out
      have hms10_0 := NB180_179.out
      refine skip_ (w1 := ?_) (by rfl) rfl ?_ ?_
      rotate_left
      ·
       go_simp
       rfl
      refine hK.out _ _ ?_
      clear hK K
      refine done_ (done_of HT_.out (by kernel_rfl)) ?_
      try go_wp2
      go_roundg k1
      case measure => have := HK1.out; omega
      case rel => exact ⟨(wrap64 (x4_1 + 1)), (IntKind.u64.wrap ((IntKind.u64.wrap (x181000_1 * 2)) + (IntKind.u64.wrap (Int.tdiv x181001_1 9223372036854775808)))), (IntKind.u64.wrap ((IntKind.u64.wrap (x181001_1 * 2)) + (IntKind.u64.wrap (rd l0 x4_1)))), (by first | rfl | (simp; done) | (simp [*]; done)), H', ⟨by have := HK1.out; omega⟩, ⟨by (with_reducible repeat (first | refine blk_drewN ?_ _ | refine blk_drew ?_ | refine blk_alloc ?_ _)); refine blk_far ?_ NB179_180.out _; (with_reducible repeat (first | refine blk_drewN ?_ _ | refine blk_drew ?_ | refine blk_alloc ?_ _)); exact BK179.out⟩, ⟨by (with_reducible repeat (first | refine blk_drewN ?_ _ | refine blk_drew ?_ | refine blk_alloc ?_ _)); refine blk_put (cs := #[.int .u64 (IntKind.u64.wrap ((IntKind.u64.wrap (x181000_1 * 2)) + (IntKind.u64.wrap (Int.tdiv x181001_1 9223372036854775808)))), .int .u64 x181001_1]) ?_ 1 _ rfl; (with_reducible repeat (first | refine blk_drewN ?_ _ | refine blk_drew ?_ | refine blk_alloc ?_ _)); exact BK180.out⟩, ⟨by repeat (first | (with_reducible first | exact HB.out | apply below_alloc | apply pw_below_drewN | apply below_drew1 | refine below_set ?_ GE179.out | refine below_set ?_ GE180.out) | exact HB.out)⟩⟩
     ·
      rw [if_neg c5] at H
      exact absurd H (by simp)
    ·
     rw [if_neg c4] at H
     have c4b0 : decide (x4_1 < (l0.length : Int)) = false := decide_eq_false c4
     clear c4
     simp only [Option.some.injEq, Prod.mk.injEq] at H
     obtain ⟨rfl, rfl⟩ := H
     have hnb11 := NB180_179.out
     have hnc11 := NB179_180.out
     have hcz12_0 : wr.cell? ⟨gb180, 0, none⟩ = some (.int .u64 x181000_1) := (blk_cell BK180.out 0).trans rfl
     have hcz12_1 : wr.cell? ⟨gb180, 1, none⟩ = some (.int .u64 x181001_1) := (blk_cell BK180.out 1).trans rfl
     have hfz12_0 := blk_frozen BK180.out 0
     have hfz12_1 := blk_frozen BK180.out 1
     have hcz13_0 : wr.cell? ⟨gb179, 0, none⟩ = some (.int .u64 0) := (blk_cell BK179.out 0).trans rfl
     have hcz13_1 : wr.cell? ⟨gb179, 1, none⟩ = some (.int .u64 0) := (blk_cell BK179.out 1).trans rfl
     have hfz13_0 := blk_frozen BK179.out 0
     have hfz13_1 := blk_frozen BK179.out 1
     go_wp2
     refine bodyPost_ret (results_cell_row rfl _ _ gb179 24 #[.int .u64 x181000_1, .int .u64 x181001_1] (0, 0) _ rfl (by (with_reducible repeat (first | refine blk_drewN ?_ _ | refine blk_drew ?_ | refine blk_alloc ?_ _)); refine blk_put (cs := #[.int .u64 x181000_1, .int .u64 0]) ?_ 1 _ rfl; (with_reducible repeat (first | refine blk_drewN ?_ _ | refine blk_drew ?_ | refine blk_alloc ?_ _)); refine blk_put (cs := #[.int .u64 0, .int .u64 0]) ?_ 0 _ rfl; (with_reducible repeat (first | refine blk_drewN ?_ _ | refine blk_drew ?_ | refine blk_alloc ?_ _)); exact BK179.out) Try.underlying24 rfl (by kernel_rfl)) rfl ?_
     exact ⟨by first | rfl | (simp [errW_none, errW_some] <;> rfl) | (simp [*, errW_none, errW_some] <;> rfl), by repeat (first | (with_reducible first | exact HB.out | apply below_alloc | apply pw_below_drewN | apply below_drew1 | refine below_set ?_ GE179.out | refine below_set ?_ GE180.out) | exact HB.out)⟩

-- NOT PRINTED: function 49 (turnoutref01_each)

/-! ### turnoutref01_And: function 24 -/
/-- The cells of block g from 0 on hold the numbers l, and may be written. -/
structure ERow (w : World) (g : Nat) (l : List Int) : Prop where
  lt : g < w.heap.size
  cell : ∀ j, j < l.length → w.cell? ⟨g, j, none⟩ = some (.int .u8 (l.getD j 0))
  free : ∀ j, j < l.length → w.frozen? ⟨g, j, none⟩ = false
theorem ERow.below {w w1 : World} {g : Nat} {l : List Int} (h : ERow w g l) (hb : Below w.heap.size w w1) : ERow w1 g l :=
  ⟨Nat.lt_of_lt_of_le h.lt hb.size, fun j hj => (hb.cell (p := ⟨g, j, none⟩) h.lt).trans (h.cell j hj), fun j hj => (hb.frozen (p := ⟨g, j, none⟩) h.lt).trans (h.free j hj)⟩
theorem ERow.alloc {w : World} {g : Nat} {l : List Int} (h : ERow w g l) (o : Obj) : ERow (w.alloc o) g l := h.below ((Below.refl _ _).alloc (Nat.le_refl _) o)
theorem ERow.drewN {w : World} {g : Nat} {l : List Int} (h : ERow w g l) (n : Nat) : ERow (w.drewN n) g l := ⟨h.lt, h.cell, h.free⟩
theorem ERow.drew {w : World} {g : Nat} {l : List Int} (h : ERow w g l) : ERow w.drew g l := ⟨h.lt, h.cell, h.free⟩
theorem ERow.far {w : World} {g : Nat} {l : List Int} (h : ERow w g l) (p : Addr) (hp : g ≠ p.block) (u : Value) : ERow (w.setCell p u) g l := by
  have hsz : (w.setCell p u).heap.size = w.heap.size := by simp [World.setCell]
  refine ⟨by rw [hsz]; exact h.lt, fun j hj => ?_, fun j hj => ?_⟩
  · rw [World.cell?_setCell_other (h := (by intro e; subst e; exact hp rfl : p ≠ ⟨g, j, none⟩))]; exact h.cell j hj
  · rw [World.frozen?_setCell]; exact h.free j hj
theorem eset_getD (l : List Int) (i j : Nat) (x : Int) (h : i < l.length) : (l.set i x).getD j 0 = if j = i then x else l.getD j 0 := by
  rw [List.getD_eq_getElem?_getD, List.getD_eq_getElem?_getD, List.getElem?_set]
  by_cases e : i = j
  · subst e; simp [h]
  · rw [if_neg e, if_neg (fun h => e h.symm)]
theorem ERow.set {w : World} {g : Nat} {l : List Int} (h : ERow w g l) {j : Nat} (hj : j < l.length) (v : Int) : ERow (w.setCell ⟨g, j, none⟩ (.int .u8 v)) g (l.set j v) := by
  have hsz : (w.setCell ⟨g, j, none⟩ (.int .u8 v)).heap.size = w.heap.size := by simp [World.setCell]
  refine ⟨by rw [hsz]; exact h.lt, fun i hi => ?_, fun i hi => ?_⟩
  · rw [List.length_set] at hi
    rw [eset_getD _ _ _ _ hj]
    by_cases e : i = j
    · subst e; rw [if_pos rfl]; exact World.cell?_setCell_same _ _ _ (h.cell i hi)
    · rw [if_neg e, World.cell?_setCell_other (h := (by intro h; injection h with _ h2 _; exact e h2.symm : (⟨g, j, none⟩ : Addr) ≠ ⟨g, i, none⟩))]; exact h.cell i hi
  · rw [List.length_set] at hi
    rw [World.frozen?_setCell]; exact h.free i hi
theorem ERow.C {w : World} {g : Nat} {l : List Int} (h : ERow w g l) (hl : l.length ≤ 9223372036854775807) : (Kd.int .u8).C w (some ⟨g, 0, none⟩) l.length l :=
  Kd.C_of_reads (d := (0 : Int)) (h1 := fun _ => rfl) ⟨rfl, hl, fun _ => ⟨_, rfl, fun j hj => by rw [add_plain]; exact h.cell j hj⟩⟩
theorem ERow.of_R {w : World} {e base : Nat} {ok : Nat → Prop} {v : Value} {l : List Int} (h : Kd.R (Kd.int .u8) e w base ok v l) (hp : 0 < l.length) :
    ∃ g cap, v = .slice (some ⟨g, 0, none⟩) l.length cap ∧ base ≤ g ∧ ERow w g l ∧ l.length ≤ cap := by
  obtain ⟨g, cap, he, hb, hlt, cells, hc⟩ := Kd.R_form h hp
  subst he
  refine ⟨g, cap, rfl, hb, ⟨hlt, fun j hj => ?_, fun j hj => ?_⟩, (Kd.R_reads' h).2.1⟩
  · have := (Kd.R_celln 0 h (j : Int) (by omega) (by omega)).1
    rw [Int.toNat_natCast] at this
    rw [this]
    unfold rdOf
    rw [Int.toNat_natCast]
  · have := (Kd.R_celln 0 h (j : Int) (by omega) (by omega)).2
    rwa [Int.toNat_natCast] at this
/-- What stands in the table for two bits. -/
def tabOf (t : List Int) (x y : Int) : Int := t.getD (2 * x + y).toNat 0
def eachRow (t x y : List Int) : List Int := (List.range 128).map fun i => tabOf t (x.getD i 0) (y.getD i 0)
/-- The row behind i rounds. -/
def eachTo (t x y : List Int) (i : Nat) : List Int := ((List.range i).map fun i => tabOf t (x.getD i 0) (y.getD i 0)) ++ List.replicate (128 - i) 0
theorem eachTo_len (t x y : List Int) (i : Nat) (h : i ≤ 128) : (eachTo t x y i).length = 128 := by
  unfold eachTo; rw [List.length_append, List.length_map, List.length_range, List.length_replicate]; omega
theorem eachTo_set (t x y : List Int) (i : Nat) (h : i < 128) : (eachTo t x y i).set i (tabOf t (x.getD i 0) (y.getD i 0)) = eachTo t x y (i + 1) := by
  unfold eachTo
  rw [List.set_append_right _ _ (by simp), List.length_map, List.length_range, Nat.sub_self, show 128 - i = (128 - (i + 1)) + 1 by omega, List.replicate_succ, List.set_cons_zero, List.range_succ, List.map_append, List.append_assoc]
  rfl
theorem eachTo_all (t x y : List Int) : eachTo t x y 128 = eachRow t x y := by
  unfold eachTo eachRow; simp
structure EAt (w wr : World) (gx gy go : Nat) (x y t : List Int) (i : Nat) : Prop where
  rx : ERow wr gx x
  ry : ERow wr gy y
  ro : ERow wr go (eachTo t x y i)
  tb : wr.heap[w.heap.size + 1 + 1]? = some (.cells (nums .u8 t).toArray 52 (0, 0))
  re : wr.heap[w.heap.size + 1 + 1 + 1]? = some (.cells #[.int .u64 0, .int .u64 0] 24 (0, 0))
  bel : Below w.heap.size w wr
  n1 : gx ≠ go
  n2 : gy ≠ go
  n3 : w.heap.size + 1 + 1 ≠ go
  n4 : w.heap.size + 1 + 1 + 1 ≠ go
  ge : w.heap.size ≤ go
theorem each_ix0 (b : Nat) (W : World) : (Instr.indexAt 52 (.pointer (some ⟨b, 0, none⟩)) (.int .u8 0)).run Try.prog W = .ok (.pointer (some ⟨b, 0, none⟩)) W := by kernel_rfl
theorem each_ix1 (b : Nat) (W : World) : (Instr.indexAt 52 (.pointer (some ⟨b, 0, none⟩)) (.int .u8 1)).run Try.prog W = .ok (.pointer (some ⟨b, 1, none⟩)) W := by kernel_rfl
theorem each_ix2 (b : Nat) (W : World) : (Instr.indexAt 52 (.pointer (some ⟨b, 0, none⟩)) (.int .u8 2)).run Try.prog W = .ok (.pointer (some ⟨b, 2, none⟩)) W := by kernel_rfl
theorem each_ix3 (b : Nat) (W : World) : (Instr.indexAt 52 (.pointer (some ⟨b, 0, none⟩)) (.int .u8 3)).run Try.prog W = .ok (.pointer (some ⟨b, 3, none⟩)) W := by kernel_rfl
theorem EAt.next {w wr : World} {gx gy go : Nat} {x y t : List Int} {i : Nat} (h : EAt w wr gx gy go x y t i) (hi : i < 128) (hl : y.length = 128 ∧ x.length = 128) (v : Int) (e : (eachTo t x y i).set i v = eachTo t x y (i + 1)) :
    EAt w ((wr.setCell ⟨go, i, none⟩ (.int .u8 v)).drew) gx gy go x y t (i + 1) := by
  have ho := h.ro.set (j := i) (by rw [eachTo_len _ _ _ _ (by omega)]; exact hi) v
  rw [e] at ho
  exact ⟨(h.rx.far _ h.n1 _).drew, (h.ry.far _ h.n2 _).drew, ho.drew, blk_drew (blk_far h.tb h.n3 _), blk_drew (blk_far h.re h.n4 _), below_drew1 (below_set h.bel h.ge), h.n1, h.n2, h.n3, h.n4, h.ge⟩
set_option maxHeartbeats 8000000 in
set_option maxRecDepth 100000 in
theorem each_calls (k : Nat) (a0 a1 b0 b1 t0 t1 t2 t3 : Int) (x y : List Int) (r1 r2 : Int) (w : World)
    (HX : Aside0 (turnoutref01_Bits.f k a0 a1 = some x)) (HY : Aside0 (turnoutref01_Bits.f k b0 b1 = some y)) (hxl : x.length = 128) (hyl : y.length = 128)
    (hbx : ∀ i, i < 128 → x.getD i 0 = 0 ∨ x.getD i 0 = 1) (hby : ∀ i, i < 128 → y.getD i 0 = 0 ∨ y.getD i 0 = 1)
    (HW : Aside0 (turnoutref01_Word.f k (eachRow [t0, t1, t2, t3] x y) = some (r1, r2))) :
    Calls Try.prog 49 #[.agg #[.int .u64 a0, .int .u64 a1], .agg #[.int .u64 b0, .int .u64 b1], .agg #[.int .u8 t0, .int .u8 t1, .int .u8 t2, .int .u8 t3]] w fun e w' => e = .returned (.agg #[.int .u64 r1, .int .u64 r2]) ∧ Below w.heap.size w w' := by
  have huw_ := Try.underlying24
  have HXL := Aside0.mk hxl
  have HYL := Aside0.mk hyl
  have HBX := Aside0.mk hbx
  have HBY := Aside0.mk hby
  clear hxl hyl hbx hby
  go_enter Try.func49, Try.ntmps49
  go_wp2_with fail
  go_region_held3 (fun w' => w'.cell? ⟨w.heap.size, 0, none⟩ = some (.int .u64 a0) ∧ w'.cell? ⟨w.heap.size, 1, none⟩ = some (.int .u64 a1) ∧ w'.cell? ⟨w.heap.size + 1, 0, none⟩ = some (.int .u64 b0) ∧ w'.cell? ⟨w.heap.size + 1, 1, none⟩ = some (.int .u64 b1))
    (first | go_keep | (go_split_ands; (repeat' apply And.intro) <;> (refine (Below.cell (by assumption) (World.block_lt_of_cell? _ _ (by assumption))).trans (by assumption))))
    (first | (go_at_call 46; (with_reducible refine (turnoutref01_Bits.calls k a0 a1 x _ HX.out).mono ?_); rintro e uX ⟨vx, rfl, hox, hbX⟩) | (go_at_call 46; (with_reducible refine (turnoutref01_Bits.calls k b0 b1 y _ HY.out).mono ?_); rintro e uY ⟨vy, rfl, hoy, hbY⟩))
  have hT : uY.heap[w.heap.size + 1 + 1]? = some (.cells #[.int .u8 t0, .int .u8 t1, .int .u8 t2, .int .u8 t3] 52 (0, 0)) := by
    have h_ := blk_below (blk_below (blk_drew (blk_alloc (blk_new _ _) _)) hbX) hbY
    simpa using h_
  have hR : uY.heap[w.heap.size + 1 + 1 + 1]? = some (.cells #[.int .u64 0, .int .u64 0] 24 (0, 0)) := by
    have h_ := blk_below (blk_below (blk_drew (blk_new _ _)) hbX) hbY
    simpa using h_
  have HBel : Aside0 (Below w.heap.size w uY) := ⟨below_step (below_step (below_drew1 (below_alloc (below_alloc (below_alloc (below_alloc (Below.refl _ _) _) _) _) _)) hbX) hbY⟩
  obtain ⟨gx, cx, hvx, hgx, rX, _⟩ := ERow.of_R hox (by rw [HXL.out]; decide)
  obtain ⟨gy, cy, hvy, hgy, rY, _⟩ := ERow.of_R hoy (by rw [HYL.out]; decide)
  have rX2 := rX.below hbY
  subst hvx
  subst hvy
  have HT := Aside0.mk hT
  have HR := Aside0.mk hR
  have HRX := Aside0.mk rX2
  have HRY := Aside0.mk rY
  clear hT hR rX rX2 rY hbX hbY hox hoy hgx hgy
  go_wp2_with (first | ((with_reducible refine gate_dst (N := 15) rfl ?_); refine Kd.R_make (Kd.int .u8) _ 5 rfl (N := 15) rfl 48 _ _ rfl 128 rfl rfl Try.underlying48 (.int .u8 0) 1 info5 rfl (by decide) (by omega) 0 (ok := fun _ => True) (okp := fun _ => True) rfl (fun _ hk => hk) trivial (by omega) (by omega) (Below.refl _ _) (Nat.le_refl _) ?_; intro vo uZ hoo hbZ hg_ hnew_; clear hg_ hnew_))
  obtain ⟨go, co, hvo, hgo, rO, hco⟩ := ERow.of_R hoo (by decide)
  subst hvo
  have hzero : List.replicate (Int.toNat 128) (0 : Int) = eachTo [t0, t1, t2, t3] x y 0 := by unfold eachTo; rfl
  rw [hzero] at rO
  have hA0 : EAt w uZ gx gy go x y [t0, t1, t2, t3] 0 := by
    have l1 := HRX.out.lt
    have l2 := HRY.out.lt
    have l3 := blk_lt HT.out
    have l4 := blk_lt HR.out
    have l5 := HBel.out.size
    exact ⟨HRX.out.below hbZ, HRY.out.below hbZ, rO, blk_below HT.out hbZ, blk_below HR.out hbZ, below_step HBel.out hbZ, by omega, by omega, by omega, by omega, by omega⟩
  have HA0 := Aside0.mk hA0
  have HCO := Aside0.mk hco
  clear hco
  clear hA0 rO hoo hbZ hzero
  go_loopg [10] 128 (fun d v10 wr => ∃ (i : Nat), v10 = .int .i64 i ∧ Aside0 (i + d = 128) ∧ EAt w wr gx gy go x y [t0, t1, t2, t3] i)
  case atStart => exact ⟨0, rfl, ⟨rfl⟩, HA0.out⟩
  case round =>
    obtain ⟨i, rfl, HD, hA⟩ := hrel
    have HA := Aside0.mk hA
    clear hA
    by_cases hi : i < 128
    · have hlt : decide ((i : Int) < 128) = true := decide_eq_true (by omega)
      have hi0 : (0 : Int) ≤ (i : Int) := Int.natCast_nonneg _
      have hi1 : (i : Int) < 128 := by omega
      have hi2 : (i : Int) < (x.length : Int) := by rw [HXL.out]; omega
      have hi3 : (i : Int) < (y.length : Int) := by rw [HYL.out]; omega
      have q1 := HA.out.rx.cell i (by rw [HXL.out]; exact hi)
      have q2 := HA.out.ry.cell i (by rw [HYL.out]; exact hi)
      have q3 := HA.out.ro.cell i (by rw [eachTo_len _ _ _ _ (by omega)]; exact hi)
      have q4 := HA.out.ro.free i (by rw [eachTo_len _ _ _ _ (by omega)]; exact hi)
      have hs := eachTo_set [t0, t1, t2, t3] x y i hi
      have HS := Aside0.mk hs
      clear hs
      have hn1 : go ≠ gx := fun h => HA.out.n1 h.symm
      have hn2 : go ≠ gy := fun h => HA.out.n2 h.symm
      have hn3 : go ≠ w.heap.size + 1 + 1 := fun h => HA.out.n3 h.symm
      have hx := HBX.out i hi
      have hy := HBY.out i hi
      have HX0 := Aside0.mk hx
      generalize hex : x.getD i 0 = xi at *
      generalize hey : y.getD i 0 = yi at *
      clear hex hey HX0
      rcases hx with rfl | rfl <;> rcases hy with rfl | rfl
      · have q5 : wr.cell? ⟨w.heap.size + 1 + 1, 0, none⟩ = some (.int .u8 t0) := (blk_cell HA.out.tb 0).trans rfl
        have hix := each_ix0
        go_wp2_with fail
        go_region
        go_wp2_with fail
        go_roundg (127 - i)
        case measure => have := HD.out; omega
        case rel =>
          refine ⟨i + 1, by go_num, ⟨by have := HD.out; omega⟩, EAt.next HA.out hi (by rw [HYL.out, HXL.out]; exact ⟨rfl, rfl⟩) t0 ?_⟩
          rw [← HS.out]; rfl
      · have q5 : wr.cell? ⟨w.heap.size + 1 + 1, 1, none⟩ = some (.int .u8 t1) := (blk_cell HA.out.tb 1).trans rfl
        have hix := each_ix1
        go_wp2_with fail
        go_region
        go_wp2_with fail
        go_roundg (127 - i)
        case measure => have := HD.out; omega
        case rel =>
          refine ⟨i + 1, by go_num, ⟨by have := HD.out; omega⟩, EAt.next HA.out hi (by rw [HYL.out, HXL.out]; exact ⟨rfl, rfl⟩) t1 ?_⟩
          rw [← HS.out]; rfl
      · have q5 : wr.cell? ⟨w.heap.size + 1 + 1, 2, none⟩ = some (.int .u8 t2) := (blk_cell HA.out.tb 2).trans rfl
        have hix := each_ix2
        go_wp2_with fail
        go_region
        go_wp2_with fail
        go_roundg (127 - i)
        case measure => have := HD.out; omega
        case rel =>
          refine ⟨i + 1, by go_num, ⟨by have := HD.out; omega⟩, EAt.next HA.out hi (by rw [HYL.out, HXL.out]; exact ⟨rfl, rfl⟩) t2 ?_⟩
          rw [← HS.out]; rfl
      · have q5 : wr.cell? ⟨w.heap.size + 1 + 1, 3, none⟩ = some (.int .u8 t3) := (blk_cell HA.out.tb 3).trans rfl
        have hix := each_ix3
        go_wp2_with fail
        go_region
        go_wp2_with fail
        go_roundg (127 - i)
        case measure => have := HD.out; omega
        case rel =>
          refine ⟨i + 1, by go_num, ⟨by have := HD.out; omega⟩, EAt.next HA.out hi (by rw [HYL.out, HXL.out]; exact ⟨rfl, rfl⟩) t3 ?_⟩
          rw [← HS.out]; rfl
    · have hlt : decide ((i : Int) < 128) = false := decide_eq_false (by omega)
      obtain rfl : i = 128 := by have := HD.out; omega
      have hro := HA.out.ro
      rw [eachTo_all] at hro
      have hcv := hro.C (by unfold eachRow; simp)
      have hlen : (eachRow [t0, t1, t2, t3] x y).length = 128 := by unfold eachRow; simp
      have HCV := Aside0.mk hcv
      have HLEN := Aside0.mk hlen
      have HRE := Aside0.mk HA.out.re
      clear hro hcv hlen hlt
      have hwc := turnoutref01_Word.calls k (some ⟨go, 0, none⟩) co (eachRow [t0, t1, t2, t3] x y) r1 r2 wr HCV.out (by rw [HLEN.out]; have := HCO.out; simpa using this) HW.out
      rw [HLEN.out] at hwc
      have HWC := Aside0.mk hwc
      clear hwc
      go_wp2_with fail
      go_at_call 47
      (with_reducible refine (HWC.out).mono ?_)
      rintro e uW ⟨rfl, hbW⟩
      have HRW := Aside0.mk (blk_below HRE.out hbW)
      have HBW := Aside0.mk (below_step HA.out.bel hbW)
      clear hbW
      have hz0 : uW.cell? ⟨w.heap.size + 1 + 1 + 1, 0, none⟩ = some (.int .u64 0) := (blk_cell HRW.out 0).trans rfl
      have hz1 : uW.cell? ⟨w.heap.size + 1 + 1 + 1, 1, none⟩ = some (.int .u64 0) := (blk_cell HRW.out 1).trans rfl
      have hf0 := blk_frozen HRW.out 0
      have hf1 := blk_frozen HRW.out 1
      go_wp2_with fail
      refine bodyPost_ret (results_cell_row rfl _ _ (w.heap.size + 1 + 1 + 1) 24 #[.int .u64 r1, .int .u64 r2] (0, 0) _ rfl (blk_put (cs := #[.int .u64 r1, .int .u64 0]) (blk_put (cs := #[.int .u64 0, .int .u64 0]) HRW.out 0 _ rfl) 1 _ rfl) Try.underlying24 rfl (by kernel_rfl)) rfl ?_
      exact ⟨rfl, below_set (below_set HBW.out (by omega)) (by omega)⟩
/-- What each answers, by a table. -/
def turnoutref01_And.eachF (t : List Int) (k : Nat) (a0 a1 b0 b1 : Int) : Option (Int × Int) :=
  (turnoutref01_Bits.f k a0 a1).bind fun x => (turnoutref01_Bits.f k b0 b1).bind fun y => if x.length = 128 ∧ y.length = 128 ∧ ((List.range 128).all fun i => (x.getD i 0 == 0 || x.getD i 0 == 1) && (y.getD i 0 == 0 || y.getD i 0 == 1)) = true then turnoutref01_Word.f k (eachRow t x y) else none
theorem turnoutref01_And.eachF_mono (t : List Int) (a0 a1 b0 b1 : Int) (k : Nat) : LeO (turnoutref01_And.eachF t k a0 a1 b0 b1) (turnoutref01_And.eachF t (k + 1) a0 a1 b0 b1) := by
  unfold turnoutref01_And.eachF
  refine LeO.bind (turnoutref01_Bits.mono _ _ _) (fun x => LeO.bind (turnoutref01_Bits.mono _ _ _) (fun y => LeO.ite ?_ (LeO.none _)))
  exact turnoutref01_Word.mono _ _
theorem turnoutref01_And.eachF_calls (k : Nat) (a0 a1 b0 b1 t0 t1 t2 t3 : Int) (r1 r2 : Int) (w : World) (h : turnoutref01_And.eachF [t0, t1, t2, t3] k a0 a1 b0 b1 = some (r1, r2)) :
    Calls Try.prog 49 #[.agg #[.int .u64 a0, .int .u64 a1], .agg #[.int .u64 b0, .int .u64 b1], .agg #[.int .u8 t0, .int .u8 t1, .int .u8 t2, .int .u8 t3]] w fun e w' => e = .returned (.agg #[.int .u64 r1, .int .u64 r2]) ∧ Below w.heap.size w w' := by
  unfold turnoutref01_And.eachF at h
  obtain ⟨x, hx, h⟩ := Option.bind_eq_some_iff.mp h
  obtain ⟨y, hy, h⟩ := Option.bind_eq_some_iff.mp h
  split at h
  · rename_i hc
    have ha : ∀ i, i < 128 → (x.getD i 0 = 0 ∨ x.getD i 0 = 1) ∧ (y.getD i 0 = 0 ∨ y.getD i 0 = 1) := by
      intro i hi
      have := List.all_eq_true.1 hc.2.2 i (List.mem_range.2 hi)
      simpa only [Bool.and_eq_true, Bool.or_eq_true, beq_iff_eq] using this
    exact each_calls k a0 a1 b0 b1 t0 t1 t2 t3 x y r1 r2 w ⟨hx⟩ ⟨hy⟩ hc.1 hc.2.1 (fun i hi => (ha i hi).1) (fun i hi => (ha i hi).2) ⟨h⟩
  · exact absurd h (by simp)
def turnoutref01_And.f (k : Nat) (a0_0 : Int) (a0_1 : Int) (a1_0 : Int) (a1_1 : Int) : Option (Int × Int) := turnoutref01_And.eachF [0, 0, 0, 1] k a0_0 a0_1 a1_0 a1_1
theorem turnoutref01_And.mono : ∀ a0 a1 a2 a3 k, LeO (turnoutref01_And.f k a0 a1 a2 a3) (turnoutref01_And.f (k + 1) a0 a1 a2 a3) := fun _ _ _ _ _ => turnoutref01_And.eachF_mono _ _ _ _ _ _
set_option maxHeartbeats 8000000 in
set_option maxRecDepth 100000 in
theorem turnoutref01_And.calls (k : Nat) (a0_0 : Int) (a0_1 : Int) (a1_0 : Int) (a1_1 : Int) (r1 : Int) (r2 : Int) (w : World) (h : turnoutref01_And.f k a0_0 a0_1 a1_0 a1_1 = some (r1, r2)) :
    Calls Try.prog 24 #[.agg #[.int .u64 a0_0, .int .u64 a0_1], .agg #[.int .u64 a1_0, .int .u64 a1_1]] w fun e w' => e = .returned (.agg #[.int .u64 r1, .int .u64 r2]) ∧ Below w.heap.size w w' := by
  have huw_ := Try.underlying24
  unfold turnoutref01_And.f at h
  have H := Aside0.mk h
  clear h
  go_enter Try.func24, Try.ntmps24
  go_wp2_with fail
  go_at_call 49
  (with_reducible refine (turnoutref01_And.eachF_calls k _ _ _ _ _ _ _ _ r1 r2 _ H.out).mono ?_)
  rintro e u1 ⟨rfl, hb⟩
  have HR : Aside0 (u1.heap[w.heap.size + 1 + 1]? = some (.cells #[.int .u64 0, .int .u64 0] 24 (0, 0))) := ⟨by have h_ := blk_below (blk_new _ _) hb; simpa using h_⟩
  have HB := Aside0.mk (below_step (below_alloc (below_alloc (below_alloc (Below.refl _ _) _) _) _) hb)
  clear hb
  have hz0 : u1.cell? ⟨w.heap.size + 1 + 1, 0, none⟩ = some (.int .u64 0) := (blk_cell HR.out 0).trans rfl
  have hz1 : u1.cell? ⟨w.heap.size + 1 + 1, 1, none⟩ = some (.int .u64 0) := (blk_cell HR.out 1).trans rfl
  have hf0 := blk_frozen HR.out 0
  have hf1 := blk_frozen HR.out 1
  go_wp2_with fail
  refine bodyPost_ret (results_cell_row rfl _ _ (w.heap.size + 1 + 1) 24 #[.int .u64 r1, .int .u64 r2] (0, 0) _ rfl (blk_put (cs := #[.int .u64 r1, .int .u64 0]) (blk_put (cs := #[.int .u64 0, .int .u64 0]) HR.out 0 _ rfl) 1 _ rfl) Try.underlying24 rfl (by kernel_rfl)) rfl ?_
  exact ⟨rfl, below_set (below_set HB.out (by omega)) (by omega)⟩

/-! ### turnoutref01_Or: function 26 -/
def turnoutref01_Or.f (k : Nat) (a0_0 : Int) (a0_1 : Int) (a1_0 : Int) (a1_1 : Int) : Option (Int × Int) := turnoutref01_And.eachF [0, 1, 1, 1] k a0_0 a0_1 a1_0 a1_1
theorem turnoutref01_Or.mono : ∀ a0 a1 a2 a3 k, LeO (turnoutref01_Or.f k a0 a1 a2 a3) (turnoutref01_Or.f (k + 1) a0 a1 a2 a3) := fun _ _ _ _ _ => turnoutref01_And.eachF_mono _ _ _ _ _ _
set_option maxHeartbeats 8000000 in
set_option maxRecDepth 100000 in
theorem turnoutref01_Or.calls (k : Nat) (a0_0 : Int) (a0_1 : Int) (a1_0 : Int) (a1_1 : Int) (r1 : Int) (r2 : Int) (w : World) (h : turnoutref01_Or.f k a0_0 a0_1 a1_0 a1_1 = some (r1, r2)) :
    Calls Try.prog 26 #[.agg #[.int .u64 a0_0, .int .u64 a0_1], .agg #[.int .u64 a1_0, .int .u64 a1_1]] w fun e w' => e = .returned (.agg #[.int .u64 r1, .int .u64 r2]) ∧ Below w.heap.size w w' := by
  have huw_ := Try.underlying24
  unfold turnoutref01_Or.f at h
  have H := Aside0.mk h
  clear h
  go_enter Try.func26, Try.ntmps26
  go_wp2_with fail
  go_at_call 49
  (with_reducible refine (turnoutref01_And.eachF_calls k _ _ _ _ _ _ _ _ r1 r2 _ H.out).mono ?_)
  rintro e u1 ⟨rfl, hb⟩
  have HR : Aside0 (u1.heap[w.heap.size + 1 + 1]? = some (.cells #[.int .u64 0, .int .u64 0] 24 (0, 0))) := ⟨by have h_ := blk_below (blk_new _ _) hb; simpa using h_⟩
  have HB := Aside0.mk (below_step (below_alloc (below_alloc (below_alloc (Below.refl _ _) _) _) _) hb)
  clear hb
  have hz0 : u1.cell? ⟨w.heap.size + 1 + 1, 0, none⟩ = some (.int .u64 0) := (blk_cell HR.out 0).trans rfl
  have hz1 : u1.cell? ⟨w.heap.size + 1 + 1, 1, none⟩ = some (.int .u64 0) := (blk_cell HR.out 1).trans rfl
  have hf0 := blk_frozen HR.out 0
  have hf1 := blk_frozen HR.out 1
  go_wp2_with fail
  refine bodyPost_ret (results_cell_row rfl _ _ (w.heap.size + 1 + 1) 24 #[.int .u64 r1, .int .u64 r2] (0, 0) _ rfl (blk_put (cs := #[.int .u64 r1, .int .u64 0]) (blk_put (cs := #[.int .u64 0, .int .u64 0]) HR.out 0 _ rfl) 1 _ rfl) Try.underlying24 rfl (by kernel_rfl)) rfl ?_
  exact ⟨rfl, below_set (below_set HB.out (by omega)) (by omega)⟩

/-! ### word_Xor: function 27 -/
def word_Xor.f (a0_0 : Int) (a0_1 : Int) (a1_0 : Int) (a1_1 : Int) : Option (Int × Int) := some (Go.bits .xor .u64 a0_0 a1_0, Go.bits .xor .u64 a0_1 a1_1)
set_option maxHeartbeats 8000000 in
set_option maxRecDepth 100000 in
theorem word_Xor.calls (a0_0 : Int) (a0_1 : Int) (a1_0 : Int) (a1_1 : Int) (r1 : Int) (r2 : Int) (w : World) (h : word_Xor.f a0_0 a0_1 a1_0 a1_1 = some (r1, r2)) :
   Calls Try.prog 27 #[.agg #[.int .u64 a0_0, .int .u64 a0_1], .agg #[.int .u64 a1_0, .int .u64 a1_1]] w fun e w' => e = .returned (.agg #[.int .u64 r1, .int .u64 r2]) ∧ Below w.heap.size w w' := by
  have hu24 := Try.underlying24
  have HB := Aside0.mk (Below.refl w.heap.size w)
  have H : (some (Go.bits .xor .u64 a0_0 a1_0, Go.bits .xor .u64 a0_1 a1_1)) = some (r1, r2) := h
  clear h
  simp only [Option.some.injEq, Prod.mk.injEq] at H
  obtain ⟨rfl, rfl⟩ := H
  go_enter Try.func27, Try.ntmps27
  go_wp2_with (first | ((with_reducible refine gate_dst (N := 2) rfl ?_); refine box_event ?hg (N := 2) ?hd (cs := #[.int .u64 a0_0, .int .u64 a0_1]) (t := 24) ?hr ?_; (case hd => rfl); (case hg => rfl); (case hr => first | (go_simp; done) | (go_simp; rfl)); intro gb182 hg w3 hbox hb; have BK182 := Aside0.mk (hbox); have GW182 := Aside0.mk ((by rw [hg]; exact (below_size (by repeat (first | (with_reducible first | exact HB.out | apply below_alloc | apply pw_below_drewN | apply below_drew1) | exact HB.out))) : w.heap.size ≤ gb182)); have GE182 := Aside0.mk ((by rw [hg]; exact (below_size (by repeat (first | (with_reducible first | exact HB.out | apply below_alloc | apply pw_below_drewN | apply below_drew1) | exact HB.out))) : w.heap.size ≤ gb182)); replace HB := Aside0.mk (below_step (by repeat (first | (with_reducible first | exact HB.out | apply below_alloc | apply pw_below_drewN | apply below_drew1) | exact HB.out)) hb); clear hb hbox hg) | ((with_reducible refine gate_dst (N := 3) rfl ?_); refine box_event ?hg (N := 3) ?hd (cs := #[.int .u64 a1_0, .int .u64 a1_1]) (t := 24) ?hr ?_; (case hd => rfl); (case hg => rfl); (case hr => first | (go_simp; done) | (go_simp; rfl)); intro gb183 hg w4 hbox hb; have BK183 := Aside0.mk (hbox); have GW183 := Aside0.mk ((by rw [hg]; exact (below_size (by repeat (first | (with_reducible first | exact HB.out | apply below_alloc | apply pw_below_drewN | apply below_drew1 | refine below_set ?_ GE182.out) | exact HB.out))) : w.heap.size ≤ gb183)); have GE183 := Aside0.mk ((by rw [hg]; exact (below_size (by repeat (first | (with_reducible first | exact HB.out | apply below_alloc | apply pw_below_drewN | apply below_drew1 | refine below_set ?_ GE182.out) | exact HB.out))) : w.heap.size ≤ gb183)); replace HB := Aside0.mk (below_step (by repeat (first | (with_reducible first | exact HB.out | apply below_alloc | apply pw_below_drewN | apply below_drew1 | refine below_set ?_ GE182.out) | exact HB.out)) hb); have NB182_183 := Aside0.mk ((by rw [hg]; exact Nat.ne_of_lt (blk_lt (bkA BK182.out)) : gb182 ≠ gb183)); have NB183_182 := Aside0.mk ((by rw [hg]; exact Nat.ne_of_gt (blk_lt (bkA BK182.out)) : gb183 ≠ gb182)); replace BK182 := Aside0.mk (blk_below (bkA BK182.out) hb); clear hb hbox hg) | ((with_reducible refine gate_dst (N := 4) rfl ?_); refine box_event ?hg (N := 4) ?hd (cs := #[.int .u64 0, .int .u64 0]) (t := 24) ?hr ?_; (case hd => rfl); (case hg => rfl); (case hr => first | (go_simp; done) | (go_simp; rfl)); intro gb184 hg w5 hbox hb; have BK184 := Aside0.mk (hbox); have GW184 := Aside0.mk ((by rw [hg]; exact (below_size (by repeat (first | (with_reducible first | exact HB.out | apply below_alloc | apply pw_below_drewN | apply below_drew1 | refine below_set ?_ GE182.out | refine below_set ?_ GE183.out) | exact HB.out))) : w.heap.size ≤ gb184)); have GE184 := Aside0.mk ((by rw [hg]; exact (below_size (by repeat (first | (with_reducible first | exact HB.out | apply below_alloc | apply pw_below_drewN | apply below_drew1 | refine below_set ?_ GE182.out | refine below_set ?_ GE183.out) | exact HB.out))) : w.heap.size ≤ gb184)); replace HB := Aside0.mk (below_step (by repeat (first | (with_reducible first | exact HB.out | apply below_alloc | apply pw_below_drewN | apply below_drew1 | refine below_set ?_ GE182.out | refine below_set ?_ GE183.out) | exact HB.out)) hb); have NB182_184 := Aside0.mk ((by rw [hg]; exact Nat.ne_of_lt (blk_lt (bkA BK182.out)) : gb182 ≠ gb184)); have NB184_182 := Aside0.mk ((by rw [hg]; exact Nat.ne_of_gt (blk_lt (bkA BK182.out)) : gb184 ≠ gb182)); replace BK182 := Aside0.mk (blk_below (bkA BK182.out) hb); have NB183_184 := Aside0.mk ((by rw [hg]; exact Nat.ne_of_lt (blk_lt (bkA BK183.out)) : gb183 ≠ gb184)); have NB184_183 := Aside0.mk ((by rw [hg]; exact Nat.ne_of_gt (blk_lt (bkA BK183.out)) : gb184 ≠ gb183)); replace BK183 := Aside0.mk (blk_below (bkA BK183.out) hb); clear hb hbox hg; have hnb6 := NB182_183.out; have hnc6 := NB183_182.out; have hnb7 := NB182_184.out; have hnc7 := NB184_182.out; have hcz8_0 : w5.cell? ⟨gb182, 0, none⟩ = some (.int .u64 a0_0) := (blk_cell BK182.out 0).trans rfl; have hcz8_1 : w5.cell? ⟨gb182, 1, none⟩ = some (.int .u64 a0_1) := (blk_cell BK182.out 1).trans rfl; have hfz8_0 := blk_frozen BK182.out 0; have hfz8_1 := blk_frozen BK182.out 1; have hnb9 := NB183_184.out; have hnc9 := NB184_183.out; have hcz10_0 : w5.cell? ⟨gb183, 0, none⟩ = some (.int .u64 a1_0) := (blk_cell BK183.out 0).trans rfl; have hcz10_1 : w5.cell? ⟨gb183, 1, none⟩ = some (.int .u64 a1_1) := (blk_cell BK183.out 1).trans rfl; have hfz10_0 := blk_frozen BK183.out 0; have hfz10_1 := blk_frozen BK183.out 1; have hcz11_0 : w5.cell? ⟨gb184, 0, none⟩ = some (.int .u64 0) := (blk_cell BK184.out 0).trans rfl; have hcz11_1 : w5.cell? ⟨gb184, 1, none⟩ = some (.int .u64 0) := (blk_cell BK184.out 1).trans rfl; have hfz11_0 := blk_frozen BK184.out 0; have hfz11_1 := blk_frozen BK184.out 1))
  refine bodyPost_ret (results_cell_row rfl _ _ gb184 24 #[.int .u64 (Go.bits .xor .u64 a0_0 a1_0), .int .u64 (Go.bits .xor .u64 a0_1 a1_1)] (0, 0) _ rfl (by (with_reducible repeat (first | refine blk_drewN ?_ _ | refine blk_drew ?_ | refine blk_alloc ?_ _)); refine blk_put (cs := #[.int .u64 (Go.bits .xor .u64 a0_0 a1_0), .int .u64 0]) ?_ 1 _ rfl; (with_reducible repeat (first | refine blk_drewN ?_ _ | refine blk_drew ?_ | refine blk_alloc ?_ _)); refine blk_put (cs := #[.int .u64 0, .int .u64 0]) ?_ 0 _ rfl; (with_reducible repeat (first | refine blk_drewN ?_ _ | refine blk_drew ?_ | refine blk_alloc ?_ _)); exact BK184.out) Try.underlying24 rfl (by kernel_rfl)) rfl ?_
  exact ⟨by first | rfl | (simp [errW_none, errW_some] <;> rfl) | (simp [*, errW_none, errW_some] <;> rfl), by repeat (first | (with_reducible first | exact HB.out | apply below_alloc | apply pw_below_drewN | apply below_drew1 | refine below_set ?_ GE182.out | refine below_set ?_ GE183.out | refine below_set ?_ GE184.out) | exact HB.out)⟩

/-! ### turnoutref01_Xor: function 28 -/
def turnoutref01_Xor.f (k : Nat) (a0_0 : Int) (a0_1 : Int) (a1_0 : Int) (a1_1 : Int) : Option (Int × Int) := turnoutref01_And.eachF [0, 1, 1, 0] k a0_0 a0_1 a1_0 a1_1
theorem turnoutref01_Xor.mono : ∀ a0 a1 a2 a3 k, LeO (turnoutref01_Xor.f k a0 a1 a2 a3) (turnoutref01_Xor.f (k + 1) a0 a1 a2 a3) := fun _ _ _ _ _ => turnoutref01_And.eachF_mono _ _ _ _ _ _
set_option maxHeartbeats 8000000 in
set_option maxRecDepth 100000 in
theorem turnoutref01_Xor.calls (k : Nat) (a0_0 : Int) (a0_1 : Int) (a1_0 : Int) (a1_1 : Int) (r1 : Int) (r2 : Int) (w : World) (h : turnoutref01_Xor.f k a0_0 a0_1 a1_0 a1_1 = some (r1, r2)) :
    Calls Try.prog 28 #[.agg #[.int .u64 a0_0, .int .u64 a0_1], .agg #[.int .u64 a1_0, .int .u64 a1_1]] w fun e w' => e = .returned (.agg #[.int .u64 r1, .int .u64 r2]) ∧ Below w.heap.size w w' := by
  have huw_ := Try.underlying24
  unfold turnoutref01_Xor.f at h
  have H := Aside0.mk h
  clear h
  go_enter Try.func28, Try.ntmps28
  go_wp2_with fail
  go_at_call 49
  (with_reducible refine (turnoutref01_And.eachF_calls k _ _ _ _ _ _ _ _ r1 r2 _ H.out).mono ?_)
  rintro e u1 ⟨rfl, hb⟩
  have HR : Aside0 (u1.heap[w.heap.size + 1 + 1]? = some (.cells #[.int .u64 0, .int .u64 0] 24 (0, 0))) := ⟨by have h_ := blk_below (blk_new _ _) hb; simpa using h_⟩
  have HB := Aside0.mk (below_step (below_alloc (below_alloc (below_alloc (Below.refl _ _) _) _) _) hb)
  clear hb
  have hz0 : u1.cell? ⟨w.heap.size + 1 + 1, 0, none⟩ = some (.int .u64 0) := (blk_cell HR.out 0).trans rfl
  have hz1 : u1.cell? ⟨w.heap.size + 1 + 1, 1, none⟩ = some (.int .u64 0) := (blk_cell HR.out 1).trans rfl
  have hf0 := blk_frozen HR.out 0
  have hf1 := blk_frozen HR.out 1
  go_wp2_with fail
  refine bodyPost_ret (results_cell_row rfl _ _ (w.heap.size + 1 + 1) 24 #[.int .u64 r1, .int .u64 r2] (0, 0) _ rfl (blk_put (cs := #[.int .u64 r1, .int .u64 0]) (blk_put (cs := #[.int .u64 0, .int .u64 0]) HR.out 0 _ rfl) 1 _ rfl) Try.underlying24 rfl (by kernel_rfl)) rfl ?_
  exact ⟨rfl, below_set (below_set HB.out (by omega)) (by omega)⟩

/-! ### turnoutref01_Not: function 29 -/
def turnoutref01_Not.f (k : Nat) (a0_0 : Int) (a0_1 : Int) : Option (Int × Int) := turnoutref01_And.eachF [1, 1, 0, 0] k a0_0 a0_1 a0_0 a0_1
theorem turnoutref01_Not.mono : ∀ a0 a1 k, LeO (turnoutref01_Not.f k a0 a1) (turnoutref01_Not.f (k + 1) a0 a1) := fun _ _ _ => turnoutref01_And.eachF_mono _ _ _ _ _ _
set_option maxHeartbeats 8000000 in
set_option maxRecDepth 100000 in
theorem turnoutref01_Not.calls (k : Nat) (a0_0 : Int) (a0_1 : Int) (r1 : Int) (r2 : Int) (w : World) (h : turnoutref01_Not.f k a0_0 a0_1 = some (r1, r2)) :
    Calls Try.prog 29 #[.agg #[.int .u64 a0_0, .int .u64 a0_1]] w fun e w' => e = .returned (.agg #[.int .u64 r1, .int .u64 r2]) ∧ Below w.heap.size w w' := by
  have huw_ := Try.underlying24
  unfold turnoutref01_Not.f at h
  have H := Aside0.mk h
  clear h
  go_enter Try.func29, Try.ntmps29
  go_wp2_with fail
  go_at_call 49
  (with_reducible refine (turnoutref01_And.eachF_calls k _ _ _ _ _ _ _ _ r1 r2 _ H.out).mono ?_)
  rintro e u1 ⟨rfl, hb⟩
  have HR : Aside0 (u1.heap[w.heap.size + 1]? = some (.cells #[.int .u64 0, .int .u64 0] 24 (0, 0))) := ⟨by have h_ := blk_below (blk_new _ _) hb; simpa using h_⟩
  have HB := Aside0.mk (below_step (below_alloc (below_alloc (Below.refl _ _) _) _) hb)
  clear hb
  have hz0 : u1.cell? ⟨w.heap.size + 1, 0, none⟩ = some (.int .u64 0) := (blk_cell HR.out 0).trans rfl
  have hz1 : u1.cell? ⟨w.heap.size + 1, 1, none⟩ = some (.int .u64 0) := (blk_cell HR.out 1).trans rfl
  have hf0 := blk_frozen HR.out 0
  have hf1 := blk_frozen HR.out 1
  go_wp2_with fail
  refine bodyPost_ret (results_cell_row rfl _ _ (w.heap.size + 1) 24 #[.int .u64 r1, .int .u64 r2] (0, 0) _ rfl (blk_put (cs := #[.int .u64 r1, .int .u64 0]) (blk_put (cs := #[.int .u64 0, .int .u64 0]) HR.out 0 _ rfl) 1 _ rfl) Try.underlying24 rfl (by kernel_rfl)) rfl ?_
  exact ⟨rfl, below_set (below_set HB.out (by omega)) (by omega)⟩

end Go.Proofs.Ytmplgmlfpfopbaa.PWordK
