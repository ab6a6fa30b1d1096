-- Written by wip/turnprint.py, a program of this session (the kit's print, turned).
import Derived.Test.YtmplgmlfpfopbaaPWordTx0
import Derived.Test.YtmplgmlfpfopbaaPWordTx1
import Derived.Test.YtmplgmlfpfopbaaPWordTx3
import Derived.Test.YtmplgmlfpfopbaaPWordTx4
import Derived.Test.YtmplgmlfpfopbaaPWordTx5
namespace Go.Proofs.Ytmplgmlfpfopbaa.PWordT
open Go.RowKit Go.Proofs.YtmplgmlfpfopbaaW.PrintWords Go.Proofs.YtmplgmlfpfopbaaW.PrintLast Go.Proofs.YtmplgmlfpfopbaaW.PrintMore
attribute [local go_sem] max2_int min2_int max_two min_two max_three min_three max_four min_four   -- for this text's walks alone
set_option linter.unusedVariables false
set_option linter.unusedSimpArgs false

attribute [local go_sem high] eqA24
attribute [local go_sem high] xorA_u8 xorA_u16 xorA_u32 xorA_u64
/-! ### turnoutlaw01_WordBack: function 8 -/
mutual
def turnoutlaw01_WordBack.j0 : Nat → ByteArray → Bool → Option (Bool)
  | 0, _, _ => none
  | k + 1, x1, x29 => if x29 = true then (some false) else ((word_Of.f k x1).bind fun bt217 => (if (x1.size : Int) > 16 then (if bt217.2.2 = 5 then (some (bt217.1 == 0 && (bt217.2.1 == 0))) else (some false)) else ((word_Text.f bt217.1 bt217.2.1).bind fun t221 => (if bt217.2.2 = 0 then (if (t221.size : Int) = 16 then (if 0 ≤ (wrap64 (16 - (x1.size : Int))) then (if (wrap64 (16 - (x1.size : Int))) ≤ (t221.size : Int) then (turnoutlaw01_WordBack.j1 k x1 t221 ((t221.extract ((wrap64 (16 - (x1.size : Int))) : Int).toNat t221.size).toList != x1.toList) bt217.1 bt217.2.1) else (none)) else (none)) else (turnoutlaw01_WordBack.j1 k x1 t221 true bt217.1 bt217.2.1)) else (turnoutlaw01_WordBack.j1 k x1 t221 true bt217.1 bt217.2.1)))))
def turnoutlaw01_WordBack.j1 : Nat → ByteArray → ByteArray → Bool → Int → Int → Option (Bool)
  | 0, _, _, _, _, _ => none
  | k + 1, x1, x9, x62, x221000, x221001 => if x62 = true then (some false) else (turnoutlaw01_WordBack.l0 k x1 x9 0 x221000 x221001)
def turnoutlaw01_WordBack.l0 : Nat → ByteArray → ByteArray → Int → Int → Int → Option (Bool)
  | 0, _, _, _, _, _ => none
  | k + 1, x1, x9, x10, x221000, x221001 => if x10 < (wrap64 (16 - (x1.size : Int))) then (if 0 ≤ x10 then (if x10 < (x9.size : Int) then (if (bt x9 x10) = 0 then (turnoutlaw01_WordBack.l0 k x1 x9 (wrap64 (x10 + 1)) x221000 x221001) else (some false)) else (none)) else (none)) else ((word_Of.f k x9).bind fun bt223 => (if bt223.2.2 = 0 then (if (bt223.1 == x221000 && (bt223.2.1 == x221001)) = true then ((word_Size.f k x221000 x221001).bind fun t227 => (some (decide (t227 ≤ (wrap64 (8 * (x1.size : Int))))))) else (some false)) else (some false)))
end
def turnoutlaw01_WordBack.f (k : Nat) (a0_0 : Int) (a0_1 : Int) (a1 : ByteArray) : Option (Bool) := (word_Text.f a0_0 a0_1).bind fun t211 => ((word_Of.f k t211).bind fun bt212 => ((turnoutlaw01_awake.f k).bind fun t216 => (if t216 = true then (if bt212.2.2 = 0 then (turnoutlaw01_WordBack.j0 k a1 (!(bt212.1 == a0_0) || (!(bt212.2.1 == a0_1)))) else (turnoutlaw01_WordBack.j0 k a1 true)) else (turnoutlaw01_WordBack.j0 k a1 true))))
theorem turnoutlaw01_WordBack.mono_l : ∀ k, (∀ y0 y1, LeO (turnoutlaw01_WordBack.j0 k y0 y1) (turnoutlaw01_WordBack.j0 (k + 1) y0 y1)) ∧ (∀ y0 y1 y2 y3 y4, LeO (turnoutlaw01_WordBack.j1 k y0 y1 y2 y3 y4) (turnoutlaw01_WordBack.j1 (k + 1) y0 y1 y2 y3 y4)) ∧ (∀ y0 y1 y2 y3 y4, LeO (turnoutlaw01_WordBack.l0 k y0 y1 y2 y3 y4) (turnoutlaw01_WordBack.l0 (k + 1) y0 y1 y2 y3 y4))
  | 0 => ⟨fun _ _ r h => by simp [turnoutlaw01_WordBack.j0] at h, fun _ _ _ _ _ r h => by simp [turnoutlaw01_WordBack.j1] at h, fun _ _ _ _ _ r h => by simp [turnoutlaw01_WordBack.l0] at h⟩
  | k + 1 => by
   obtain ⟨ih0, ih1, ih2⟩ := turnoutlaw01_WordBack.mono_l k
   refine ⟨?_, ?_, ?_⟩
   ·
    intro y0 y1
    unfold turnoutlaw01_WordBack.j0
    repeat' first
    | (with_reducible exact ih0 _ _)
    | (with_reducible exact ih1 _ _ _ _ _)
    | (with_reducible exact ih2 _ _ _ _ _)
    | (with_reducible exact turnoutlaw01_awake.mono _)
    | (with_reducible exact word_Of.mono _ _)
    | (with_reducible exact word_Size.mono _ _ _)
    | (with_reducible exact LeO.refl _)
    | (with_reducible exact LeO.none _)
    | (with_reducible refine LeO.ite ?_ ?_)
    | (with_reducible refine LeO.bind ?_ (fun _ => ?_))
    | exact ih0 _ _
    | exact ih1 _ _ _ _ _
    | exact ih2 _ _ _ _ _
    | exact turnoutlaw01_awake.mono _
    | exact word_Of.mono _ _
    | exact word_Size.mono _ _ _
    | exact LeO.none _
    | refine LeO.ite ?_ ?_
    | refine LeO.bind ?_ (fun _ => ?_)
   ·
    intro y0 y1 y2 y3 y4
    unfold turnoutlaw01_WordBack.j1
    repeat' first
    | (with_reducible exact ih0 _ _)
    | (with_reducible exact ih1 _ _ _ _ _)
    | (with_reducible exact ih2 _ _ _ _ _)
    | (with_reducible exact turnoutlaw01_awake.mono _)
    | (with_reducible exact word_Of.mono _ _)
    | (with_reducible exact word_Size.mono _ _ _)
    | (with_reducible exact LeO.refl _)
    | (with_reducible exact LeO.none _)
    | (with_reducible refine LeO.ite ?_ ?_)
    | (with_reducible refine LeO.bind ?_ (fun _ => ?_))
    | exact ih0 _ _
    | exact ih1 _ _ _ _ _
    | exact ih2 _ _ _ _ _
    | exact turnoutlaw01_awake.mono _
    | exact word_Of.mono _ _
    | exact word_Size.mono _ _ _
    | exact LeO.none _
    | refine LeO.ite ?_ ?_
    | refine LeO.bind ?_ (fun _ => ?_)
   ·
    intro y0 y1 y2 y3 y4
    unfold turnoutlaw01_WordBack.l0
    repeat' first
    | (with_reducible exact ih0 _ _)
    | (with_reducible exact ih1 _ _ _ _ _)
    | (with_reducible exact ih2 _ _ _ _ _)
    | (with_reducible exact turnoutlaw01_awake.mono _)
    | (with_reducible exact word_Of.mono _ _)
    | (with_reducible exact word_Size.mono _ _ _)
    | (with_reducible exact LeO.refl _)
    | (with_reducible exact LeO.none _)
    | (with_reducible refine LeO.ite ?_ ?_)
    | (with_reducible refine LeO.bind ?_ (fun _ => ?_))
    | exact ih0 _ _
    | exact ih1 _ _ _ _ _
    | exact ih2 _ _ _ _ _
    | exact turnoutlaw01_awake.mono _
    | exact word_Of.mono _ _
    | exact word_Size.mono _ _ _
    | exact LeO.none _
    | refine LeO.ite ?_ ?_
    | refine LeO.bind ?_ (fun _ => ?_)
theorem turnoutlaw01_WordBack.mono : ∀ a0 a1 a2 k, LeO (turnoutlaw01_WordBack.f k a0 a1 a2) (turnoutlaw01_WordBack.f (k + 1) a0 a1 a2) := by
  intro a0 a1 a2 k
  obtain ⟨ih0, ih1, ih2⟩ := turnoutlaw01_WordBack.mono_l k
  unfold turnoutlaw01_WordBack.f
  repeat' first
    | (with_reducible exact ih0 _ _)
    | (with_reducible exact ih1 _ _ _ _ _)
    | (with_reducible exact ih2 _ _ _ _ _)
    | (with_reducible exact turnoutlaw01_awake.mono _)
    | (with_reducible exact word_Of.mono _ _)
    | (with_reducible exact word_Size.mono _ _ _)
    | (with_reducible exact LeO.refl _)
    | (with_reducible exact LeO.none _)
    | (with_reducible refine LeO.ite ?_ ?_)
    | (with_reducible refine LeO.bind ?_ (fun _ => ?_))
    | exact ih0 _ _
    | exact ih1 _ _ _ _ _
    | exact ih2 _ _ _ _ _
    | exact turnoutlaw01_awake.mono _
    | exact word_Of.mono _ _
    | exact word_Size.mono _ _ _
    | exact LeO.none _
    | refine LeO.ite ?_ ?_
    | refine LeO.bind ?_ (fun _ => ?_)
set_option maxHeartbeats 8000000 in
set_option maxRecDepth 100000 in
theorem turnoutlaw01_WordBack.calls (k : Nat) (a0_0 : Int) (a0_1 : Int) (a1 : ByteArray) (r : Bool) (w : World) (h : turnoutlaw01_WordBack.f k a0_0 a0_1 a1 = some r) (hr_ : Aside0 (r = true)) (HAW20 : Aside0 (∀ k r, turnoutlaw01_awake.f k = some r → r = true)) :
   Calls Try.prog 8 #[.agg #[.int .u64 a0_0, .int .u64 a0_1], .string a1] w fun e w' => e = .returned (.bool r) ∧ Below w.heap.size w w' := by
  have hu24 := Try.underlying24
  have HB := Aside0.mk (Below.refl w.heap.size w)
  have H : ((word_Text.f a0_0 a0_1).bind fun t211 => ((word_Of.f k t211).bind fun bt212 => ((turnoutlaw01_awake.f k).bind fun t216 => (if t216 = true then (if bt212.2.2 = 0 then (turnoutlaw01_WordBack.j0 k a1 (!(bt212.1 == a0_0) || (!(bt212.2.1 == a0_1)))) else (turnoutlaw01_WordBack.j0 k a1 true)) else (turnoutlaw01_WordBack.j0 k a1 true))))) = some r := h
  clear h
  replace H := Option.bind_eq_some_iff.mp H
  obtain ⟨t211, A30, H⟩ := H
  replace H : ((word_Of.f k t211).bind fun bt212 => ((turnoutlaw01_awake.f k).bind fun t216 => (if t216 = true then (if bt212.2.2 = 0 then (turnoutlaw01_WordBack.j0 k a1 (!(bt212.1 == a0_0) || (!(bt212.2.1 == a0_1)))) else (turnoutlaw01_WordBack.j0 k a1 true)) else (turnoutlaw01_WordBack.j0 k a1 true)))) = some r := H
  have A3 := Aside0.mk A30
  clear A30
  replace H := Option.bind_eq_some_iff.mp H
  obtain ⟨⟨t212, t213, t214⟩, A40, H⟩ := H
  replace H : ((turnoutlaw01_awake.f k).bind fun t216 => (if t216 = true then (if t214 = 0 then (turnoutlaw01_WordBack.j0 k a1 (!(t212 == a0_0) || (!(t213 == a0_1)))) else (turnoutlaw01_WordBack.j0 k a1 true)) else (turnoutlaw01_WordBack.j0 k a1 true))) = some r := H
  have A4 := Aside0.mk A40
  clear A40
  have HC5 := Aside0.mk H
  clear H
  go_enter Try.func8, Try.ntmps8
  go_upto_region 2 with (first | ((with_reducible refine gate_dst (N := 2) rfl ?_); (try (refine gate_guard (by rfl) ?_; dsimp only)); refine box_event ?hg (N := 2) ?hd (cs := #[.int .u64 a0_0, .int .u64 a0_1]) (t := 24) ?hr ?_; (case hd => rfl); (case hg => rfl); (case hr => first | (go_simp; done) | (go_simp; rfl)); intro gb210 hg w6 hbox hb; have BK210 := Aside0.mk (hbox); have GW210 := Aside0.mk ((by rw [hg]; exact (below_size (by repeat (first | (with_reducible first | exact HB.out | apply below_alloc | apply pw_below_drewN | apply below_drew1) | exact HB.out))) : w.heap.size ≤ gb210)); have GE210 := Aside0.mk ((by rw [hg]; exact (below_size (by repeat (first | (with_reducible first | exact HB.out | apply below_alloc | apply pw_below_drewN | apply below_drew1) | exact HB.out))) : w.heap.size ≤ gb210)); replace HB := Aside0.mk (below_step (by repeat (first | (with_reducible first | exact HB.out | apply below_alloc | apply pw_below_drewN | apply below_drew1) | exact HB.out)) hb); clear hb hbox hg; have hcz7_0 : w6.cell? ⟨gb210, 0, none⟩ = some (.int .u64 a0_0) := (blk_cell BK210.out 0).trans rfl; have hcz7_1 : w6.cell? ⟨gb210, 1, none⟩ = some (.int .u64 a0_1) := (blk_cell BK210.out 1).trans rfl; have hfz7_0 := blk_frozen BK210.out 0; have hfz7_1 := blk_frozen BK210.out 1) | ((with_reducible refine gate_callee (f := 37) rfl ?_); refine goesL_ (some 15) rfl rfl Try.func37 (by kernel_rfl) rfl #[.agg #[.int .u64 a0_0, .int .u64 a0_1]] rfl (by (try simp only [List.map_toArray, List.map_cons, List.map_nil]); first | done | rfl | (simp only [List.length_drop, List.length_take]; rfl)) ?_; (with_reducible refine (word_Text.calls a0_0 a0_1 t211 _ A3.out).mono ?_); rintro e w8 ⟨rfl, hb⟩; refine ⟨_, rfl, ?_⟩; replace BK210 := Aside0.mk (blk_below (bkA BK210.out) hb); replace HB := Aside0.mk (below_step (by repeat (first | (with_reducible first | exact HB.out | apply below_alloc | apply pw_below_drewN | apply below_drew1 | refine below_set ?_ GE210.out) | exact HB.out)) hb); (try clear hb); (try clear hb2); (try clear hk); (try clear hi)) | ((with_reducible refine gate_callee (f := 35) rfl ?_); refine goesL_ (some 16) rfl rfl Try.func35 (by kernel_rfl) rfl #[.string t211] rfl (by (try simp only [List.map_toArray, List.map_cons, List.map_nil]); first | done | rfl | (simp only [List.length_drop, List.length_take]; rfl)) ?_; (with_reducible refine (word_Of.calls k t211 t212 t213 t214 _ A4.out).mono ?_); rintro e w9 ⟨rfl, hb⟩; refine ⟨_, rfl, ?_⟩; replace BK210 := Aside0.mk (blk_below (bkA BK210.out) hb); replace HB := Aside0.mk (below_step (by repeat (first | (with_reducible first | exact HB.out | apply below_alloc | apply pw_below_drewN | apply below_drew1 | refine below_set ?_ GE210.out) | exact HB.out)) hb); (try clear hb); (try clear hb2); (try clear hk); (try clear hi)) | ((with_reducible refine gate_dst (N := 5) rfl ?_); (try (refine gate_guard (by rfl) ?_; dsimp only)); refine box_event ?hg (N := 5) ?hd (cs := #[.int .u64 0, .int .u64 0]) (t := 24) ?hr ?_; (case hd => rfl); (case hg => rfl); (case hr => first | (go_simp; done) | (go_simp; rfl)); intro gb215 hg w10 hbox hb; have BK215 := Aside0.mk (hbox); have GW215 := Aside0.mk ((by rw [hg]; exact (below_size (by repeat (first | (with_reducible first | exact HB.out | apply below_alloc | apply pw_below_drewN | apply below_drew1 | refine below_set ?_ GE210.out) | exact HB.out))) : w.heap.size ≤ gb215)); have GE215 := Aside0.mk ((by rw [hg]; exact (below_size (by repeat (first | (with_reducible first | exact HB.out | apply below_alloc | apply pw_below_drewN | apply below_drew1 | refine below_set ?_ GE210.out) | exact HB.out))) : w.heap.size ≤ gb215)); replace HB := Aside0.mk (below_step (by repeat (first | (with_reducible first | exact HB.out | apply below_alloc | apply pw_below_drewN | apply below_drew1 | refine below_set ?_ GE210.out) | exact HB.out)) hb); have NB210_215 := Aside0.mk ((by rw [hg]; exact Nat.ne_of_lt (blk_lt (bkA BK210.out)) : gb210 ≠ gb215)); have NB215_210 := Aside0.mk ((by rw [hg]; exact Nat.ne_of_gt (blk_lt (bkA BK210.out)) : gb215 ≠ gb210)); replace BK210 := Aside0.mk (blk_below (bkA BK210.out) hb); clear hb hbox hg; have hnb11 := NB215_210.out; have hnc11 := NB210_215.out; have hcz12_0 : w10.cell? ⟨gb215, 0, none⟩ = some (.int .u64 0) := (blk_cell BK215.out 0).trans rfl; have hcz12_1 : w10.cell? ⟨gb215, 1, none⟩ = some (.int .u64 0) := (blk_cell BK215.out 1).trans rfl; have hfz12_0 := blk_frozen BK215.out 0; have hfz12_1 := blk_frozen BK215.out 1))
  (try simp only [Act.put, List.setIfInBounds_toArray, List.set_cons_zero, List.set_cons_succ])
  go_cut [29] (fun v29 wc => ∃ (kq : Nat) (x29_4 : Bool), v29 = .bool x29_4 ∧ Aside0 (turnoutlaw01_WordBack.j0 kq a1 x29_4 = some r) ∧ Aside0 (kq ≤ k) ∧ Aside0 (wc.heap[gb210]? = some (.cells #[.int .u64 a0_0, .int .u64 a0_1] 24 (0, 0))) ∧ Aside0 (wc.heap[gb215]? = some (.cells #[.int .u64 t212, .int .u64 t213] 24 (0, 0))) ∧ Aside0 (Below w.heap.size w wc))
  case first =>
   have H := HC5.out
   clear HC5
   replace H := Option.bind_eq_some_iff.mp H
   obtain ⟨t216, A130, H⟩ := H
   replace H : (if t216 = true then (if t214 = 0 then (turnoutlaw01_WordBack.j0 k a1 (!(t212 == a0_0) || (!(t213 == a0_1)))) else (turnoutlaw01_WordBack.j0 k a1 true)) else (turnoutlaw01_WordBack.j0 k a1 true)) = some r := H
   have A13 := Aside0.mk A130
   clear A130
   by_cases c14 : t216 = true
   ·
    subst c14
    have H1 : (if t214 = 0 then (turnoutlaw01_WordBack.j0 k a1 (!(t212 == a0_0) || (!(t213 == a0_1)))) else (turnoutlaw01_WordBack.j0 k a1 true)) = some r := by rw [if_pos rfl] at H; exact H
    clear H; have H := H1; clear H1
    by_cases c15 : t214 = 0
    ·
     rw [if_pos c15] at H
     have c15b0 : (t214 == 0) = true := beq_iff_eq.mpr c15
     have c15b1 : (t214 != 0) = false := bne_eq_false_iff_eq.mpr c15
     clear c15
     (first | rw [c15b0] | (simp only [i64_w, i32_w]; rw [c15b0]) | skip)
     have H' := Aside0.mk H
     clear H
     go_wp2_with (first | ((with_reducible refine gate_callee (f := 20) rfl ?_); refine goesL_ (some 19) rfl rfl Try.func20 (by kernel_rfl) rfl #[] rfl (by (try simp only [List.map_toArray, List.map_cons, List.map_nil]); first | done | rfl | (simp only [List.length_drop, List.length_take]; rfl)) ?_; (with_reducible refine (turnoutlaw01_awake.calls k  true _ A13.out ⟨HAW20.out _ _ A13.out⟩).mono ?_); rintro e w16 ⟨rfl, hb⟩; refine ⟨_, rfl, ?_⟩; replace BK210 := Aside0.mk (blk_below (g := gb210) (o := .cells #[.int .u64 a0_0, .int .u64 a0_1] 24 (0, 0)) (by (with_reducible repeat (first | refine blk_drewN ?_ _ | refine blk_drew ?_ | refine blk_alloc ?_ _)); refine blk_far ?_ NB210_215.out _; (with_reducible repeat (first | refine blk_drewN ?_ _ | refine blk_drew ?_ | refine blk_alloc ?_ _)); refine blk_far ?_ NB210_215.out _; (with_reducible repeat (first | refine blk_drewN ?_ _ | refine blk_drew ?_ | refine blk_alloc ?_ _)); exact BK210.out) hb); replace BK215 := Aside0.mk (blk_below (g := gb215) (o := .cells #[.int .u64 t212, .int .u64 t213] 24 (0, 0)) (by (with_reducible repeat (first | refine blk_drewN ?_ _ | refine blk_drew ?_ | refine blk_alloc ?_ _)); refine blk_put (cs := #[.int .u64 t212, .int .u64 0]) ?_ 1 _ rfl; (with_reducible repeat (first | refine blk_drewN ?_ _ | refine blk_drew ?_ | refine blk_alloc ?_ _)); refine blk_put (cs := #[.int .u64 0, .int .u64 0]) ?_ 0 _ rfl; (with_reducible repeat (first | refine blk_drewN ?_ _ | refine blk_drew ?_ | refine blk_alloc ?_ _)); exact BK215.out) hb); replace HB := Aside0.mk (below_step (by repeat (first | (with_reducible first | exact HB.out | apply below_alloc | apply pw_below_drewN | apply below_drew1 | refine below_set ?_ GE210.out | refine below_set ?_ GE215.out) | exact HB.out)) hb); (try clear hb); (try clear hb2); (try clear hk); (try clear hi); have hnb17 := NB215_210.out; have hnc17 := NB210_215.out; have hcz18_0 : w16.cell? ⟨gb215, 0, none⟩ = some (.int .u64 t212) := (blk_cell BK215.out 0).trans rfl; have hcz18_1 : w16.cell? ⟨gb215, 1, none⟩ = some (.int .u64 t213) := (blk_cell BK215.out 1).trans rfl; have hfz18_0 := blk_frozen BK215.out 0; have hfz18_1 := blk_frozen BK215.out 1; have hcz19_0 : w16.cell? ⟨gb210, 0, none⟩ = some (.int .u64 a0_0) := (blk_cell BK210.out 0).trans rfl; have hcz19_1 : w16.cell? ⟨gb210, 1, none⟩ = some (.int .u64 a0_1) := (blk_cell BK210.out 1).trans rfl; have hfz19_0 := blk_frozen BK210.out 0; have hfz19_1 := blk_frozen BK210.out 1))
     go_meet
     case rel => exact ⟨_, ((!(t212 == a0_0) || (!(t213 == a0_1)))), (by first | rfl | (simp; done) | (simp [*]; done)), H', ⟨by first | omega | exact Nat.le_refl _⟩, ⟨by (with_reducible repeat (first | refine blk_drewN ?_ _ | refine blk_drew ?_ | refine blk_alloc ?_ _)); exact BK210.out⟩, ⟨by (with_reducible repeat (first | refine blk_drewN ?_ _ | refine blk_drew ?_ | refine blk_alloc ?_ _)); exact BK215.out⟩, ⟨by repeat (first | (with_reducible first | exact HB.out | apply below_alloc | apply pw_below_drewN | apply below_drew1 | refine below_set ?_ GE210.out | refine below_set ?_ GE215.out) | exact HB.out)⟩⟩
    ·
     rw [if_neg c15] at H
     have c15b0 : (t214 == 0) = false := beq_eq_false_iff_ne.mpr c15
     have c15b1 : (t214 != 0) = true := bne_iff_ne.mpr c15
     (first | rw [c15b0] | (simp only [i64_w, i32_w]; rw [c15b0]) | skip)
     exact absurd hr_.out (by cases k with | zero => simp [turnoutlaw01_WordBack.j0] at H | succ _ => simp only [turnoutlaw01_WordBack.j0] at H; (first | rw [if_pos rfl] at H | rw [if_pos trivial] at H); rw [← Option.some.inj H]; decide)
   ·
    replace c14 := Bool.eq_false_iff.mpr c14
    subst c14
    have H1 : (turnoutlaw01_WordBack.j0 k a1 true) = some r := by rw [if_neg (show ¬ (false = true) by decide)] at H; exact H
    clear H; have H := H1; clear H1
    exact absurd hr_.out (by cases k with | zero => simp [turnoutlaw01_WordBack.j0] at H | succ _ => simp only [turnoutlaw01_WordBack.j0] at H; (first | rw [if_pos rfl] at H | rw [if_pos trivial] at H); rw [← Option.some.inj H]; decide)
  case rest =>
   clear HC5
   try clear c1
   try clear c2
   try clear p2
   try clear c3
   try clear c8
   try clear c11
   try clear c14
   try clear c15
   try clear c15b0
   try clear c15b1
   try clear c17
   try clear hcz12_0
   try clear hcz12_1
   try clear hcz18_0
   try clear hcz18_1
   try clear hcz19_0
   try clear hcz19_1
   try clear hcz7_0
   try clear hcz7_1
   try clear hfz12_0
   try clear hfz12_1
   try clear hfz18_0
   try clear hfz18_1
   try clear hfz19_0
   try clear hfz19_1
   try clear hfz7_0
   try clear hfz7_1
   obtain ⟨kq, x29_4, rfl, HA, HJ4, BK210, BK215, HB⟩ := hcut
   cases kq with
   | zero => exact absurd HA.out (by simp [turnoutlaw01_WordBack.j0])
   | succ kj4 =>
    have H := HA.out
    clear HA
    simp only [turnoutlaw01_WordBack.j0] at H
    by_cases c20 : x29_4 = true
    ·
     subst c20
     have H1 : (some false) = some r := by rw [if_pos rfl] at H; exact H
     clear H; have H := H1; clear H1
     exact absurd ((Option.some.inj H).trans hr_.out) (by decide)
    ·
     replace c20 := Bool.eq_false_iff.mpr c20
     subst c20
     have H1 : ((word_Of.f kj4 a1).bind fun bt217 => (if (a1.size : Int) > 16 then (if bt217.2.2 = 5 then (some (bt217.1 == 0 && (bt217.2.1 == 0))) else (some false)) else ((word_Text.f bt217.1 bt217.2.1).bind fun t221 => (if bt217.2.2 = 0 then (if (t221.size : Int) = 16 then (if 0 ≤ (wrap64 (16 - (a1.size : Int))) then (if (wrap64 (16 - (a1.size : Int))) ≤ (t221.size : Int) then (turnoutlaw01_WordBack.j1 kj4 a1 t221 ((t221.extract ((wrap64 (16 - (a1.size : Int))) : Int).toNat t221.size).toList != a1.toList) bt217.1 bt217.2.1) else (none)) else (none)) else (turnoutlaw01_WordBack.j1 kj4 a1 t221 true bt217.1 bt217.2.1)) else (turnoutlaw01_WordBack.j1 kj4 a1 t221 true bt217.1 bt217.2.1))))) = some r := by rw [if_neg (show ¬ (false = true) by decide)] at H; exact H
     clear H; have H := H1; clear H1
     replace H := Option.bind_eq_some_iff.mp H
     obtain ⟨⟨t217, t218, t219⟩, A210, H⟩ := H
     replace H : (if (a1.size : Int) > 16 then (if t219 = 5 then (some (t217 == 0 && (t218 == 0))) else (some false)) else ((word_Text.f t217 t218).bind fun t221 => (if t219 = 0 then (if (t221.size : Int) = 16 then (if 0 ≤ (wrap64 (16 - (a1.size : Int))) then (if (wrap64 (16 - (a1.size : Int))) ≤ (t221.size : Int) then (turnoutlaw01_WordBack.j1 kj4 a1 t221 ((t221.extract ((wrap64 (16 - (a1.size : Int))) : Int).toNat t221.size).toList != a1.toList) t217 t218) else (none)) else (none)) else (turnoutlaw01_WordBack.j1 kj4 a1 t221 true t217 t218)) else (turnoutlaw01_WordBack.j1 kj4 a1 t221 true t217 t218)))) = some r := H
     have A21 := Aside0.mk A210
     clear A210
     by_cases c22 : (a1.size : Int) > 16
     ·
      rw [if_pos c22] at H
      have c22b0 : decide (16 < (a1.size : Int)) = true := decide_eq_true c22
      have c22b1 : decide (16 < a1.size) = true := decide_eq_true (by omega)
      clear c22
      by_cases c23 : t219 = 5
      ·
       rw [if_pos c23] at H
       have c23b0 : (t219 == 5) = true := beq_iff_eq.mpr c23
       have c23b1 : (t219 != 5) = false := bne_eq_false_iff_eq.mpr c23
       clear c23
       obtain rfl := Option.some.inj H
       go_wp2_with (first | ((with_reducible refine gate_callee (f := 35) rfl ?_); refine goesL_ (some 32) rfl rfl Try.func35 (by kernel_rfl) rfl #[.string a1] rfl (by (try simp only [List.map_toArray, List.map_cons, List.map_nil]); first | done | rfl | (simp only [List.length_drop, List.length_take]; rfl)) ?_; (with_reducible refine (word_Of.calls kj4 a1 t217 t218 t219 _ A21.out).mono ?_); rintro e w24 ⟨rfl, hb⟩; refine ⟨_, rfl, ?_⟩; replace BK210 := Aside0.mk (blk_below (bkA BK210.out) hb); replace BK215 := Aside0.mk (blk_below (bkA BK215.out) hb); replace HB := Aside0.mk (below_step (by repeat (first | (with_reducible first | exact HB.out | apply below_alloc | apply pw_below_drewN | apply below_drew1 | refine below_set ?_ GE210.out | refine below_set ?_ GE215.out) | exact HB.out)) hb); (try clear hb); (try clear hb2); (try clear hk); (try clear hi)) | ((with_reducible refine gate_dst (N := 7) rfl ?_); (try (refine gate_guard (by rfl) ?_; dsimp only)); refine box_event ?hg (N := 7) ?hd (cs := #[.int .u64 0, .int .u64 0]) (t := 24) ?hr ?_; (case hd => rfl); (case hg => rfl); (case hr => first | (go_simp; done) | (go_simp; rfl)); intro gb220 hg w25 hbox hb; have BK220 := Aside0.mk (hbox); have GW220 := Aside0.mk ((by rw [hg]; exact (below_size (by repeat (first | (with_reducible first | exact HB.out | apply below_alloc | apply pw_below_drewN | apply below_drew1 | refine below_set ?_ GE210.out | refine below_set ?_ GE215.out) | exact HB.out))) : w.heap.size ≤ gb220)); have GE220 := Aside0.mk ((by rw [hg]; exact (below_size (by repeat (first | (with_reducible first | exact HB.out | apply below_alloc | apply pw_below_drewN | apply below_drew1 | refine below_set ?_ GE210.out | refine below_set ?_ GE215.out) | exact HB.out))) : w.heap.size ≤ gb220)); replace HB := Aside0.mk (below_step (by repeat (first | (with_reducible first | exact HB.out | apply below_alloc | apply pw_below_drewN | apply below_drew1 | refine below_set ?_ GE210.out | refine below_set ?_ GE215.out) | exact HB.out)) hb); have NB210_220 := Aside0.mk ((by rw [hg]; exact Nat.ne_of_lt (blk_lt (bkA BK210.out)) : gb210 ≠ gb220)); have NB220_210 := Aside0.mk ((by rw [hg]; exact Nat.ne_of_gt (blk_lt (bkA BK210.out)) : gb220 ≠ gb210)); replace BK210 := Aside0.mk (blk_below (bkA BK210.out) hb); have NB215_220 := Aside0.mk ((by rw [hg]; exact Nat.ne_of_lt (blk_lt (bkA BK215.out)) : gb215 ≠ gb220)); have NB220_215 := Aside0.mk ((by rw [hg]; exact Nat.ne_of_gt (blk_lt (bkA BK215.out)) : gb220 ≠ gb215)); replace BK215 := Aside0.mk (blk_below (bkA BK215.out) hb); clear hb hbox hg; have hnb26 := NB220_210.out; have hnc26 := NB210_220.out; have hnb27 := NB220_215.out; have hnc27 := NB215_220.out; have hcz28_0 : w25.cell? ⟨gb220, 0, none⟩ = some (.int .u64 0) := (blk_cell BK220.out 0).trans rfl; have hcz28_1 : w25.cell? ⟨gb220, 1, none⟩ = some (.int .u64 0) := (blk_cell BK220.out 1).trans rfl; have hfz28_0 := blk_frozen BK220.out 0; have hfz28_1 := blk_frozen BK220.out 1))
       go_ret
       exact ⟨by first | rfl | (simp [errW_none, errW_some] <;> rfl) | (simp [*, errW_none, errW_some] <;> rfl), by repeat (first | (with_reducible first | exact HB.out | apply below_alloc | apply pw_below_drewN | apply below_drew1 | refine below_set ?_ GE210.out | refine below_set ?_ GE215.out | refine below_set ?_ GE220.out) | exact HB.out)⟩
      ·
       rw [if_neg c23] at H
       have c23b0 : (t219 == 5) = false := beq_eq_false_iff_ne.mpr c23
       have c23b1 : (t219 != 5) = true := bne_iff_ne.mpr c23
       exact absurd ((Option.some.inj H).trans hr_.out) (by decide)
     ·
      rw [if_neg c22] at H
      have c22b0 : decide (16 < (a1.size : Int)) = false := decide_eq_false c22
      have c22b1 : decide (16 < a1.size) = false := decide_eq_false (by omega)
      clear c22
      replace H := Option.bind_eq_some_iff.mp H
      obtain ⟨t221, A290, H⟩ := H
      replace H : (if t219 = 0 then (if (t221.size : Int) = 16 then (if 0 ≤ (wrap64 (16 - (a1.size : Int))) then (if (wrap64 (16 - (a1.size : Int))) ≤ (t221.size : Int) then (turnoutlaw01_WordBack.j1 kj4 a1 t221 ((t221.extract ((wrap64 (16 - (a1.size : Int))) : Int).toNat t221.size).toList != a1.toList) t217 t218) else (none)) else (none)) else (turnoutlaw01_WordBack.j1 kj4 a1 t221 true t217 t218)) else (turnoutlaw01_WordBack.j1 kj4 a1 t221 true t217 t218)) = some r := H
      have A29 := Aside0.mk A290
      clear A290
      have HC30 := Aside0.mk H
      clear H
      go_upto_region 8 with (first | ((with_reducible refine gate_callee (f := 35) rfl ?_); refine goesL_ (some 32) rfl rfl Try.func35 (by kernel_rfl) rfl #[.string a1] rfl (by (try simp only [List.map_toArray, List.map_cons, List.map_nil]); first | done | rfl | (simp only [List.length_drop, List.length_take]; rfl)) ?_; (with_reducible refine (word_Of.calls kj4 a1 t217 t218 t219 _ A21.out).mono ?_); rintro e w31 ⟨rfl, hb⟩; refine ⟨_, rfl, ?_⟩; replace BK210 := Aside0.mk (blk_below (bkA BK210.out) hb); replace BK215 := Aside0.mk (blk_below (bkA BK215.out) hb); replace HB := Aside0.mk (below_step (by repeat (first | (with_reducible first | exact HB.out | apply below_alloc | apply pw_below_drewN | apply below_drew1 | refine below_set ?_ GE210.out | refine below_set ?_ GE215.out) | exact HB.out)) hb); (try clear hb); (try clear hb2); (try clear hk); (try clear hi)) | ((with_reducible refine gate_dst (N := 7) rfl ?_); (try (refine gate_guard (by rfl) ?_; dsimp only)); refine box_event ?hg (N := 7) ?hd (cs := #[.int .u64 0, .int .u64 0]) (t := 24) ?hr ?_; (case hd => rfl); (case hg => rfl); (case hr => first | (go_simp; done) | (go_simp; rfl)); intro gb220 hg w32 hbox hb; have BK220 := Aside0.mk (hbox); have GW220 := Aside0.mk ((by rw [hg]; exact (below_size (by repeat (first | (with_reducible first | exact HB.out | apply below_alloc | apply pw_below_drewN | apply below_drew1 | refine below_set ?_ GE210.out | refine below_set ?_ GE215.out) | exact HB.out))) : w.heap.size ≤ gb220)); have GE220 := Aside0.mk ((by rw [hg]; exact (below_size (by repeat (first | (with_reducible first | exact HB.out | apply below_alloc | apply pw_below_drewN | apply below_drew1 | refine below_set ?_ GE210.out | refine below_set ?_ GE215.out) | exact HB.out))) : w.heap.size ≤ gb220)); replace HB := Aside0.mk (below_step (by repeat (first | (with_reducible first | exact HB.out | apply below_alloc | apply pw_below_drewN | apply below_drew1 | refine below_set ?_ GE210.out | refine below_set ?_ GE215.out) | exact HB.out)) hb); have NB210_220 := Aside0.mk ((by rw [hg]; exact Nat.ne_of_lt (blk_lt (bkA BK210.out)) : gb210 ≠ gb220)); have NB220_210 := Aside0.mk ((by rw [hg]; exact Nat.ne_of_gt (blk_lt (bkA BK210.out)) : gb220 ≠ gb210)); replace BK210 := Aside0.mk (blk_below (bkA BK210.out) hb); have NB215_220 := Aside0.mk ((by rw [hg]; exact Nat.ne_of_lt (blk_lt (bkA BK215.out)) : gb215 ≠ gb220)); have NB220_215 := Aside0.mk ((by rw [hg]; exact Nat.ne_of_gt (blk_lt (bkA BK215.out)) : gb220 ≠ gb215)); replace BK215 := Aside0.mk (blk_below (bkA BK215.out) hb); clear hb hbox hg; have hnb33 := NB220_210.out; have hnc33 := NB210_220.out; have hnb34 := NB220_215.out; have hnc34 := NB215_220.out; have hcz35_0 : w32.cell? ⟨gb220, 0, none⟩ = some (.int .u64 0) := (blk_cell BK220.out 0).trans rfl; have hcz35_1 : w32.cell? ⟨gb220, 1, none⟩ = some (.int .u64 0) := (blk_cell BK220.out 1).trans rfl; have hfz35_0 := blk_frozen BK220.out 0; have hfz35_1 := blk_frozen BK220.out 1) | ((with_reducible refine gate_callee (f := 37) rfl ?_); refine goesL_ (some 46) rfl rfl Try.func37 (by kernel_rfl) rfl #[.agg #[.int .u64 t217, .int .u64 t218]] rfl (by (try simp only [List.map_toArray, List.map_cons, List.map_nil]); first | done | rfl | (simp only [List.length_drop, List.length_take]; rfl)) ?_; (with_reducible refine (word_Text.calls t217 t218 t221 _ A29.out).mono ?_); rintro e w36 ⟨rfl, hb⟩; refine ⟨_, rfl, ?_⟩; replace BK210 := Aside0.mk (blk_below (g := gb210) (o := .cells #[.int .u64 a0_0, .int .u64 a0_1] 24 (0, 0)) (by (with_reducible repeat (first | refine blk_drewN ?_ _ | refine blk_drew ?_ | refine blk_alloc ?_ _)); refine blk_far ?_ NB210_220.out _; (with_reducible repeat (first | refine blk_drewN ?_ _ | refine blk_drew ?_ | refine blk_alloc ?_ _)); refine blk_far ?_ NB210_220.out _; (with_reducible repeat (first | refine blk_drewN ?_ _ | refine blk_drew ?_ | refine blk_alloc ?_ _)); exact BK210.out) hb); replace BK215 := Aside0.mk (blk_below (g := gb215) (o := .cells #[.int .u64 t212, .int .u64 t213] 24 (0, 0)) (by (with_reducible repeat (first | refine blk_drewN ?_ _ | refine blk_drew ?_ | refine blk_alloc ?_ _)); refine blk_far ?_ NB215_220.out _; (with_reducible repeat (first | refine blk_drewN ?_ _ | refine blk_drew ?_ | refine blk_alloc ?_ _)); refine blk_far ?_ NB215_220.out _; (with_reducible repeat (first | refine blk_drewN ?_ _ | refine blk_drew ?_ | refine blk_alloc ?_ _)); exact BK215.out) hb); replace BK220 := Aside0.mk (blk_below (g := gb220) (o := .cells #[.int .u64 t217, .int .u64 t218] 24 (0, 0)) (by (with_reducible repeat (first | refine blk_drewN ?_ _ | refine blk_drew ?_ | refine blk_alloc ?_ _)); refine blk_put (cs := #[.int .u64 t217, .int .u64 0]) ?_ 1 _ rfl; (with_reducible repeat (first | refine blk_drewN ?_ _ | refine blk_drew ?_ | refine blk_alloc ?_ _)); refine blk_put (cs := #[.int .u64 0, .int .u64 0]) ?_ 0 _ rfl; (with_reducible repeat (first | refine blk_drewN ?_ _ | refine blk_drew ?_ | refine blk_alloc ?_ _)); exact BK220.out) hb); replace HB := Aside0.mk (below_step (by repeat (first | (with_reducible first | exact HB.out | apply below_alloc | apply pw_below_drewN | apply below_drew1 | refine below_set ?_ GE210.out | refine below_set ?_ GE215.out | refine below_set ?_ GE220.out) | exact HB.out)) hb); (try clear hb); (try clear hb2); (try clear hk); (try clear hi)))
      (try simp only [Act.put, List.setIfInBounds_toArray, List.set_cons_zero, List.set_cons_succ])
      go_cut [62] (fun v62 wc => ∃ (kq : Nat) (x62_29 : Bool), v62 = .bool x62_29 ∧ Aside0 (turnoutlaw01_WordBack.j1 kq a1 t221 x62_29 t217 t218 = some r) ∧ Aside0 (kq ≤ kj4) ∧ Aside0 (wc.heap[gb210]? = some (.cells #[.int .u64 a0_0, .int .u64 a0_1] 24 (0, 0))) ∧ Aside0 (wc.heap[gb215]? = some (.cells #[.int .u64 t212, .int .u64 t213] 24 (0, 0))) ∧ Aside0 (wc.heap[gb220]? = some (.cells #[.int .u64 t217, .int .u64 t218] 24 (0, 0))) ∧ Aside0 (Below w.heap.size w wc))
      case first =>
       have H := HC30.out
       clear HC30
       by_cases c37 : t219 = 0
       ·
        rw [if_pos c37] at H
        have c37b0 : (t219 == 0) = true := beq_iff_eq.mpr c37
        have c37b1 : (t219 != 0) = false := bne_eq_false_iff_eq.mpr c37
        clear c37
        (first | rw [c37b0] | (simp only [i64_w, i32_w]; rw [c37b0]) | skip)
        by_cases c38 : (t221.size : Int) = 16
        ·
         rw [if_pos c38] at H
         have c38b0 : ((t221.size : Int) == 16) = true := beq_iff_eq.mpr c38
         have c38b1 : ((t221.size : Int) != 16) = false := bne_eq_false_iff_eq.mpr c38
         clear c38
         obtain ⟨ji39, hji39⟩ : ∃ j_ : Int, (wrap64 (16 - (a1.size : Int))) = j_ := ⟨_, rfl⟩
         replace H : (if 0 ≤ (ji39) then (if (ji39) ≤ (t221.size : Int) then (turnoutlaw01_WordBack.j1 kj4 a1 t221 ((t221.extract ((ji39) : Int).toNat t221.size).toList != a1.toList) t217 t218) else (none)) else (none)) = some r := by first | (rw [hji39] at H; exact H) | (simp only [hji39] at H ⊢; exact H)
         have hji39w : (IntKind.i64.wrap (16 - (a1.size : Int))) = ji39 := (i64_w _).trans hji39
         by_cases c40 : 0 ≤ (ji39)
         ·
          rw [if_pos c40] at H
          have c40b0 := eq_true c40
          have c40b1 : decide (0 ≤ (ji39)) = true := decide_eq_true c40
          clear c40
          by_cases c41 : (ji39) ≤ (t221.size : Int)
          ·
           rw [if_pos c41] at H
           have c41b0 := eq_true c41
           have c41b1 : decide ((ji39) ≤ (t221.size : Int)) = true := decide_eq_true c41
           clear c41
           obtain ⟨y222, hy222⟩ : ∃ y_ : ByteArray, (t221.extract ((ji39) : Int).toNat t221.size) = y_ := ⟨_, rfl⟩
           replace H : (turnoutlaw01_WordBack.j1 kj4 a1 t221 (y222.toList != a1.toList) t217 t218) = some r := by first | (rw [← hy222]; exact H) | exact H
           have H' := Aside0.mk H
           clear H
           go_wp2
           go_meet
           case rel => exact ⟨_, ((y222.toList != a1.toList)), (by first | rfl | (simp; done) | (simp [*]; done)), H', ⟨by have := HJ4.out; first | omega | exact Nat.le_refl _⟩, ⟨by (with_reducible repeat (first | refine blk_drewN ?_ _ | refine blk_drew ?_ | refine blk_alloc ?_ _)); exact BK210.out⟩, ⟨by (with_reducible repeat (first | refine blk_drewN ?_ _ | refine blk_drew ?_ | refine blk_alloc ?_ _)); exact BK215.out⟩, ⟨by (with_reducible repeat (first | refine blk_drewN ?_ _ | refine blk_drew ?_ | refine blk_alloc ?_ _)); exact BK220.out⟩, ⟨by repeat (first | (with_reducible first | exact HB.out | apply below_alloc | apply pw_below_drewN | apply below_drew1 | refine below_set ?_ GE210.out | refine below_set ?_ GE215.out | refine below_set ?_ GE220.out) | exact HB.out)⟩⟩
          ·
           rw [if_neg c41] at H
           exact absurd H (by simp)
         ·
          rw [if_neg c40] at H
          exact absurd H (by simp)
        ·
         rw [if_neg c38] at H
         have c38b0 : ((t221.size : Int) == 16) = false := beq_eq_false_iff_ne.mpr c38
         have c38b1 : ((t221.size : Int) != 16) = true := bne_iff_ne.mpr c38
         exact absurd hr_.out (by cases kj4 with | zero => simp [turnoutlaw01_WordBack.j1] at H | succ _ => simp only [turnoutlaw01_WordBack.j1] at H; (first | rw [if_pos rfl] at H | rw [if_pos trivial] at H); rw [← Option.some.inj H]; decide)
       ·
        rw [if_neg c37] at H
        have c37b0 : (t219 == 0) = false := beq_eq_false_iff_ne.mpr c37
        have c37b1 : (t219 != 0) = true := bne_iff_ne.mpr c37
        (first | rw [c37b0] | (simp only [i64_w, i32_w]; rw [c37b0]) | skip)
        exact absurd hr_.out (by cases kj4 with | zero => simp [turnoutlaw01_WordBack.j1] at H | succ _ => simp only [turnoutlaw01_WordBack.j1] at H; (first | rw [if_pos rfl] at H | rw [if_pos trivial] at H); rw [← Option.some.inj H]; decide)
      case rest =>
       clear HC30
       try clear c1
       try clear c2
       try clear p2
       try clear c3
       try clear c4
       try clear p6
       try clear c8
       try clear c11
       try clear c14
       try clear c15
       try clear c15b0
       try clear c15b1
       try clear c17
       try clear c20
       try clear c22
       try clear c22b0
       try clear c22b1
       try clear c23
       try clear c23b0
       try clear c23b1
       try clear c26
       try clear c27
       try clear c33
       try clear c34
       try clear c35
       try clear c37
       try clear c37b0
       try clear c37b1
       try clear c38
       try clear c38b0
       try clear c38b1
       try clear c40
       try clear c40b0
       try clear c40b1
       try clear c41
       try clear c41b0
       try clear c41b1
       try clear hcz12_0
       try clear hcz12_1
       try clear hcz18_0
       try clear hcz18_1
       try clear hcz19_0
       try clear hcz19_1
       try clear hcz28_0
       try clear hcz28_1
       try clear hcz35_0
       try clear hcz35_1
       try clear hcz7_0
       try clear hcz7_1
       try clear hfz12_0
       try clear hfz12_1
       try clear hfz18_0
       try clear hfz18_1
       try clear hfz19_0
       try clear hfz19_1
       try clear hfz28_0
       try clear hfz28_1
       try clear hfz35_0
       try clear hfz35_1
       try clear hfz7_0
       try clear hfz7_1
       try clear p2
       obtain ⟨kq, x62_29, rfl, HA, HJ29, BK210, BK215, BK220, HB⟩ := hcut
       cases kq with
       | zero => exact absurd HA.out (by simp [turnoutlaw01_WordBack.j1])
       | succ kj29 =>
        have H := HA.out
        clear HA
        simp only [turnoutlaw01_WordBack.j1] at H
        by_cases c42 : x62_29 = true
        ·
         subst c42
         have H1 : (some false) = some r := by rw [if_pos rfl] at H; exact H
         clear H; have H := H1; clear H1
         exact absurd ((Option.some.inj H).trans hr_.out) (by decide)
        ·
         replace c42 := Bool.eq_false_iff.mpr c42
         subst c42
         have H1 : (turnoutlaw01_WordBack.l0 kj29 a1 t221 0 t217 t218) = some r := by rw [if_neg (show ¬ (false = true) by decide)] at H; exact H
         clear H; have H := H1; clear H1
         have H' := Aside0.mk H
         clear H
         go_wp2
         go_loopg [10] kj29 (fun kq v10 w' => ∃ (x10_3 : Int), v10 = .int .i64 x10_3 ∧ Aside0 (turnoutlaw01_WordBack.l0 kq a1 t221 x10_3 t217 t218 = some r) ∧ Aside0 (kq ≤ kj29) ∧ Aside0 (w'.heap[gb210]? = some (.cells #[.int .u64 a0_0, .int .u64 a0_1] 24 (0, 0))) ∧ Aside0 (w'.heap[gb215]? = some (.cells #[.int .u64 t212, .int .u64 t213] 24 (0, 0))) ∧ Aside0 (w'.heap[gb220]? = some (.cells #[.int .u64 t217, .int .u64 t218] 24 (0, 0))) ∧ Aside0 (Below w.heap.size w w'))
         case atStart => exact ⟨(0), (by first | rfl | (simp; done) | (simp [*]; done)), H', ⟨Nat.le_refl _⟩, ⟨by (with_reducible repeat (first | refine blk_drewN ?_ _ | refine blk_drew ?_ | refine blk_alloc ?_ _)); exact BK210.out⟩, ⟨by (with_reducible repeat (first | refine blk_drewN ?_ _ | refine blk_drew ?_ | refine blk_alloc ?_ _)); exact BK215.out⟩, ⟨by (with_reducible repeat (first | refine blk_drewN ?_ _ | refine blk_drew ?_ | refine blk_alloc ?_ _)); exact BK220.out⟩, ⟨by repeat (first | (with_reducible first | exact HB.out | apply below_alloc | apply pw_below_drewN | apply below_drew1 | refine below_set ?_ GE210.out | refine below_set ?_ GE215.out | refine below_set ?_ GE220.out) | exact HB.out)⟩⟩
         case round =>
          clear H'
          try clear c1
          try clear c2
          try clear p2
          try clear c3
          try clear c4
          try clear p6
          try clear c8
          try clear c11
          try clear c14
          try clear c15
          try clear c15b0
          try clear c15b1
          try clear c17
          try clear c20
          try clear c22
          try clear c22b0
          try clear c22b1
          try clear c23
          try clear c23b0
          try clear c23b1
          try clear c26
          try clear c27
          try clear c33
          try clear c34
          try clear c35
          try clear c37
          try clear c37b0
          try clear c37b1
          try clear c38
          try clear c38b0
          try clear c38b1
          try clear c40
          try clear c40b0
          try clear c40b1
          try clear c41
          try clear c41b0
          try clear c41b1
          try clear c42
          try clear hcz12_0
          try clear hcz12_1
          try clear hcz18_0
          try clear hcz18_1
          try clear hcz19_0
          try clear hcz19_1
          try clear hcz28_0
          try clear hcz28_1
          try clear hcz35_0
          try clear hcz35_1
          try clear hcz7_0
          try clear hcz7_1
          try clear hfz12_0
          try clear hfz12_1
          try clear hfz18_0
          try clear hfz18_1
          try clear hfz19_0
          try clear hfz19_1
          try clear hfz28_0
          try clear hfz28_1
          try clear hfz35_0
          try clear hfz35_1
          try clear hfz7_0
          try clear hfz7_1
          try clear p2
          try clear p6
          obtain ⟨x10_3, rfl, HA, HK3, BK210, BK215, BK220, HB⟩ := hrel
          cases gk with
          | zero => exact absurd HA.out (by simp [turnoutlaw01_WordBack.l0])
          | succ k3 =>
           have H := HA.out
           clear HA
           simp only [turnoutlaw01_WordBack.l0] at H
           by_cases c43 : x10_3 < (wrap64 (16 - (a1.size : Int)))
           ·
            rw [if_pos c43] at H
            have c43b0 : decide (x10_3 < (wrap64 (16 - (a1.size : Int)))) = true := decide_eq_true c43
            clear c43
            by_cases c44 : 0 ≤ x10_3
            ·
             rw [if_pos c44] at H
             have c44b0 : decide (0 ≤ x10_3) = true := decide_eq_true c44
             clear c44
             by_cases c45 : x10_3 < (t221.size : Int)
             ·
              rw [if_pos c45] at H
              have c45b0 : decide (x10_3 < (t221.size : Int)) = true := decide_eq_true c45
              clear c45
              by_cases c47 : (bt t221 x10_3) = 0
              ·
               rw [if_pos c47] at H
               have c47b0 : ((bt t221 x10_3) == 0) = true := beq_iff_eq.mpr c47
               have c47b1 : ((bt t221 x10_3) != 0) = false := bne_eq_false_iff_eq.mpr c47
               clear c47
               have H' := Aside0.mk H
               clear H
               have p46 : 0 ≤ (x10_3 : Int) := of_decide_eq_true (by first | (with_reducible assumption) | assumption)
               have q46 : x10_3 < (t221.size : Int) := of_decide_eq_true (by first | (with_reducible assumption) | assumption)
               have hx46 := bt_at t221 x10_3
               replace p46 := eq_true p46
               replace q46 := eq_true q46
               go_wp2
               go_roundg k3
               case measure => have := HJ4.out; have := HJ29.out; have := HK3.out; omega
               case rel => exact ⟨(wrap64 (x10_3 + 1)), (by first | rfl | (simp; done) | (simp [*]; done)), H', ⟨by have := HJ4.out; have := HJ29.out; have := HK3.out; omega⟩, ⟨by (with_reducible repeat (first | refine blk_drewN ?_ _ | refine blk_drew ?_ | refine blk_alloc ?_ _)); exact BK210.out⟩, ⟨by (with_reducible repeat (first | refine blk_drewN ?_ _ | refine blk_drew ?_ | refine blk_alloc ?_ _)); exact BK215.out⟩, ⟨by (with_reducible repeat (first | refine blk_drewN ?_ _ | refine blk_drew ?_ | refine blk_alloc ?_ _)); exact BK220.out⟩, ⟨by repeat (first | (with_reducible first | exact HB.out | apply below_alloc | apply pw_below_drewN | apply below_drew1 | refine below_set ?_ GE210.out | refine below_set ?_ GE215.out | refine below_set ?_ GE220.out) | exact HB.out)⟩⟩
              ·
               rw [if_neg c47] at H
               have c47b0 : ((bt t221 x10_3) == 0) = false := beq_eq_false_iff_ne.mpr c47
               have c47b1 : ((bt t221 x10_3) != 0) = true := bne_iff_ne.mpr c47
               exact absurd ((Option.some.inj H).trans hr_.out) (by decide)
             ·
              rw [if_neg c45] at H
              exact absurd H (by simp)
            ·
             rw [if_neg c44] at H
             exact absurd H (by simp)
           ·
            rw [if_neg c43] at H
            have c43b0 : decide (x10_3 < (wrap64 (16 - (a1.size : Int)))) = false := decide_eq_false c43
            clear c43
            replace H := Option.bind_eq_some_iff.mp H
            obtain ⟨⟨t223, t224, t225⟩, A480, H⟩ := H
            replace H : (if t225 = 0 then (if (t223 == t217 && (t224 == t218)) = true then ((word_Size.f k3 t217 t218).bind fun t227 => (some (decide (t227 ≤ (wrap64 (8 * (a1.size : Int))))))) else (some false)) else (some false)) = some r := H
            have A48 := Aside0.mk A480
            clear A480
            by_cases c49 : t225 = 0
            ·
             rw [if_pos c49] at H
             have c49b0 : (t225 == 0) = true := beq_iff_eq.mpr c49
             have c49b1 : (t225 != 0) = false := bne_eq_false_iff_eq.mpr c49
             clear c49
             by_cases c50 : (t223 == t217 && (t224 == t218)) = true
             ·
              rw [if_pos c50] at H
              have c50b0 : (t223 == t217 && (t224 == t218)) = true := c50
              (try (have c50b1 : decide (t223 = t217 && (t224 == t218)) = true := by simpa using c50))
              (try (have c50b2 : (t223 == t217 && (t224 == t218)) = true := by simpa using c50))
              clear c50
              replace H := Option.bind_eq_some_iff.mp H
              obtain ⟨t227, A510, H⟩ := H
              replace H : (some (decide (t227 ≤ (wrap64 (8 * (a1.size : Int)))))) = some r := H
              have A51 := Aside0.mk A510
              clear A510
              obtain rfl := Option.some.inj H
              go_wp2_with (first | ((with_reducible refine gate_callee (f := 35) rfl ?_); refine goesL_ (some 76) rfl rfl Try.func35 (by kernel_rfl) rfl #[.string t221] rfl (by (try simp only [List.map_toArray, List.map_cons, List.map_nil]); first | done | rfl | (simp only [List.length_drop, List.length_take]; rfl)) ?_; (with_reducible refine (word_Of.calls k3 t221 t223 t224 t225 _ A48.out).mono ?_); rintro e w52 ⟨rfl, hb⟩; refine ⟨_, rfl, ?_⟩; replace BK210 := Aside0.mk (blk_below (bkA BK210.out) hb); replace BK215 := Aside0.mk (blk_below (bkA BK215.out) hb); replace BK220 := Aside0.mk (blk_below (bkA BK220.out) hb); replace HB := Aside0.mk (below_step (by repeat (first | (with_reducible first | exact HB.out | apply below_alloc | apply pw_below_drewN | apply below_drew1 | refine below_set ?_ GE210.out | refine below_set ?_ GE215.out | refine below_set ?_ GE220.out) | exact HB.out)) hb); (try clear hb); (try clear hb2); (try clear hk); (try clear hi)) | ((with_reducible refine gate_dst (N := 11) rfl ?_); (try (refine gate_guard (by rfl) ?_; dsimp only)); refine box_event ?hg (N := 11) ?hd (cs := #[.int .u64 0, .int .u64 0]) (t := 24) ?hr ?_; (case hd => rfl); (case hg => rfl); (case hr => first | (go_simp; done) | (go_simp; rfl)); intro gb226 hg w53 hbox hb; have BK226 := Aside0.mk (hbox); have GW226 := Aside0.mk ((by rw [hg]; exact (below_size (by repeat (first | (with_reducible first | exact HB.out | apply below_alloc | apply pw_below_drewN | apply below_drew1 | refine below_set ?_ GE210.out | refine below_set ?_ GE215.out | refine below_set ?_ GE220.out) | exact HB.out))) : w.heap.size ≤ gb226)); have GE226 := Aside0.mk ((by rw [hg]; exact (below_size (by repeat (first | (with_reducible first | exact HB.out | apply below_alloc | apply pw_below_drewN | apply below_drew1 | refine below_set ?_ GE210.out | refine below_set ?_ GE215.out | refine below_set ?_ GE220.out) | exact HB.out))) : w.heap.size ≤ gb226)); replace HB := Aside0.mk (below_step (by repeat (first | (with_reducible first | exact HB.out | apply below_alloc | apply pw_below_drewN | apply below_drew1 | refine below_set ?_ GE210.out | refine below_set ?_ GE215.out | refine below_set ?_ GE220.out) | exact HB.out)) hb); have NB210_226 := Aside0.mk ((by rw [hg]; exact Nat.ne_of_lt (blk_lt (bkA BK210.out)) : gb210 ≠ gb226)); have NB226_210 := Aside0.mk ((by rw [hg]; exact Nat.ne_of_gt (blk_lt (bkA BK210.out)) : gb226 ≠ gb210)); replace BK210 := Aside0.mk (blk_below (bkA BK210.out) hb); have NB215_226 := Aside0.mk ((by rw [hg]; exact Nat.ne_of_lt (blk_lt (bkA BK215.out)) : gb215 ≠ gb226)); have NB226_215 := Aside0.mk ((by rw [hg]; exact Nat.ne_of_gt (blk_lt (bkA BK215.out)) : gb226 ≠ gb215)); replace BK215 := Aside0.mk (blk_below (bkA BK215.out) hb); have NB220_226 := Aside0.mk ((by rw [hg]; exact Nat.ne_of_lt (blk_lt (bkA BK220.out)) : gb220 ≠ gb226)); have NB226_220 := Aside0.mk ((by rw [hg]; exact Nat.ne_of_gt (blk_lt (bkA BK220.out)) : gb226 ≠ gb220)); replace BK220 := Aside0.mk (blk_below (bkA BK220.out) hb); clear hb hbox hg; have hnb54 := NB226_210.out; have hnc54 := NB210_226.out; have hnb55 := NB226_215.out; have hnc55 := NB215_226.out; have hnb56 := NB226_220.out; have hnc56 := NB220_226.out; have hcz57_0 : w53.cell? ⟨gb226, 0, none⟩ = some (.int .u64 0) := (blk_cell BK226.out 0).trans rfl; have hcz57_1 : w53.cell? ⟨gb226, 1, none⟩ = some (.int .u64 0) := (blk_cell BK226.out 1).trans rfl; have hfz57_0 := blk_frozen BK226.out 0; have hfz57_1 := blk_frozen BK226.out 1; have hnb58 := NB220_210.out; have hnc58 := NB210_220.out; have hnb59 := NB220_215.out; have hnc59 := NB215_220.out; have hcz60_0 : w53.cell? ⟨gb220, 0, none⟩ = some (.int .u64 t217) := (blk_cell BK220.out 0).trans rfl; have hcz60_1 : w53.cell? ⟨gb220, 1, none⟩ = some (.int .u64 t218) := (blk_cell BK220.out 1).trans rfl; have hfz60_0 := blk_frozen BK220.out 0; have hfz60_1 := blk_frozen BK220.out 1) | (go_at_call 39; (with_reducible refine (word_Size.calls k3 t217 t218 t227 _ A51.out).mono ?_); rintro e w61 ⟨rfl, hb⟩; replace BK210 := Aside0.mk (blk_below (g := gb210) (o := .cells #[.int .u64 a0_0, .int .u64 a0_1] 24 (0, 0)) (by (with_reducible repeat (first | refine blk_drewN ?_ _ | refine blk_drew ?_ | refine blk_alloc ?_ _)); refine blk_far ?_ NB210_226.out _; (with_reducible repeat (first | refine blk_drewN ?_ _ | refine blk_drew ?_ | refine blk_alloc ?_ _)); refine blk_far ?_ NB210_226.out _; (with_reducible repeat (first | refine blk_drewN ?_ _ | refine blk_drew ?_ | refine blk_alloc ?_ _)); exact BK210.out) hb); replace BK215 := Aside0.mk (blk_below (g := gb215) (o := .cells #[.int .u64 t212, .int .u64 t213] 24 (0, 0)) (by (with_reducible repeat (first | refine blk_drewN ?_ _ | refine blk_drew ?_ | refine blk_alloc ?_ _)); refine blk_far ?_ NB215_226.out _; (with_reducible repeat (first | refine blk_drewN ?_ _ | refine blk_drew ?_ | refine blk_alloc ?_ _)); refine blk_far ?_ NB215_226.out _; (with_reducible repeat (first | refine blk_drewN ?_ _ | refine blk_drew ?_ | refine blk_alloc ?_ _)); exact BK215.out) hb); replace BK220 := Aside0.mk (blk_below (g := gb220) (o := .cells #[.int .u64 t217, .int .u64 t218] 24 (0, 0)) (by (with_reducible repeat (first | refine blk_drewN ?_ _ | refine blk_drew ?_ | refine blk_alloc ?_ _)); refine blk_far ?_ NB220_226.out _; (with_reducible repeat (first | refine blk_drewN ?_ _ | refine blk_drew ?_ | refine blk_alloc ?_ _)); refine blk_far ?_ NB220_226.out _; (with_reducible repeat (first | refine blk_drewN ?_ _ | refine blk_drew ?_ | refine blk_alloc ?_ _)); exact BK220.out) hb); replace BK226 := Aside0.mk (blk_below (g := gb226) (o := .cells #[.int .u64 t223, .int .u64 t224] 24 (0, 0)) (by (with_reducible repeat (first | refine blk_drewN ?_ _ | refine blk_drew ?_ | refine blk_alloc ?_ _)); refine blk_put (cs := #[.int .u64 t223, .int .u64 0]) ?_ 1 _ rfl; (with_reducible repeat (first | refine blk_drewN ?_ _ | refine blk_drew ?_ | refine blk_alloc ?_ _)); refine blk_put (cs := #[.int .u64 0, .int .u64 0]) ?_ 0 _ rfl; (with_reducible repeat (first | refine blk_drewN ?_ _ | refine blk_drew ?_ | refine blk_alloc ?_ _)); exact BK226.out) hb); replace HB := Aside0.mk (below_step (by repeat (first | (with_reducible first | exact HB.out | apply below_alloc | apply pw_below_drewN | apply below_drew1 | refine below_set ?_ GE210.out | refine below_set ?_ GE215.out | refine below_set ?_ GE220.out | refine below_set ?_ GE226.out) | exact HB.out)) hb); (try clear hb); (try clear hb2); (try clear hk); (try clear hi)))
              go_ret
              exact ⟨by first | rfl | (simp [errW_none, errW_some] <;> rfl) | (simp [*, errW_none, errW_some] <;> rfl), by repeat (first | (with_reducible first | exact HB.out | apply below_alloc | apply pw_below_drewN | apply below_drew1 | refine below_set ?_ GE210.out | refine below_set ?_ GE215.out | refine below_set ?_ GE220.out | refine below_set ?_ GE226.out) | exact HB.out)⟩
             ·
              rw [if_neg c50] at H
              have c50b0 : (t223 == t217 && (t224 == t218)) = false := by simpa using c50
              (try (have c50b1 : decide (t223 = t217 && (t224 == t218)) = false := by simpa using c50))
              (try (have c50b2 : (t223 == t217 && (t224 == t218)) = false := by simpa using c50))
              (try (have c50b3 : ¬ (t223 = t217 && (t224 == t218)) := by simpa using c50))
              clear c50
              exact absurd ((Option.some.inj H).trans hr_.out) (by decide)
            ·
             rw [if_neg c49] at H
             have c49b0 : (t225 == 0) = false := beq_eq_false_iff_ne.mpr c49
             have c49b1 : (t225 != 0) = true := bne_iff_ne.mpr c49
             exact absurd ((Option.some.inj H).trans hr_.out) (by decide)

/-- THE ONE PURE STATEMENT of turnoutlaw01_WordBack: yours. -/
def turnoutlaw01_WordBack.Pure : Prop := (∀ (a0_0 : Int) (a0_1 : Int) (a1 : ByteArray), (Lit.int .u64 a0_0).wf = true → (Lit.int .u64 a0_1).wf = true → a1.size ≤ 140737488351232 → ∃ k, turnoutlaw01_WordBack.f k a0_0 a0_1 a1 = some true) ∧ (∀ k r, turnoutlaw01_awake.f k = some r → r = true)
theorem turnoutlaw01_WordBack.walk (P : turnoutlaw01_WordBack.Pure) (a0_0 : Int) (a0_1 : Int) (a1 : ByteArray) (w : World) (w0_0 : (Lit.int .u64 a0_0).wf = true) (w0_1 : (Lit.int .u64 a0_1).wf = true) (w1 : a1.size ≤ 140737488351232) :
   Calls Try.prog 8 #[.agg #[.int .u64 a0_0, .int .u64 a0_1], .string a1] w fun e w' => e = .returned (.bool true) ∧ Below w.heap.size w w' := by
  obtain ⟨k, h⟩ := P.1 a0_0 a0_1 a1 w0_0 w0_1 w1
  refine (turnoutlaw01_WordBack.calls k a0_0 a0_1 a1 true w h ⟨rfl⟩ ⟨P.2⟩).mono ?_
  rintro e w' ⟨rfl, hd⟩
  exact ⟨rfl, hd⟩

end Go.Proofs.Ytmplgmlfpfopbaa.PWordT
