-- Written by wip/turnprint.py, a program of this session (the kit's print, turned).
import Derived.Test.YtgpahhobifdapaaPFieldx0
import Derived.Test.YtgpahhobifdapaaPFieldx1
import Derived.Test.YtgpahhobifdapaaPFieldx2
import Derived.Test.YtgpahhobifdapaaPFieldx3
import Derived.Test.YtgpahhobifdapaaPFieldx5
import Derived.Test.YtgpahhobifdapaaPFieldx6
namespace Go.Proofs.Ytgpahhobifdapaa.PField
open Go.RowKit Go.Proofs.YtgpahhobifdapaaW.PrintWords Go.Proofs.YtgpahhobifdapaaW.PrintLast Go.Proofs.YtgpahhobifdapaaW.PrintMore
attribute [local go_sem] max2_int min2_int max_two min_two max_three min_three max_four min_four   -- for this text's walks alone
set_option linter.unusedVariables false
set_option linter.unusedSimpArgs false

attribute [local go_sem high] eqA25
attribute [local go_sem high] xorA_u8 xorA_u16 xorA_u32 xorA_u64
/-! ### turnoutlaw02_FieldPuts: function 4 -/
def turnoutlaw02_FieldPuts.f (k : Nat) (a0 : ByteArray) (a1 : Int) (a2 : Int) (a3_0 : Int) (a3_1 : Int) : Option (Bool) := if (a0.size : Int) > 3000 then ((turnoutlaw02_awake.f k).bind fun t203 => (some t203)) else ((field_Put.f k a0 a1 a2 a3_0 a3_1).bind fun bt204 => ((turnoutref02_Put.f k a0 a1 a2 a3_0 a3_1).bind fun bt206 => (if bt204.1.toList = bt206.1.toList then (if bt204.2 = bt206.2 then ((turnoutlaw02_awake.f k).bind fun t208 => (some t208)) else (some false)) else (some false))))
theorem turnoutlaw02_FieldPuts.mono : ∀ a0 a1 a2 a3 a4 k, LeO (turnoutlaw02_FieldPuts.f k a0 a1 a2 a3 a4) (turnoutlaw02_FieldPuts.f (k + 1) a0 a1 a2 a3 a4) := by
  intro a0 a1 a2 a3 a4 k
  unfold turnoutlaw02_FieldPuts.f
  repeat' first
    | (with_reducible exact field_Put.mono _ _ _ _ _ _)
    | (with_reducible exact turnoutlaw02_awake.mono _)
    | (with_reducible exact turnoutref02_Put.mono _ _ _ _ _ _)
    | (with_reducible exact LeO.refl _)
    | (with_reducible exact LeO.none _)
    | (with_reducible refine LeO.ite ?_ ?_)
    | (with_reducible refine LeO.bind ?_ (fun _ => ?_))
    | exact field_Put.mono _ _ _ _ _ _
    | exact turnoutlaw02_awake.mono _
    | exact turnoutref02_Put.mono _ _ _ _ _ _
    | exact LeO.none _
    | refine LeO.ite ?_ ?_
    | refine LeO.bind ?_ (fun _ => ?_)
set_option maxHeartbeats 8000000 in
set_option maxRecDepth 100000 in
theorem turnoutlaw02_FieldPuts.calls (k : Nat) (a0 : ByteArray) (a1 : Int) (a2 : Int) (a3_0 : Int) (a3_1 : Int) (r : Bool) (w : World) (h : turnoutlaw02_FieldPuts.f k a0 a1 a2 a3_0 a3_1 = some r) (hr_ : Aside0 (r = true)) (HAW12 : Aside0 (∀ k r, turnoutlaw02_awake.f k = some r → r = true)) :
   Calls Try.prog 4 #[.string a0, .int .i64 a1, .int .i64 a2, .agg #[.int .u64 a3_0, .int .u64 a3_1]] w fun e w' => e = .returned (.bool r) ∧ Below w.heap.size w w' := by
  have hu25 := Try.underlying25
  have HB := Aside0.mk (Below.refl w.heap.size w)
  have H : (if (a0.size : Int) > 3000 then ((turnoutlaw02_awake.f k).bind fun t203 => (some t203)) else ((field_Put.f k a0 a1 a2 a3_0 a3_1).bind fun bt204 => ((turnoutref02_Put.f k a0 a1 a2 a3_0 a3_1).bind fun bt206 => (if bt204.1.toList = bt206.1.toList then (if bt204.2 = bt206.2 then ((turnoutlaw02_awake.f k).bind fun t208 => (some t208)) else (some false)) else (some false))))) = some r := h
  clear h
  by_cases c5 : (a0.size : Int) > 3000
  ·
   rw [if_pos c5] at H
   have c5b0 : decide (3000 < (a0.size : Int)) = true := decide_eq_true c5
   have c5b1 : decide (3000 < a0.size) = true := decide_eq_true (by omega)
   clear c5
   replace H := Option.bind_eq_some_iff.mp H
   obtain ⟨t203, A60, H⟩ := H
   replace H : (some t203) = some r := H
   have A6 := Aside0.mk A60
   clear A60
   obtain rfl := Option.some.inj H
   go_enter Try.func4, Try.ntmps4
   go_wp2_with (first | ((with_reducible refine gate_dst (N := 7) rfl ?_); refine box_event ?hg (N := 7) ?hd (cs := #[.int .u64 a3_0, .int .u64 a3_1]) (t := 25) ?hr ?_; (case hd => rfl); (case hg => rfl); (case hr => first | (go_simp; done) | (go_simp; rfl)); intro gb202 hg w7 hbox hb; have BK202 := Aside0.mk (hbox); have GW202 := Aside0.mk ((by rw [hg]; exact (below_size (by repeat (first | (with_reducible first | exact HB.out | apply below_alloc | apply pw_below_drewN | apply below_drew1) | exact HB.out))) : w.heap.size ≤ gb202)); have GE202 := Aside0.mk ((by rw [hg]; exact (below_size (by repeat (first | (with_reducible first | exact HB.out | apply below_alloc | apply pw_below_drewN | apply below_drew1) | exact HB.out))) : w.heap.size ≤ gb202)); replace HB := Aside0.mk (below_step (by repeat (first | (with_reducible first | exact HB.out | apply below_alloc | apply pw_below_drewN | apply below_drew1) | exact HB.out)) hb); clear hb hbox hg) | ((with_reducible refine gate_callee (f := 12) rfl ?_); refine goesL_ (some 16) rfl rfl Try.func12 (by kernel_rfl) rfl #[] rfl (by (try simp only [List.map_toArray, List.map_cons, List.map_nil]); first | done | rfl | (simp only [List.length_drop, List.length_take]; rfl)) ?_; (with_reducible refine (turnoutlaw02_awake.calls k  t203 _ A6.out ⟨HAW12.out _ _ A6.out⟩).mono ?_); rintro e w8 ⟨rfl, hb⟩; refine ⟨_, rfl, ?_⟩; replace BK202 := Aside0.mk (blk_below (bkA BK202.out) hb); replace HB := Aside0.mk (below_step (by repeat (first | (with_reducible first | exact HB.out | apply below_alloc | apply pw_below_drewN | apply below_drew1 | refine below_set ?_ GE202.out) | exact HB.out)) hb); (try clear hb); (try clear hb2); (try clear hk); (try clear hi)))
   go_ret
   exact ⟨by first | rfl | (simp [errW_none, errW_some] <;> rfl) | (simp [*, errW_none, errW_some] <;> rfl), by repeat (first | (with_reducible first | exact HB.out | apply below_alloc | apply pw_below_drewN | apply below_drew1 | refine below_set ?_ GE202.out) | exact HB.out)⟩
  ·
   rw [if_neg c5] at H
   have c5b0 : decide (3000 < (a0.size : Int)) = false := decide_eq_false c5
   have c5b1 : decide (3000 < a0.size) = false := decide_eq_false (by omega)
   clear c5
   replace H := Option.bind_eq_some_iff.mp H
   obtain ⟨⟨t204, t205⟩, A90, H⟩ := H
   replace H : ((turnoutref02_Put.f k a0 a1 a2 a3_0 a3_1).bind fun bt206 => (if t204.toList = bt206.1.toList then (if t205 = bt206.2 then ((turnoutlaw02_awake.f k).bind fun t208 => (some t208)) else (some false)) else (some false))) = some r := H
   have A9 := Aside0.mk A90
   clear A90
   replace H := Option.bind_eq_some_iff.mp H
   obtain ⟨⟨t206, t207⟩, A100, H⟩ := H
   replace H : (if t204.toList = t206.toList then (if t205 = t207 then ((turnoutlaw02_awake.f k).bind fun t208 => (some t208)) else (some false)) else (some false)) = some r := H
   have A10 := Aside0.mk A100
   clear A100
   by_cases c11 : t204.toList = t206.toList
   ·
    rw [if_pos c11] at H
    have c11b0 : (t204.toList == t206.toList) = true := beq_iff_eq.mpr c11
    have c11b1 : (t204.toList != t206.toList) = false := bne_eq_false_iff_eq.mpr c11
    clear c11
    by_cases c12 : t205 = t207
    ·
     rw [if_pos c12] at H
     have c12b0 : (t205 == t207) = true := beq_iff_eq.mpr c12
     have c12b1 : (t205 != t207) = false := bne_eq_false_iff_eq.mpr c12
     clear c12
     replace H := Option.bind_eq_some_iff.mp H
     obtain ⟨t208, A130, H⟩ := H
     replace H : (some t208) = some r := H
     have A13 := Aside0.mk A130
     clear A130
     obtain rfl := Option.some.inj H
     go_enter Try.func4, Try.ntmps4
     go_wp2_with (first | ((with_reducible refine gate_dst (N := 7) rfl ?_); refine box_event ?hg (N := 7) ?hd (cs := #[.int .u64 a3_0, .int .u64 a3_1]) (t := 25) ?hr ?_; (case hd => rfl); (case hg => rfl); (case hr => first | (go_simp; done) | (go_simp; rfl)); intro gb202 hg w14 hbox hb; have BK202 := Aside0.mk (hbox); have GW202 := Aside0.mk ((by rw [hg]; exact (below_size (by repeat (first | (with_reducible first | exact HB.out | apply below_alloc | apply pw_below_drewN | apply below_drew1) | exact HB.out))) : w.heap.size ≤ gb202)); have GE202 := Aside0.mk ((by rw [hg]; exact (below_size (by repeat (first | (with_reducible first | exact HB.out | apply below_alloc | apply pw_below_drewN | apply below_drew1) | exact HB.out))) : w.heap.size ≤ gb202)); replace HB := Aside0.mk (below_step (by repeat (first | (with_reducible first | exact HB.out | apply below_alloc | apply pw_below_drewN | apply below_drew1) | exact HB.out)) hb); clear hb hbox hg; have hcz15_0 : w14.cell? ⟨gb202, 0, none⟩ = some (.int .u64 a3_0) := (blk_cell BK202.out 0).trans rfl; have hcz15_1 : w14.cell? ⟨gb202, 1, none⟩ = some (.int .u64 a3_1) := (blk_cell BK202.out 1).trans rfl; have hfz15_0 := blk_frozen BK202.out 0; have hfz15_1 := blk_frozen BK202.out 1) | ((with_reducible refine gate_callee (f := 15) rfl ?_); refine goesL_ (some 22) rfl rfl Try.func15 (by kernel_rfl) rfl #[.string a0, .int .i64 a1, .int .i64 a2, .agg #[.int .u64 a3_0, .int .u64 a3_1]] rfl (by (try simp only [List.map_toArray, List.map_cons, List.map_nil]); first | done | rfl | (simp only [List.length_drop, List.length_take]; rfl)) ?_; (with_reducible refine (field_Put.calls k a0 a1 a2 a3_0 a3_1 t204 t205 _ A9.out).mono ?_); rintro e w16 ⟨rfl, hb⟩; refine ⟨_, rfl, ?_⟩; replace BK202 := Aside0.mk (blk_below (bkA BK202.out) hb); replace HB := Aside0.mk (below_step (by repeat (first | (with_reducible first | exact HB.out | apply below_alloc | apply pw_below_drewN | apply below_drew1 | refine below_set ?_ GE202.out) | exact HB.out)) hb); (try clear hb); (try clear hb2); (try clear hk); (try clear hi); have hcz17_0 : w16.cell? ⟨gb202, 0, none⟩ = some (.int .u64 a3_0) := (blk_cell BK202.out 0).trans rfl; have hcz17_1 : w16.cell? ⟨gb202, 1, none⟩ = some (.int .u64 a3_1) := (blk_cell BK202.out 1).trans rfl; have hfz17_0 := blk_frozen BK202.out 0; have hfz17_1 := blk_frozen BK202.out 1) | ((with_reducible refine gate_callee (f := 16) rfl ?_); refine goesL_ (some 30) rfl rfl Try.func16 (by kernel_rfl) rfl #[.string a0, .int .i64 a1, .int .i64 a2, .agg #[.int .u64 a3_0, .int .u64 a3_1]] rfl (by (try simp only [List.map_toArray, List.map_cons, List.map_nil]); first | done | rfl | (simp only [List.length_drop, List.length_take]; rfl)) ?_; (with_reducible refine (turnoutref02_Put.calls k a0 a1 a2 a3_0 a3_1 t206 t207 _ A10.out).mono ?_); rintro e w18 ⟨rfl, hb⟩; refine ⟨_, rfl, ?_⟩; replace BK202 := Aside0.mk (blk_below (bkA BK202.out) hb); replace HB := Aside0.mk (below_step (by repeat (first | (with_reducible first | exact HB.out | apply below_alloc | apply pw_below_drewN | apply below_drew1 | refine below_set ?_ GE202.out) | exact HB.out)) hb); (try clear hb); (try clear hb2); (try clear hk); (try clear hi)) | (go_at_call 12; (with_reducible refine (turnoutlaw02_awake.calls k  t208 _ A13.out ⟨HAW12.out _ _ A13.out⟩).mono ?_); rintro e w19 ⟨rfl, hb⟩; replace BK202 := Aside0.mk (blk_below (bkA BK202.out) hb); replace HB := Aside0.mk (below_step (by repeat (first | (with_reducible first | exact HB.out | apply below_alloc | apply pw_below_drewN | apply below_drew1 | refine below_set ?_ GE202.out) | exact HB.out)) hb); (try clear hb); (try clear hb2); (try clear hk); (try clear hi)))
     go_ret
     exact ⟨by first | rfl | (simp [errW_none, errW_some] <;> rfl) | (simp [*, errW_none, errW_some] <;> rfl), by repeat (first | (with_reducible first | exact HB.out | apply below_alloc | apply pw_below_drewN | apply below_drew1 | refine below_set ?_ GE202.out) | exact HB.out)⟩
    ·
     rw [if_neg c12] at H
     have c12b0 : (t205 == t207) = false := beq_eq_false_iff_ne.mpr c12
     have c12b1 : (t205 != t207) = true := bne_iff_ne.mpr c12
     exact absurd ((Option.some.inj H).trans hr_.out) (by decide)
   ·
    rw [if_neg c11] at H
    have c11b0 : (t204.toList == t206.toList) = false := beq_eq_false_iff_ne.mpr c11
    have c11b1 : (t204.toList != t206.toList) = true := bne_iff_ne.mpr c11
    exact absurd ((Option.some.inj H).trans hr_.out) (by decide)

/-- THE ONE PURE STATEMENT of turnoutlaw02_FieldPuts: yours. -/
def turnoutlaw02_FieldPuts.Pure : Prop := (∀ (a0 : ByteArray) (a1 : Int) (a2 : Int) (a3_0 : Int) (a3_1 : Int), a0.size ≤ 140737488351232 → (Lit.int .i64 a1).wf = true → (Lit.int .i64 a2).wf = true → (Lit.int .u64 a3_0).wf = true → (Lit.int .u64 a3_1).wf = true → ∃ k, turnoutlaw02_FieldPuts.f k a0 a1 a2 a3_0 a3_1 = some true) ∧ (∀ k r, turnoutlaw02_awake.f k = some r → r = true)
theorem turnoutlaw02_FieldPuts.walk (P : turnoutlaw02_FieldPuts.Pure) (a0 : ByteArray) (a1 : Int) (a2 : Int) (a3_0 : Int) (a3_1 : Int) (w : World) (w0 : a0.size ≤ 140737488351232) (w1 : (Lit.int .i64 a1).wf = true) (w2 : (Lit.int .i64 a2).wf = true) (w3_0 : (Lit.int .u64 a3_0).wf = true) (w3_1 : (Lit.int .u64 a3_1).wf = true) :
   Calls Try.prog 4 #[.string a0, .int .i64 a1, .int .i64 a2, .agg #[.int .u64 a3_0, .int .u64 a3_1]] w fun e w' => e = .returned (.bool true) ∧ Below w.heap.size w w' := by
  obtain ⟨k, h⟩ := P.1 a0 a1 a2 a3_0 a3_1 w0 w1 w2 w3_0 w3_1
  refine (turnoutlaw02_FieldPuts.calls k a0 a1 a2 a3_0 a3_1 true w h ⟨rfl⟩ ⟨P.2⟩).mono ?_
  rintro e w' ⟨rfl, hd⟩
  exact ⟨rfl, hd⟩

/-! ### turnoutlaw02_FieldBack: function 5 -/
mutual
def turnoutlaw02_FieldBack.j0 : Nat → ByteArray → Int → Int → Int → Bool → Int → Int → Option (Bool)
  | 0, _, _, _, _, _, _, _ => none
  | k + 1, x0, x1, x2, x4, x26, x210000, x210001 => if x26 = true then ((turnoutlaw02_awake.f k).bind fun t211 => (some t211)) else ((field_Put.f k x0 x1 x2 x210000 x210001).bind fun bt212 => (if bt212.2 = 0 then ((field_Get.f k bt212.1 x1 x2).bind fun bt214 => (if bt214.2.2 = 0 then ((word_Cut.f x210000 x210001 x2).bind fun bt218 => (if (!(bt214.1 == bt218.1) || (!(bt214.2.1 == bt218.2))) = true then (turnoutlaw02_FieldBack.j1 k x0 x1 x2 x4 bt212.1 true) else (turnoutlaw02_FieldBack.j1 k x0 x1 x2 x4 bt212.1 ((bt212.1.size : Int) != (x0.size : Int))))) else (turnoutlaw02_FieldBack.j1 k x0 x1 x2 x4 bt212.1 true))) else (some (bt212.1.toList == ([] : List UInt8)))))
def turnoutlaw02_FieldBack.j1 : Nat → ByteArray → Int → Int → Int → ByteArray → Bool → Option (Bool)
  | 0, _, _, _, _, _, _ => none
  | k + 1, x0, x1, x2, x4, x11, x62 => if x62 = true then (some false) else (if (IntKind.u64.wrap (wrap64 (8 * (x0.size : Int)))) = 0 then (none) else ((field_Get.f k x0 (wrap64 (Int.tmod (IntKind.u64.wrap (x4)) (IntKind.u64.wrap (wrap64 (8 * (x0.size : Int)))))) 1).bind fun bt220 => ((field_Get.f k x11 (wrap64 (Int.tmod (IntKind.u64.wrap (x4)) (IntKind.u64.wrap (wrap64 (8 * (x0.size : Int)))))) 1).bind fun bt224 => (if (bt220.1 == bt224.1 && (bt220.2.1 == bt224.2.1)) = true then (some true) else (if (wrap64 (Int.tmod (IntKind.u64.wrap (x4)) (IntKind.u64.wrap (wrap64 (8 * (x0.size : Int)))))) ≥ x1 then (some (decide ((wrap64 (Int.tmod (IntKind.u64.wrap (x4)) (IntKind.u64.wrap (wrap64 (8 * (x0.size : Int)))))) < (wrap64 (x1 + x2))))) else (some false))))))
end
def turnoutlaw02_FieldBack.f (k : Nat) (a0 : ByteArray) (a1 : Int) (a2 : Int) (a3_0 : Int) (a3_1 : Int) (a4 : Int) : Option (Bool) := if (a0.size : Int) > 3000 then (turnoutlaw02_FieldBack.j0 k a0 a1 a2 a4 true a3_0 a3_1) else ((turnoutlaw02_awake.f k).bind fun t210 => (turnoutlaw02_FieldBack.j0 k a0 a1 a2 a4 (!t210) a3_0 a3_1))
theorem turnoutlaw02_FieldBack.mono_l : ∀ k, (∀ y0 y1 y2 y3 y4 y5 y6, LeO (turnoutlaw02_FieldBack.j0 k y0 y1 y2 y3 y4 y5 y6) (turnoutlaw02_FieldBack.j0 (k + 1) y0 y1 y2 y3 y4 y5 y6)) ∧ (∀ y0 y1 y2 y3 y4 y5, LeO (turnoutlaw02_FieldBack.j1 k y0 y1 y2 y3 y4 y5) (turnoutlaw02_FieldBack.j1 (k + 1) y0 y1 y2 y3 y4 y5))
  | 0 => ⟨fun _ _ _ _ _ _ _ r h => by simp [turnoutlaw02_FieldBack.j0] at h, fun _ _ _ _ _ _ r h => by simp [turnoutlaw02_FieldBack.j1] at h⟩
  | k + 1 => by
   obtain ⟨ih0, ih1⟩ := turnoutlaw02_FieldBack.mono_l k
   refine ⟨?_, ?_⟩
   ·
    intro y0 y1 y2 y3 y4 y5 y6
    unfold turnoutlaw02_FieldBack.j0
    repeat' first
    | (with_reducible exact ih0 _ _ _ _ _ _ _)
    | (with_reducible exact ih1 _ _ _ _ _ _)
    | (with_reducible exact field_Get.mono _ _ _ _)
    | (with_reducible exact field_Put.mono _ _ _ _ _ _)
    | (with_reducible exact turnoutlaw02_awake.mono _)
    | (with_reducible exact LeO.refl _)
    | (with_reducible exact LeO.none _)
    | (with_reducible refine LeO.ite ?_ ?_)
    | (with_reducible refine LeO.bind ?_ (fun _ => ?_))
    | exact ih0 _ _ _ _ _ _ _
    | exact ih1 _ _ _ _ _ _
    | exact field_Get.mono _ _ _ _
    | exact field_Put.mono _ _ _ _ _ _
    | exact turnoutlaw02_awake.mono _
    | exact LeO.none _
    | refine LeO.ite ?_ ?_
    | refine LeO.bind ?_ (fun _ => ?_)
   ·
    intro y0 y1 y2 y3 y4 y5
    unfold turnoutlaw02_FieldBack.j1
    repeat' first
    | (with_reducible exact ih0 _ _ _ _ _ _ _)
    | (with_reducible exact ih1 _ _ _ _ _ _)
    | (with_reducible exact field_Get.mono _ _ _ _)
    | (with_reducible exact field_Put.mono _ _ _ _ _ _)
    | (with_reducible exact turnoutlaw02_awake.mono _)
    | (with_reducible exact LeO.refl _)
    | (with_reducible exact LeO.none _)
    | (with_reducible refine LeO.ite ?_ ?_)
    | (with_reducible refine LeO.bind ?_ (fun _ => ?_))
    | exact ih0 _ _ _ _ _ _ _
    | exact ih1 _ _ _ _ _ _
    | exact field_Get.mono _ _ _ _
    | exact field_Put.mono _ _ _ _ _ _
    | exact turnoutlaw02_awake.mono _
    | exact LeO.none _
    | refine LeO.ite ?_ ?_
    | refine LeO.bind ?_ (fun _ => ?_)
theorem turnoutlaw02_FieldBack.mono : ∀ a0 a1 a2 a3 a4 a5 k, LeO (turnoutlaw02_FieldBack.f k a0 a1 a2 a3 a4 a5) (turnoutlaw02_FieldBack.f (k + 1) a0 a1 a2 a3 a4 a5) := by
  intro a0 a1 a2 a3 a4 a5 k
  obtain ⟨ih0, ih1⟩ := turnoutlaw02_FieldBack.mono_l k
  unfold turnoutlaw02_FieldBack.f
  repeat' first
    | (with_reducible exact ih0 _ _ _ _ _ _ _)
    | (with_reducible exact ih1 _ _ _ _ _ _)
    | (with_reducible exact field_Get.mono _ _ _ _)
    | (with_reducible exact field_Put.mono _ _ _ _ _ _)
    | (with_reducible exact turnoutlaw02_awake.mono _)
    | (with_reducible exact LeO.refl _)
    | (with_reducible exact LeO.none _)
    | (with_reducible refine LeO.ite ?_ ?_)
    | (with_reducible refine LeO.bind ?_ (fun _ => ?_))
    | exact ih0 _ _ _ _ _ _ _
    | exact ih1 _ _ _ _ _ _
    | exact field_Get.mono _ _ _ _
    | exact field_Put.mono _ _ _ _ _ _
    | exact turnoutlaw02_awake.mono _
    | exact LeO.none _
    | refine LeO.ite ?_ ?_
    | refine LeO.bind ?_ (fun _ => ?_)
def turnoutlaw02_FieldBack.T7 : Bool × List (List Nat × List Nat) := (true, [([], []), ([0], [0]), ([1], [1]), ([2], [2]), ([2], [2]), ([2], [2]), ([4, 5, 2, 2], [2, 4, 5]), ([3, 6, 2], [2, 3, 6]), ([2, 7], [2, 7]), ([8, 6], [8]), ([9], [9]), ([10, 9], [9, 10]), ([9], [9]), ([12, 9], [9, 12]), ([11, 13, 9], [9, 11, 13]), ([9, 14], [9, 14])])
def turnoutlaw02_FieldBack.B7 : List Nat := [0, 1, 3, 7, 7, 7, 55, 127, 255, 511, 1023, 2047, 1023, 5119, 16383, 32767]
theorem turnoutlaw02_FieldBack.tab7 : rtab .any (opsOf Try.f5 7) = turnoutlaw02_FieldBack.T7 := by kernel_rfl
theorem turnoutlaw02_FieldBack.bits7 : waitsOk turnoutlaw02_FieldBack.T7.2 turnoutlaw02_FieldBack.B7 = true := by kernel_rfl
set_option maxHeartbeats 8000000 in
set_option maxRecDepth 100000 in
theorem turnoutlaw02_FieldBack.calls (k : Nat) (a0 : ByteArray) (a1 : Int) (a2 : Int) (a3_0 : Int) (a3_1 : Int) (a4 : Int) (r : Bool) (w : World) (h : turnoutlaw02_FieldBack.f k a0 a1 a2 a3_0 a3_1 a4 = some r) (hr_ : Aside0 (r = true)) (HAW12 : Aside0 (∀ k r, turnoutlaw02_awake.f k = some r → r = true)) :
   Calls Try.prog 5 #[.string a0, .int .i64 a1, .int .i64 a2, .agg #[.int .u64 a3_0, .int .u64 a3_1], .int .i64 a4] w fun e w' => e = .returned (.bool r) ∧ Below w.heap.size w w' := by
  have hu25 := Try.underlying25
  have HB := Aside0.mk (Below.refl w.heap.size w)
  have H : (if (a0.size : Int) > 3000 then (turnoutlaw02_FieldBack.j0 k a0 a1 a2 a4 true a3_0 a3_1) else ((turnoutlaw02_awake.f k).bind fun t210 => (turnoutlaw02_FieldBack.j0 k a0 a1 a2 a4 (!t210) a3_0 a3_1))) = some r := h
  clear h
  have HC6 := Aside0.mk H
  clear H
  go_enter Try.func5, Try.ntmps5
  go_upto_region 1 with (first | ((with_reducible refine gate_dst (N := 8) rfl ?_); (try (refine gate_guard (by rfl) ?_; dsimp only)); refine box_event ?hg (N := 8) ?hd (cs := #[.int .u64 a3_0, .int .u64 a3_1]) (t := 25) ?hr ?_; (case hd => rfl); (case hg => rfl); (case hr => first | (go_simp; done) | (go_simp; rfl)); intro gb209 hg w7 hbox hb; have BK209 := Aside0.mk (hbox); have GW209 := Aside0.mk ((by rw [hg]; exact (below_size (by repeat (first | (with_reducible first | exact HB.out | apply below_alloc | apply pw_below_drewN | apply below_drew1) | exact HB.out))) : w.heap.size ≤ gb209)); have GE209 := Aside0.mk ((by rw [hg]; exact (below_size (by repeat (first | (with_reducible first | exact HB.out | apply below_alloc | apply pw_below_drewN | apply below_drew1) | exact HB.out))) : w.heap.size ≤ gb209)); replace HB := Aside0.mk (below_step (by repeat (first | (with_reducible first | exact HB.out | apply below_alloc | apply pw_below_drewN | apply below_drew1) | exact HB.out)) hb); clear hb hbox hg))
  (try simp only [Act.put, List.setIfInBounds_toArray, List.set_cons_zero, List.set_cons_succ])
  go_cut [26] (fun v26 wc => ∃ (kq : Nat) (x26_5 : Bool), v26 = .bool x26_5 ∧ Aside0 (turnoutlaw02_FieldBack.j0 kq a0 a1 a2 a4 x26_5 a3_0 a3_1 = some r) ∧ Aside0 (kq ≤ k) ∧ Aside0 (wc.heap[gb209]? = some (.cells #[.int .u64 a3_0, .int .u64 a3_1] 25 (0, 0))) ∧ Aside0 (Below w.heap.size w wc))
  case first =>
   have H := HC6.out
   clear HC6
   by_cases c8 : (a0.size : Int) > 3000
   ·
    rw [if_pos c8] at H
    have c8b0 : decide (3000 < (a0.size : Int)) = true := decide_eq_true c8
    have c8b1 : decide (3000 < a0.size) = true := decide_eq_true (by omega)
    clear c8
    (first | rw [c8b0] | (simp only [i64_w, i32_w]; rw [c8b0]) | skip)
    have H' := Aside0.mk H
    clear H
    go_wp2
    go_meet
    case rel => exact ⟨_, (true), (by first | rfl | (simp; done) | (simp [*]; done)), H', ⟨by first | omega | exact Nat.le_refl _⟩, ⟨by (with_reducible repeat (first | refine blk_drewN ?_ _ | refine blk_drew ?_ | refine blk_alloc ?_ _)); exact BK209.out⟩, ⟨by repeat (first | (with_reducible first | exact HB.out | apply below_alloc | apply pw_below_drewN | apply below_drew1 | refine below_set ?_ GE209.out) | exact HB.out)⟩⟩
   ·
    rw [if_neg c8] at H
    have c8b0 : decide (3000 < (a0.size : Int)) = false := decide_eq_false c8
    have c8b1 : decide (3000 < a0.size) = false := decide_eq_false (by omega)
    clear c8
    (first | rw [c8b0] | (simp only [i64_w, i32_w]; rw [c8b0]) | skip)
    replace H := Option.bind_eq_some_iff.mp H
    obtain ⟨t210, A90, H⟩ := H
    replace H : (turnoutlaw02_FieldBack.j0 k a0 a1 a2 a4 (!t210) a3_0 a3_1) = some r := H
    have A9 := Aside0.mk A90
    clear A90
    have H' := Aside0.mk H
    clear H
    go_wp2_with (first | (go_at_call 12; (with_reducible refine (turnoutlaw02_awake.calls k  t210 _ A9.out ⟨HAW12.out _ _ A9.out⟩).mono ?_); rintro e w10 ⟨rfl, hb⟩; replace BK209 := Aside0.mk (blk_below (bkA BK209.out) hb); replace HB := Aside0.mk (below_step (by repeat (first | (with_reducible first | exact HB.out | apply below_alloc | apply pw_below_drewN | apply below_drew1 | refine below_set ?_ GE209.out) | exact HB.out)) hb); (try clear hb); (try clear hb2); (try clear hk); (try clear hi)))
    go_meet
    case rel => exact ⟨_, (!t210), (by first | rfl | (simp; done) | (simp [*]; done)), H', ⟨by first | omega | exact Nat.le_refl _⟩, ⟨by (with_reducible repeat (first | refine blk_drewN ?_ _ | refine blk_drew ?_ | refine blk_alloc ?_ _)); exact BK209.out⟩, ⟨by repeat (first | (with_reducible first | exact HB.out | apply below_alloc | apply pw_below_drewN | apply below_drew1 | refine below_set ?_ GE209.out) | exact HB.out)⟩⟩
  case rest =>
   clear HC6
   try clear p2
   try clear c5
   try clear c8
   try clear c8b0
   try clear c8b1
   obtain ⟨kq, x26_5, rfl, HA, HJ5, BK209, HB⟩ := hcut
   cases kq with
   | zero => exact absurd HA.out (by simp [turnoutlaw02_FieldBack.j0])
   | succ kj5 =>
    have H := HA.out
    clear HA
    simp only [turnoutlaw02_FieldBack.j0] at H
    by_cases c11 : x26_5 = true
    ·
     subst c11
     have H1 : ((turnoutlaw02_awake.f kj5).bind fun t211 => (some t211)) = some r := by rw [if_pos rfl] at H; exact H
     clear H; have H := H1; clear H1
     replace H := Option.bind_eq_some_iff.mp H
     obtain ⟨t211, A120, H⟩ := H
     replace H : (some t211) = some r := H
     have A12 := Aside0.mk A120
     clear A120
     obtain rfl := Option.some.inj H
     go_wp2_with (first | ((with_reducible refine gate_callee (f := 12) rfl ?_); refine goesL_ (some 27) rfl rfl Try.func12 (by kernel_rfl) rfl #[] rfl (by (try simp only [List.map_toArray, List.map_cons, List.map_nil]); first | done | rfl | (simp only [List.length_drop, List.length_take]; rfl)) ?_; (with_reducible refine (turnoutlaw02_awake.calls kj5  t211 _ A12.out ⟨HAW12.out _ _ A12.out⟩).mono ?_); rintro e w13 ⟨rfl, hb⟩; refine ⟨_, rfl, ?_⟩; replace BK209 := Aside0.mk (blk_below (bkA BK209.out) hb); replace HB := Aside0.mk (below_step (by repeat (first | (with_reducible first | exact HB.out | apply below_alloc | apply pw_below_drewN | apply below_drew1 | refine below_set ?_ GE209.out) | exact HB.out)) hb); (try clear hb); (try clear hb2); (try clear hk); (try clear hi)))
     go_ret
     exact ⟨by first | rfl | (simp [errW_none, errW_some] <;> rfl) | (simp [*, errW_none, errW_some] <;> rfl), by repeat (first | (with_reducible first | exact HB.out | apply below_alloc | apply pw_below_drewN | apply below_drew1 | refine below_set ?_ GE209.out) | exact HB.out)⟩
    ·
     replace c11 := Bool.eq_false_iff.mpr c11
     subst c11
     have H1 : ((field_Put.f kj5 a0 a1 a2 a3_0 a3_1).bind fun bt212 => (if bt212.2 = 0 then ((field_Get.f kj5 bt212.1 a1 a2).bind fun bt214 => (if bt214.2.2 = 0 then ((word_Cut.f a3_0 a3_1 a2).bind fun bt218 => (if (!(bt214.1 == bt218.1) || (!(bt214.2.1 == bt218.2))) = true then (turnoutlaw02_FieldBack.j1 kj5 a0 a1 a2 a4 bt212.1 true) else (turnoutlaw02_FieldBack.j1 kj5 a0 a1 a2 a4 bt212.1 ((bt212.1.size : Int) != (a0.size : Int))))) else (turnoutlaw02_FieldBack.j1 kj5 a0 a1 a2 a4 bt212.1 true))) else (some (bt212.1.toList == ([] : List UInt8))))) = some r := by rw [if_neg (show ¬ (false = true) by decide)] at H; exact H
     clear H; have H := H1; clear H1
     replace H := Option.bind_eq_some_iff.mp H
     obtain ⟨⟨t212, t213⟩, A140, H⟩ := H
     replace H : (if t213 = 0 then ((field_Get.f kj5 t212 a1 a2).bind fun bt214 => (if bt214.2.2 = 0 then ((word_Cut.f a3_0 a3_1 a2).bind fun bt218 => (if (!(bt214.1 == bt218.1) || (!(bt214.2.1 == bt218.2))) = true then (turnoutlaw02_FieldBack.j1 kj5 a0 a1 a2 a4 t212 true) else (turnoutlaw02_FieldBack.j1 kj5 a0 a1 a2 a4 t212 ((t212.size : Int) != (a0.size : Int))))) else (turnoutlaw02_FieldBack.j1 kj5 a0 a1 a2 a4 t212 true))) else (some (t212.toList == ([] : List UInt8)))) = some r := H
     have A14 := Aside0.mk A140
     clear A140
     by_cases c15 : t213 = 0
     ·
      rw [if_pos c15] at H
      have c15b0 : (t213 == 0) = true := beq_iff_eq.mpr c15
      have c15b1 : (t213 != 0) = false := bne_eq_false_iff_eq.mpr c15
      clear c15
      replace H := Option.bind_eq_some_iff.mp H
      obtain ⟨⟨t214, t215, t216⟩, A160, H⟩ := H
      replace H : (if t216 = 0 then ((word_Cut.f a3_0 a3_1 a2).bind fun bt218 => (if (!(t214 == bt218.1) || (!(t215 == bt218.2))) = true then (turnoutlaw02_FieldBack.j1 kj5 a0 a1 a2 a4 t212 true) else (turnoutlaw02_FieldBack.j1 kj5 a0 a1 a2 a4 t212 ((t212.size : Int) != (a0.size : Int))))) else (turnoutlaw02_FieldBack.j1 kj5 a0 a1 a2 a4 t212 true)) = some r := H
      have A16 := Aside0.mk A160
      clear A160
      have HC17 := Aside0.mk H
      clear H
      have hcz18_0 : wc.cell? ⟨gb209, 0, none⟩ = some (.int .u64 a3_0) := (blk_cell BK209.out 0).trans rfl
      have hcz18_1 : wc.cell? ⟨gb209, 1, none⟩ = some (.int .u64 a3_1) := (blk_cell BK209.out 1).trans rfl
      have hfz18_0 := blk_frozen BK209.out 0
      have hfz18_1 := blk_frozen BK209.out 1
      go_upto_region 7 with (first | ((with_reducible refine gate_callee (f := 15) rfl ?_); refine goesL_ (some 33) rfl rfl Try.func15 (by kernel_rfl) rfl #[.string a0, .int .i64 a1, .int .i64 a2, .agg #[.int .u64 a3_0, .int .u64 a3_1]] rfl (by (try simp only [List.map_toArray, List.map_cons, List.map_nil]); first | done | rfl | (simp only [List.length_drop, List.length_take]; rfl)) ?_; (with_reducible refine (field_Put.calls kj5 a0 a1 a2 a3_0 a3_1 t212 t213 _ A14.out).mono ?_); rintro e w19 ⟨rfl, hb⟩; refine ⟨_, rfl, ?_⟩; replace BK209 := Aside0.mk (blk_below (bkA BK209.out) hb); replace HB := Aside0.mk (below_step (by repeat (first | (with_reducible first | exact HB.out | apply below_alloc | apply pw_below_drewN | apply below_drew1 | refine below_set ?_ GE209.out) | exact HB.out)) hb); (try clear hb); (try clear hb2); (try clear hk); (try clear hi)) | ((with_reducible refine gate_callee (f := 13) rfl ?_); refine goesL_ (some 44) rfl rfl Try.func13 (by kernel_rfl) rfl #[.string t212, .int .i64 a1, .int .i64 a2] rfl (by (try simp only [List.map_toArray, List.map_cons, List.map_nil]); first | done | rfl | (simp only [List.length_drop, List.length_take]; rfl)) ?_; (with_reducible refine (field_Get.calls kj5 t212 a1 a2 t214 t215 t216 _ A16.out).mono ?_); rintro e w20 ⟨rfl, hb⟩; refine ⟨_, rfl, ?_⟩; replace BK209 := Aside0.mk (blk_below (bkA BK209.out) hb); replace HB := Aside0.mk (below_step (by repeat (first | (with_reducible first | exact HB.out | apply below_alloc | apply pw_below_drewN | apply below_drew1 | refine below_set ?_ GE209.out) | exact HB.out)) hb); (try clear hb); (try clear hb2); (try clear hk); (try clear hi)) | ((with_reducible refine gate_dst (N := 13) rfl ?_); (try (refine gate_guard (by rfl) ?_; dsimp only)); refine box_event ?hg (N := 13) ?hd (cs := #[.int .u64 0, .int .u64 0]) (t := 25) ?hr ?_; (case hd => rfl); (case hg => rfl); (case hr => first | (go_simp; done) | (go_simp; rfl)); intro gb217 hg w21 hbox hb; have BK217 := Aside0.mk (hbox); have GW217 := Aside0.mk ((by rw [hg]; exact (below_size (by repeat (first | (with_reducible first | exact HB.out | apply below_alloc | apply pw_below_drewN | apply below_drew1 | refine below_set ?_ GE209.out) | exact HB.out))) : w.heap.size ≤ gb217)); have GE217 := Aside0.mk ((by rw [hg]; exact (below_size (by repeat (first | (with_reducible first | exact HB.out | apply below_alloc | apply pw_below_drewN | apply below_drew1 | refine below_set ?_ GE209.out) | exact HB.out))) : w.heap.size ≤ gb217)); replace HB := Aside0.mk (below_step (by repeat (first | (with_reducible first | exact HB.out | apply below_alloc | apply pw_below_drewN | apply below_drew1 | refine below_set ?_ GE209.out) | exact HB.out)) hb); have NB209_217 := Aside0.mk ((by rw [hg]; exact Nat.ne_of_lt (blk_lt (bkA BK209.out)) : gb209 ≠ gb217)); have NB217_209 := Aside0.mk ((by rw [hg]; exact Nat.ne_of_gt (blk_lt (bkA BK209.out)) : gb217 ≠ gb209)); replace BK209 := Aside0.mk (blk_below (bkA BK209.out) hb); clear hb hbox hg; have hnb22 := NB217_209.out; have hnc22 := NB209_217.out; have hcz23_0 : w21.cell? ⟨gb217, 0, none⟩ = some (.int .u64 0) := (blk_cell BK217.out 0).trans rfl; have hcz23_1 : w21.cell? ⟨gb217, 1, none⟩ = some (.int .u64 0) := (blk_cell BK217.out 1).trans rfl; have hfz23_0 := blk_frozen BK217.out 0; have hfz23_1 := blk_frozen BK217.out 1))
      (try simp only [Act.put, List.setIfInBounds_toArray, List.set_cons_zero, List.set_cons_succ])
      go_cut [62] (fun v62 wc => ∃ (kq : Nat) (x62_16 : Bool), v62 = .bool x62_16 ∧ Aside0 (turnoutlaw02_FieldBack.j1 kq a0 a1 a2 a4 t212 x62_16 = some r) ∧ Aside0 (kq ≤ kj5) ∧ Aside0 (wc.heap[gb209]? = some (.cells #[.int .u64 a3_0, .int .u64 a3_1] 25 (0, 0))) ∧ Aside0 (wc.heap[gb217]? = some (.cells #[.int .u64 t214, .int .u64 t215] 25 (0, 0))) ∧ Aside0 (Below w.heap.size w wc))
      case first =>
       have H := HC17.out
       clear HC17
       by_cases c24 : t216 = 0
       ·
        rw [if_pos c24] at H
        have c24b0 : (t216 == 0) = true := beq_iff_eq.mpr c24
        have c24b1 : (t216 != 0) = false := bne_eq_false_iff_eq.mpr c24
        clear c24
        (first | rw [c24b0] | (simp only [i64_w, i32_w]; rw [c24b0]) | skip)
        replace H := Option.bind_eq_some_iff.mp H
        obtain ⟨⟨t218, t219⟩, A250, H⟩ := H
        replace H : (if (!(t214 == t218) || (!(t215 == t219))) = true then (turnoutlaw02_FieldBack.j1 kj5 a0 a1 a2 a4 t212 true) else (turnoutlaw02_FieldBack.j1 kj5 a0 a1 a2 a4 t212 ((t212.size : Int) != (a0.size : Int)))) = some r := H
        have A25 := Aside0.mk A250
        clear A250
        by_cases c26 : (!(t214 == t218) || (!(t215 == t219))) = true
        ·
         rw [if_pos c26] at H
         have c26b0 : (!(t214 == t218) || (!(t215 == t219))) = true := c26
         clear c26
         exact absurd hr_.out (by cases kj5 with | zero => simp [turnoutlaw02_FieldBack.j1] at H | succ _ => simp only [turnoutlaw02_FieldBack.j1] at H; (first | rw [if_pos rfl] at H | rw [if_pos trivial] at H); rw [← Option.some.inj H]; decide)
        ·
         rw [if_neg c26] at H
         have c26b0 : (!(t214 == t218) || (!(t215 == t219))) = false := by simpa using c26
         clear c26
         have H' := Aside0.mk H
         clear H
         try go_wp2
         have n0_ : Aside0 (((w21.setCell ⟨gb217, 0, none⟩ (.int .u64 t214)).setCell ⟨gb217, 1, none⟩ (.int .u64 t215)).heap[gb209]? = some (.cells #[.int .u64 a3_0, .int .u64 a3_1] 25 (0, 0))) := ⟨by (with_reducible repeat (first | refine blk_drewN ?_ _ | refine blk_drew ?_ | refine blk_alloc ?_ _)); refine blk_far ?_ NB209_217.out _; (with_reducible repeat (first | refine blk_drewN ?_ _ | refine blk_drew ?_ | refine blk_alloc ?_ _)); refine blk_far ?_ NB209_217.out _; (with_reducible repeat (first | refine blk_drewN ?_ _ | refine blk_drew ?_ | refine blk_alloc ?_ _)); exact BK209.out⟩
         have n1_ : Aside0 (((w21.setCell ⟨gb217, 0, none⟩ (.int .u64 t214)).setCell ⟨gb217, 1, none⟩ (.int .u64 t215)).heap[gb217]? = some (.cells #[.int .u64 t214, .int .u64 t215] 25 (0, 0))) := ⟨by (with_reducible repeat (first | refine blk_drewN ?_ _ | refine blk_drew ?_ | refine blk_alloc ?_ _)); refine blk_put (cs := #[.int .u64 t214, .int .u64 0]) ?_ 1 _ rfl; (with_reducible repeat (first | refine blk_drewN ?_ _ | refine blk_drew ?_ | refine blk_alloc ?_ _)); refine blk_put (cs := #[.int .u64 0, .int .u64 0]) ?_ 0 _ rfl; (with_reducible repeat (first | refine blk_drewN ?_ _ | refine blk_drew ?_ | refine blk_alloc ?_ _)); exact BK217.out⟩
         have n2_ : Aside0 (Below w.heap.size w ((w21.setCell ⟨gb217, 0, none⟩ (.int .u64 t214)).setCell ⟨gb217, 1, none⟩ (.int .u64 t215))) := ⟨by repeat (first | (with_reducible first | exact HB.out | apply below_alloc | apply pw_below_drewN | apply below_drew1 | refine below_set ?_ GE209.out | refine below_set ?_ GE217.out) | exact HB.out)⟩
         (try clear BK209); (try clear BK217); (try clear HB); generalize ((w21.setCell ⟨gb217, 0, none⟩ (.int .u64 t214)).setCell ⟨gb217, 1, none⟩ (.int .u64 t215)) = w27 at n0_ n1_ n2_ ⊢; have BK209 := n0_; have BK217 := n1_; have HB := n2_; clear n0_ n1_ n2_; replace BK209 := Aside0.mk (blk_drew BK209.out); replace BK217 := Aside0.mk (blk_drew BK217.out); replace HB := Aside0.mk (below_drew1 HB.out)
         refine start_ (n := 16) (S := fun w' => w'.cell? ⟨gb217, 0, none⟩ = some (.int .u64 t214) ∧ w'.cell? ⟨gb217, 1, none⟩ = some (.int .u64 t215) ∧ w'.cell? ⟨gb209, 0, none⟩ = some (.int .u64 a3_0) ∧ w'.cell? ⟨gb209, 1, none⟩ = some (.int .u64 a3_1)) (ds := []) #[F,F,F,F,F,F,F,F,F,F,F,F,F,F,F,F] (by kernel_rfl) rfl rfl ⟨(blk_cell BK217.out 0).trans rfl, (blk_cell BK217.out 1).trans rfl, (blk_cell BK209.out 0).trans rfl, (blk_cell BK209.out 1).trans rfl⟩ (fun hHeld => ?_); refine with_tabW turnoutlaw02_FieldBack.tab7 turnoutlaw02_FieldBack.bits7 (fun HT_ HW_ => ?_)
         generalize w27.drew = w28 at BK209 BK217 HB hHeld ⊢
         refine pure_ (i := 0) (N := some 47) (v := ?_) (a' := ?_) #[T,F,F,F,F,F,F,F,F,F,F,F,F,F,F,F] rfl rfl (any_of HT_.out (by kernel_rfl)) (fun _ _ _ h => h) (Or.inl ⟨by rfl, ?_⟩) ?_ ?_
         rotate_left
         ·
          intro w'
          go_simp
          with_reducible rfl
         rotate_left
         ·
          simp only [Act.put, List.setIfInBounds_toArray, List.set_cons_zero, List.set_cons_succ, i64_w, i32_w]
          rfl
         refine pure_ (i := 1) (N := some 48) (v := ?_) (a' := ?_) #[T,T,F,F,F,F,F,F,F,F,F,F,F,F,F,F] rfl rfl (any_of HT_.out (by kernel_rfl)) (fun _ _ _ h => h) (Or.inl ⟨by rfl, ?_⟩) ?_ ?_
         rotate_left
         ·
          intro w'
          go_simp
          with_reducible rfl
         rotate_left
         ·
          simp only [Act.put, List.setIfInBounds_toArray, List.set_cons_zero, List.set_cons_succ, i64_w, i32_w]
          rfl
         refine pure_ (i := 2) (N := some 49) (v := ?_) (a' := ?_) #[T,T,T,F,F,F,F,F,F,F,F,F,F,F,F,F] rfl rfl (any_of HT_.out (by kernel_rfl)) (fun _ _ _ h => h) (Or.inl ⟨by rfl, ?_⟩) ?_ ?_
         rotate_left
         ·
          intro w'
          go_simp
          with_reducible rfl
         rotate_left
         ·
          simp only [Act.put, List.setIfInBounds_toArray, List.set_cons_zero, List.set_cons_succ, i64_w, i32_w]
          rfl
         refine pure_ (i := 5) (N := some 52) (v := ?_) (a' := ?_) #[T,T,T,F,F,T,F,F,F,F,F,F,F,F,F,F] rfl rfl (any_of HT_.out (by kernel_rfl)) (fun _ _ _ h => h) (Or.inl ⟨by rfl, ?_⟩) ?_ ?_
         rotate_left
         ·
          intro w'
          go_simp
          with_reducible rfl
         rotate_left
         ·
          simp only [Act.put, List.setIfInBounds_toArray, List.set_cons_zero, List.set_cons_succ, i64_w, i32_w]
          rfl
         refine take_ (i := 3) (N := some 50) (v := ?_) (a' := ?_) #[T,T,T,T,F,T,F,F,F,F,F,F,F,F,F,F] rfl rfl (take_ofW HT_.out HW_.out (by kernel_rfl)) (fun _ _ _ h => h) (Or.inl ⟨by rfl, ?_⟩) hHeld ?_ ?_
         rotate_left
         ·
          rintro w' ⟨s0, s1, s2, s3⟩
          go_simp
          with_reducible rfl
         rotate_left
         ·
          simp only [Act.put, List.setIfInBounds_toArray, List.set_cons_zero, List.set_cons_succ, i64_w, i32_w]
          rfl
         refine take_ (i := 4) (N := some 51) (v := ?_) (a' := ?_) #[T,T,T,T,T,T,F,F,F,F,F,F,F,F,F,F] rfl rfl (take_ofW HT_.out HW_.out (by kernel_rfl)) (fun _ _ _ h => h) (Or.inl ⟨by rfl, ?_⟩) hHeld ?_ ?_
         rotate_left
         ·
          rintro w' ⟨s0, s1, s2, s3⟩
          go_simp
          with_reducible rfl
         rotate_left
         ·
          simp only [Act.put, List.setIfInBounds_toArray, List.set_cons_zero, List.set_cons_succ, i64_w, i32_w]
          rfl
         refine one_ (i := 6) (N := some 53) #[T,T,T,T,T,T,T,F,F,F,F,F,F,F,F,F] rfl rfl (one_of HT_.out (by kernel_rfl)) (by decide) (fun K hK => ?_)
         refine goes_ Try.func17 (by kernel_rfl) rfl #[.agg #[.int .u64 a3_0, .int .u64 a3_1], .int .i64 a2] (by rfl) rfl rfl (by (try simp only [List.map_toArray, List.map_cons, List.map_nil]); first | done | rfl | (simp only [List.length_drop, List.length_take]; rfl)) ?_
         with_reducible refine (word_Cut.calls a3_0 a3_1 a2 t218 t219 _ A25.out).mono ?_
         rintro e w29 ⟨rfl, hb⟩
         refine ⟨_, rfl, ?_⟩
         have n0_ := Aside0.mk (blk_below (bkA BK209.out) hb); have n1_ := Aside0.mk (blk_below (bkA BK217.out) hb)
         have n2_ := Aside0.mk (below_step (by repeat (first | (with_reducible first | exact HB.out | apply below_alloc | apply pw_below_drewN | apply below_drew1 | refine below_set ?_ GE209.out | refine below_set ?_ GE217.out) | exact HB.out)) hb)
         clear BK209; clear BK217; clear HB; have BK209 := n0_; have BK217 := n1_; have HB := n2_; clear n0_ n1_ n2_; (try clear hb); (try clear hb2); (try clear hk); (try clear hi)
         refine hK.out _ _ ⟨(blk_cell BK217.out 0).trans rfl, (blk_cell BK217.out 1).trans rfl, (blk_cell BK209.out 0).trans rfl, (blk_cell BK209.out 1).trans rfl⟩ (fun hHeld => ?_)
         clear hK K
         refine norm_ (a' := ?_) ?_ ?_
         rotate_left
         ·
          show Act.put _ (some 53) _ = _
          simp only [Act.put, List.setIfInBounds_toArray, List.set_cons_zero, List.set_cons_succ, i64_w, i32_w]
          rfl
         refine pure_ (i := 7) (N := some 54) (v := ?_) (a' := ?_) #[T,T,T,T,T,T,T,T,F,F,F,F,F,F,F,F] rfl rfl (any_of HT_.out (by kernel_rfl)) (fun _ _ _ h => h) (Or.inl ⟨by rfl, ?_⟩) ?_ ?_
         rotate_left
         ·
          intro w'
          go_simp
          with_reducible rfl
         rotate_left
         ·
          simp only [Act.put, List.setIfInBounds_toArray, List.set_cons_zero, List.set_cons_succ, i64_w, i32_w]
          rfl
         refine pure_ (i := 8) (N := some 55) (v := ?_) (a' := ?_) #[T,T,T,T,T,T,T,T,T,F,F,F,F,F,F,F] rfl rfl (any_of HT_.out (by kernel_rfl)) (fun _ _ _ h => h) (Or.inl ⟨by rfl, ?_⟩) ?_ ?_
         rotate_left
         ·
          intro w'
          go_simp
          with_reducible rfl
         rotate_left
         ·
          simp only [Act.put, List.setIfInBounds_toArray, List.set_cons_zero, List.set_cons_succ, i64_w, i32_w]
          rfl
         refine pure_ (i := 9) (N := some 56) (v := ?_) (a' := ?_) #[T,T,T,T,T,T,T,T,T,T,F,F,F,F,F,F] rfl rfl (any_of HT_.out (by kernel_rfl)) (fun _ _ _ h => h) (Or.inl ⟨by rfl, ?_⟩) ?_ ?_
         rotate_left
         ·
          intro w'
          go_simp
          with_reducible rfl
         rotate_left
         ·
          simp only [Act.put, List.setIfInBounds_toArray, List.set_cons_zero, List.set_cons_succ, i64_w, i32_w]
          rfl
         refine pure_ (i := 10) (N := some 57) (v := ?_) (a' := ?_) #[T,T,T,T,T,T,T,T,T,T,T,F,F,F,F,F] rfl rfl (any_of HT_.out (by kernel_rfl)) (fun _ _ _ h => h) (Or.inl ⟨by rfl, ?_⟩) ?_ ?_
         rotate_left
         ·
          intro w'
          go_simp
          with_reducible rfl
         rotate_left
         ·
          simp only [Act.put, List.setIfInBounds_toArray, List.set_cons_zero, List.set_cons_succ, i64_w, i32_w]
          rfl
         refine pure_ (i := 11) (N := some 58) (v := ?_) (a' := ?_) #[T,T,T,T,T,T,T,T,T,T,T,T,F,F,F,F] rfl rfl (any_of HT_.out (by kernel_rfl)) (fun _ _ _ h => h) (Or.inl ⟨by rfl, ?_⟩) ?_ ?_
         rotate_left
         ·
          intro w'
          go_simp
          with_reducible rfl
         rotate_left
         ·
          simp only [Act.put, List.setIfInBounds_toArray, List.set_cons_zero, List.set_cons_succ, i64_w, i32_w]
          rfl
         refine pure_ (i := 12) (N := some 59) (v := ?_) (a' := ?_) #[T,T,T,T,T,T,T,T,T,T,T,T,T,F,F,F] rfl rfl (any_of HT_.out (by kernel_rfl)) (fun _ _ _ h => h) (Or.inl ⟨by rfl, ?_⟩) ?_ ?_
         rotate_left
         ·
          intro w'
          go_simp
          with_reducible rfl
         rotate_left
         ·
          simp only [Act.put, List.setIfInBounds_toArray, List.set_cons_zero, List.set_cons_succ, i64_w, i32_w]
          rfl
         refine pure_ (i := 13) (N := some 60) (v := ?_) (a' := ?_) #[T,T,T,T,T,T,T,T,T,T,T,T,T,T,F,F] rfl rfl (any_of HT_.out (by kernel_rfl)) (fun _ _ _ h => h) (Or.inl ⟨by rfl, ?_⟩) ?_ ?_
         rotate_left
         ·
          intro w'
          go_simp
          with_reducible rfl
         rotate_left
         ·
          simp only [Act.put, List.setIfInBounds_toArray, List.set_cons_zero, List.set_cons_succ, i64_w, i32_w]
          rfl
         refine pure_ (i := 14) (N := some 61) (v := ?_) (a' := ?_) #[T,T,T,T,T,T,T,T,T,T,T,T,T,T,T,F] rfl rfl (any_of HT_.out (by kernel_rfl)) (fun _ _ _ h => h) (Or.inl ⟨by rfl, ?_⟩) ?_ ?_
         rotate_left
         ·
          intro w'
          go_simp
          with_reducible rfl
         rotate_left
         ·
          simp only [Act.put, List.setIfInBounds_toArray, List.set_cons_zero, List.set_cons_succ, i64_w, i32_w]
          rfl
         refine pure_ (i := 15) (N := some 62) (v := ?_) (a' := ?_) #[T,T,T,T,T,T,T,T,T,T,T,T,T,T,T,T] rfl rfl (any_of HT_.out (by kernel_rfl)) (fun _ _ _ h => h) (Or.inl ⟨by rfl, ?_⟩) ?_ ?_
         rotate_left
         ·
          intro w'
          go_simp
          with_reducible rfl
         rotate_left
         ·
          simp only [Act.put, List.setIfInBounds_toArray, List.set_cons_zero, List.set_cons_succ, i64_w, i32_w]
          rfl
         refine done_ (done_of HT_.out (by kernel_rfl)) ?_
         try go_wp2
         go_meet
         case rel => exact ⟨_, (((t212.size : Int) != (a0.size : Int))), (by first | rfl | (simp; done) | (simp [*]; done)), H', ⟨by have := HJ5.out; first | omega | exact Nat.le_refl _⟩, ⟨by (with_reducible repeat (first | refine blk_drewN ?_ _ | refine blk_drew ?_ | refine blk_alloc ?_ _)); exact BK209.out⟩, ⟨by (with_reducible repeat (first | refine blk_drewN ?_ _ | refine blk_drew ?_ | refine blk_alloc ?_ _)); exact BK217.out⟩, ⟨by repeat (first | (with_reducible first | exact HB.out | apply below_alloc | apply pw_below_drewN | apply below_drew1 | refine below_set ?_ GE209.out | refine below_set ?_ GE217.out) | exact HB.out)⟩⟩
       ·
        rw [if_neg c24] at H
        have c24b0 : (t216 == 0) = false := beq_eq_false_iff_ne.mpr c24
        have c24b1 : (t216 != 0) = true := bne_iff_ne.mpr c24
        (first | rw [c24b0] | (simp only [i64_w, i32_w]; rw [c24b0]) | skip)
        exact absurd hr_.out (by cases kj5 with | zero => simp [turnoutlaw02_FieldBack.j1] at H | succ _ => simp only [turnoutlaw02_FieldBack.j1] at H; (first | rw [if_pos rfl] at H | rw [if_pos trivial] at H); rw [← Option.some.inj H]; decide)
      case rest =>
       clear HC17
       try clear c1
       try clear c2
       try clear p2
       try clear c5
       try clear c8
       try clear c8b0
       try clear c8b1
       try clear c11
       try clear c12
       try clear c13
       try clear c15
       try clear c15b0
       try clear c15b1
       try clear c17
       try clear c22
       try clear c24
       try clear c24b0
       try clear c24b1
       try clear c26
       try clear c26b0
       try clear hcz18_0
       try clear hcz18_1
       try clear hcz23_0
       try clear hcz23_1
       try clear hfz18_0
       try clear hfz18_1
       try clear hfz23_0
       try clear hfz23_1
       try clear p2
       obtain ⟨kq, x62_16, rfl, HA, HJ16, BK209, BK217, HB⟩ := hcut
       cases kq with
       | zero => exact absurd HA.out (by simp [turnoutlaw02_FieldBack.j1])
       | succ kj16 =>
        have H := HA.out
        clear HA
        simp only [turnoutlaw02_FieldBack.j1] at H
        by_cases c30 : x62_16 = true
        ·
         subst c30
         have H1 : (some false) = some r := by rw [if_pos rfl] at H; exact H
         clear H; have H := H1; clear H1
         exact absurd ((Option.some.inj H).trans hr_.out) (by decide)
        ·
         replace c30 := Bool.eq_false_iff.mpr c30
         subst c30
         have H1 : (if (IntKind.u64.wrap (wrap64 (8 * (a0.size : Int)))) = 0 then (none) else ((field_Get.f kj16 a0 (wrap64 (Int.tmod (IntKind.u64.wrap (a4)) (IntKind.u64.wrap (wrap64 (8 * (a0.size : Int)))))) 1).bind fun bt220 => ((field_Get.f kj16 t212 (wrap64 (Int.tmod (IntKind.u64.wrap (a4)) (IntKind.u64.wrap (wrap64 (8 * (a0.size : Int)))))) 1).bind fun bt224 => (if (bt220.1 == bt224.1 && (bt220.2.1 == bt224.2.1)) = true then (some true) else (if (wrap64 (Int.tmod (IntKind.u64.wrap (a4)) (IntKind.u64.wrap (wrap64 (8 * (a0.size : Int)))))) ≥ a1 then (some (decide ((wrap64 (Int.tmod (IntKind.u64.wrap (a4)) (IntKind.u64.wrap (wrap64 (8 * (a0.size : Int)))))) < (wrap64 (a1 + a2))))) else (some false)))))) = some r := by rw [if_neg (show ¬ (false = true) by decide)] at H; exact H
         clear H; have H := H1; clear H1
         by_cases c31 : (IntKind.u64.wrap (wrap64 (8 * (a0.size : Int)))) = 0
         ·
          rw [if_pos c31] at H
          exact absurd H (by simp)
         ·
          rw [if_neg c31] at H
          have c31b0 : ((IntKind.u64.wrap (wrap64 (8 * (a0.size : Int)))) == 0) = false := beq_eq_false_iff_ne.mpr c31
          have c31b1 : ((IntKind.u64.wrap (wrap64 (8 * (a0.size : Int)))) != 0) = true := bne_iff_ne.mpr c31
          replace H := Option.bind_eq_some_iff.mp H
          obtain ⟨⟨t220, t221, t222⟩, A320, H⟩ := H
          replace H : ((field_Get.f kj16 t212 (wrap64 (Int.tmod (IntKind.u64.wrap (a4)) (IntKind.u64.wrap (wrap64 (8 * (a0.size : Int)))))) 1).bind fun bt224 => (if (t220 == bt224.1 && (t221 == bt224.2.1)) = true then (some true) else (if (wrap64 (Int.tmod (IntKind.u64.wrap (a4)) (IntKind.u64.wrap (wrap64 (8 * (a0.size : Int)))))) ≥ a1 then (some (decide ((wrap64 (Int.tmod (IntKind.u64.wrap (a4)) (IntKind.u64.wrap (wrap64 (8 * (a0.size : Int)))))) < (wrap64 (a1 + a2))))) else (some false)))) = some r := H
          have A32 := Aside0.mk A320
          clear A320
          replace H := Option.bind_eq_some_iff.mp H
          obtain ⟨⟨t224, t225, t226⟩, A330, H⟩ := H
          replace H : (if (t220 == t224 && (t221 == t225)) = true then (some true) else (if (wrap64 (Int.tmod (IntKind.u64.wrap (a4)) (IntKind.u64.wrap (wrap64 (8 * (a0.size : Int)))))) ≥ a1 then (some (decide ((wrap64 (Int.tmod (IntKind.u64.wrap (a4)) (IntKind.u64.wrap (wrap64 (8 * (a0.size : Int)))))) < (wrap64 (a1 + a2))))) else (some false))) = some r := H
          have A33 := Aside0.mk A330
          clear A330
          by_cases c34 : (t220 == t224 && (t221 == t225)) = true
          ·
           rw [if_pos c34] at H
           have c34b0 : (t220 == t224 && (t221 == t225)) = true := c34
           (try (have c34b1 : decide (t220 = t224 && (t221 == t225)) = true := by simpa using c34))
           (try (have c34b2 : (t220 == t224 && (t221 == t225)) = true := by simpa using c34))
           clear c34
           obtain rfl := Option.some.inj H
           go_wp2_with (first | ((with_reducible refine gate_callee (f := 13) rfl ?_); refine goesL_ (some 74) rfl rfl Try.func13 (by kernel_rfl) rfl #[.string a0, .int .i64 (wrap64 (Int.tmod (IntKind.u64.wrap (a4)) (IntKind.u64.wrap (wrap64 (8 * (a0.size : Int)))))), .int .i64 1] rfl (by (try simp only [List.map_toArray, List.map_cons, List.map_nil]); first | done | rfl | (simp only [List.length_drop, List.length_take]; rfl)) ?_; (with_reducible refine (field_Get.calls kj16 a0 (wrap64 (Int.tmod (IntKind.u64.wrap (a4)) (IntKind.u64.wrap (wrap64 (8 * (a0.size : Int)))))) 1 t220 t221 t222 _ A32.out).mono ?_); rintro e w35 ⟨rfl, hb⟩; refine ⟨_, rfl, ?_⟩; replace BK209 := Aside0.mk (blk_below (bkA BK209.out) hb); replace BK217 := Aside0.mk (blk_below (bkA BK217.out) hb); replace HB := Aside0.mk (below_step (by repeat (first | (with_reducible first | exact HB.out | apply below_alloc | apply pw_below_drewN | apply below_drew1 | refine below_set ?_ GE209.out | refine below_set ?_ GE217.out) | exact HB.out)) hb); (try clear hb); (try clear hb2); (try clear hk); (try clear hi)) | ((with_reducible refine gate_dst (N := 16) rfl ?_); (try (refine gate_guard (by rfl) ?_; dsimp only)); refine box_event ?hg (N := 16) ?hd (cs := #[.int .u64 0, .int .u64 0]) (t := 25) ?hr ?_; (case hd => rfl); (case hg => rfl); (case hr => first | (go_simp; done) | (go_simp; rfl)); intro gb223 hg w36 hbox hb; have BK223 := Aside0.mk (hbox); have GW223 := Aside0.mk ((by rw [hg]; exact (below_size (by repeat (first | (with_reducible first | exact HB.out | apply below_alloc | apply pw_below_drewN | apply below_drew1 | refine below_set ?_ GE209.out | refine below_set ?_ GE217.out) | exact HB.out))) : w.heap.size ≤ gb223)); have GE223 := Aside0.mk ((by rw [hg]; exact (below_size (by repeat (first | (with_reducible first | exact HB.out | apply below_alloc | apply pw_below_drewN | apply below_drew1 | refine below_set ?_ GE209.out | refine below_set ?_ GE217.out) | exact HB.out))) : w.heap.size ≤ gb223)); replace HB := Aside0.mk (below_step (by repeat (first | (with_reducible first | exact HB.out | apply below_alloc | apply pw_below_drewN | apply below_drew1 | refine below_set ?_ GE209.out | refine below_set ?_ GE217.out) | exact HB.out)) hb); have NB209_223 := Aside0.mk ((by rw [hg]; exact Nat.ne_of_lt (blk_lt (bkA BK209.out)) : gb209 ≠ gb223)); have NB223_209 := Aside0.mk ((by rw [hg]; exact Nat.ne_of_gt (blk_lt (bkA BK209.out)) : gb223 ≠ gb209)); replace BK209 := Aside0.mk (blk_below (bkA BK209.out) hb); have NB217_223 := Aside0.mk ((by rw [hg]; exact Nat.ne_of_lt (blk_lt (bkA BK217.out)) : gb217 ≠ gb223)); have NB223_217 := Aside0.mk ((by rw [hg]; exact Nat.ne_of_gt (blk_lt (bkA BK217.out)) : gb223 ≠ gb217)); replace BK217 := Aside0.mk (blk_below (bkA BK217.out) hb); clear hb hbox hg; have hnb37 := NB223_209.out; have hnc37 := NB209_223.out; have hnb38 := NB223_217.out; have hnc38 := NB217_223.out; have hcz39_0 : w36.cell? ⟨gb223, 0, none⟩ = some (.int .u64 0) := (blk_cell BK223.out 0).trans rfl; have hcz39_1 : w36.cell? ⟨gb223, 1, none⟩ = some (.int .u64 0) := (blk_cell BK223.out 1).trans rfl; have hfz39_0 := blk_frozen BK223.out 0; have hfz39_1 := blk_frozen BK223.out 1) | ((with_reducible refine gate_callee (f := 13) rfl ?_); refine goesL_ (some 80) rfl rfl Try.func13 (by kernel_rfl) rfl #[.string t212, .int .i64 (wrap64 (Int.tmod (IntKind.u64.wrap (a4)) (IntKind.u64.wrap (wrap64 (8 * (a0.size : Int)))))), .int .i64 1] rfl (by (try simp only [List.map_toArray, List.map_cons, List.map_nil]); first | done | rfl | (simp only [List.length_drop, List.length_take]; rfl)) ?_; (with_reducible refine (field_Get.calls kj16 t212 (wrap64 (Int.tmod (IntKind.u64.wrap (a4)) (IntKind.u64.wrap (wrap64 (8 * (a0.size : Int)))))) 1 t224 t225 t226 _ A33.out).mono ?_); rintro e w40 ⟨rfl, hb⟩; refine ⟨_, rfl, ?_⟩; replace BK209 := Aside0.mk (blk_below (g := gb209) (o := .cells #[.int .u64 a3_0, .int .u64 a3_1] 25 (0, 0)) (by (with_reducible repeat (first | refine blk_drewN ?_ _ | refine blk_drew ?_ | refine blk_alloc ?_ _)); refine blk_far ?_ NB209_223.out _; (with_reducible repeat (first | refine blk_drewN ?_ _ | refine blk_drew ?_ | refine blk_alloc ?_ _)); refine blk_far ?_ NB209_223.out _; (with_reducible repeat (first | refine blk_drewN ?_ _ | refine blk_drew ?_ | refine blk_alloc ?_ _)); exact BK209.out) hb); replace BK217 := Aside0.mk (blk_below (g := gb217) (o := .cells #[.int .u64 t214, .int .u64 t215] 25 (0, 0)) (by (with_reducible repeat (first | refine blk_drewN ?_ _ | refine blk_drew ?_ | refine blk_alloc ?_ _)); refine blk_far ?_ NB217_223.out _; (with_reducible repeat (first | refine blk_drewN ?_ _ | refine blk_drew ?_ | refine blk_alloc ?_ _)); refine blk_far ?_ NB217_223.out _; (with_reducible repeat (first | refine blk_drewN ?_ _ | refine blk_drew ?_ | refine blk_alloc ?_ _)); exact BK217.out) hb); replace BK223 := Aside0.mk (blk_below (g := gb223) (o := .cells #[.int .u64 t220, .int .u64 t221] 25 (0, 0)) (by (with_reducible repeat (first | refine blk_drewN ?_ _ | refine blk_drew ?_ | refine blk_alloc ?_ _)); refine blk_put (cs := #[.int .u64 t220, .int .u64 0]) ?_ 1 _ rfl; (with_reducible repeat (first | refine blk_drewN ?_ _ | refine blk_drew ?_ | refine blk_alloc ?_ _)); refine blk_put (cs := #[.int .u64 0, .int .u64 0]) ?_ 0 _ rfl; (with_reducible repeat (first | refine blk_drewN ?_ _ | refine blk_drew ?_ | refine blk_alloc ?_ _)); exact BK223.out) hb); replace HB := Aside0.mk (below_step (by repeat (first | (with_reducible first | exact HB.out | apply below_alloc | apply pw_below_drewN | apply below_drew1 | refine below_set ?_ GE209.out | refine below_set ?_ GE217.out | refine below_set ?_ GE223.out) | exact HB.out)) hb); (try clear hb); (try clear hb2); (try clear hk); (try clear hi)) | ((with_reducible refine gate_dst (N := 18) rfl ?_); (try (refine gate_guard (by rfl) ?_; dsimp only)); refine box_event ?hg (N := 18) ?hd (cs := #[.int .u64 0, .int .u64 0]) (t := 25) ?hr ?_; (case hd => rfl); (case hg => rfl); (case hr => first | (go_simp; done) | (go_simp; rfl)); intro gb227 hg w41 hbox hb; have BK227 := Aside0.mk (hbox); have GW227 := Aside0.mk ((by rw [hg]; exact (below_size (by repeat (first | (with_reducible first | exact HB.out | apply below_alloc | apply pw_below_drewN | apply below_drew1 | refine below_set ?_ GE209.out | refine below_set ?_ GE217.out | refine below_set ?_ GE223.out) | exact HB.out))) : w.heap.size ≤ gb227)); have GE227 := Aside0.mk ((by rw [hg]; exact (below_size (by repeat (first | (with_reducible first | exact HB.out | apply below_alloc | apply pw_below_drewN | apply below_drew1 | refine below_set ?_ GE209.out | refine below_set ?_ GE217.out | refine below_set ?_ GE223.out) | exact HB.out))) : w.heap.size ≤ gb227)); replace HB := Aside0.mk (below_step (by repeat (first | (with_reducible first | exact HB.out | apply below_alloc | apply pw_below_drewN | apply below_drew1 | refine below_set ?_ GE209.out | refine below_set ?_ GE217.out | refine below_set ?_ GE223.out) | exact HB.out)) hb); have NB209_227 := Aside0.mk ((by rw [hg]; exact Nat.ne_of_lt (blk_lt (bkA BK209.out)) : gb209 ≠ gb227)); have NB227_209 := Aside0.mk ((by rw [hg]; exact Nat.ne_of_gt (blk_lt (bkA BK209.out)) : gb227 ≠ gb209)); replace BK209 := Aside0.mk (blk_below (bkA BK209.out) hb); have NB217_227 := Aside0.mk ((by rw [hg]; exact Nat.ne_of_lt (blk_lt (bkA BK217.out)) : gb217 ≠ gb227)); have NB227_217 := Aside0.mk ((by rw [hg]; exact Nat.ne_of_gt (blk_lt (bkA BK217.out)) : gb227 ≠ gb217)); replace BK217 := Aside0.mk (blk_below (bkA BK217.out) hb); have NB223_227 := Aside0.mk ((by rw [hg]; exact Nat.ne_of_lt (blk_lt (bkA BK223.out)) : gb223 ≠ gb227)); have NB227_223 := Aside0.mk ((by rw [hg]; exact Nat.ne_of_gt (blk_lt (bkA BK223.out)) : gb227 ≠ gb223)); replace BK223 := Aside0.mk (blk_below (bkA BK223.out) hb); clear hb hbox hg; have hnb42 := NB227_209.out; have hnc42 := NB209_227.out; have hnb43 := NB227_217.out; have hnc43 := NB217_227.out; have hnb44 := NB227_223.out; have hnc44 := NB223_227.out; have hcz45_0 : w41.cell? ⟨gb227, 0, none⟩ = some (.int .u64 0) := (blk_cell BK227.out 0).trans rfl; have hcz45_1 : w41.cell? ⟨gb227, 1, none⟩ = some (.int .u64 0) := (blk_cell BK227.out 1).trans rfl; have hfz45_0 := blk_frozen BK227.out 0; have hfz45_1 := blk_frozen BK227.out 1; have hcz46_0 : w41.cell? ⟨gb223, 0, none⟩ = some (.int .u64 t220) := (blk_cell BK223.out 0).trans rfl; have hcz46_1 : w41.cell? ⟨gb223, 1, none⟩ = some (.int .u64 t221) := (blk_cell BK223.out 1).trans rfl; have hfz46_0 := blk_frozen BK223.out 0; have hfz46_1 := blk_frozen BK223.out 1))
           go_ret
           exact ⟨by first | rfl | (simp [errW_none, errW_some] <;> rfl) | (simp [*, errW_none, errW_some] <;> rfl), by repeat (first | (with_reducible first | exact HB.out | apply below_alloc | apply pw_below_drewN | apply below_drew1 | refine below_set ?_ GE209.out | refine below_set ?_ GE217.out | refine below_set ?_ GE223.out | refine below_set ?_ GE227.out) | exact HB.out)⟩
          ·
           rw [if_neg c34] at H
           have c34b0 : (t220 == t224 && (t221 == t225)) = false := by simpa using c34
           (try (have c34b1 : decide (t220 = t224 && (t221 == t225)) = false := by simpa using c34))
           (try (have c34b2 : (t220 == t224 && (t221 == t225)) = false := by simpa using c34))
           (try (have c34b3 : ¬ (t220 = t224 && (t221 == t225)) := by simpa using c34))
           clear c34
           by_cases c47 : (wrap64 (Int.tmod (IntKind.u64.wrap (a4)) (IntKind.u64.wrap (wrap64 (8 * (a0.size : Int)))))) ≥ a1
           ·
            rw [if_pos c47] at H
            have c47b0 : decide (a1 ≤ (wrap64 (Int.tmod (IntKind.u64.wrap (a4)) (IntKind.u64.wrap (wrap64 (8 * (a0.size : Int))))))) = true := decide_eq_true c47
            clear c47
            obtain rfl := Option.some.inj H
            go_wp2_with (first | ((with_reducible refine gate_callee (f := 13) rfl ?_); refine goesL_ (some 74) rfl rfl Try.func13 (by kernel_rfl) rfl #[.string a0, .int .i64 (wrap64 (Int.tmod (IntKind.u64.wrap (a4)) (IntKind.u64.wrap (wrap64 (8 * (a0.size : Int)))))), .int .i64 1] rfl (by (try simp only [List.map_toArray, List.map_cons, List.map_nil]); first | done | rfl | (simp only [List.length_drop, List.length_take]; rfl)) ?_; (with_reducible refine (field_Get.calls kj16 a0 (wrap64 (Int.tmod (IntKind.u64.wrap (a4)) (IntKind.u64.wrap (wrap64 (8 * (a0.size : Int)))))) 1 t220 t221 t222 _ A32.out).mono ?_); rintro e w48 ⟨rfl, hb⟩; refine ⟨_, rfl, ?_⟩; replace BK209 := Aside0.mk (blk_below (bkA BK209.out) hb); replace BK217 := Aside0.mk (blk_below (bkA BK217.out) hb); replace HB := Aside0.mk (below_step (by repeat (first | (with_reducible first | exact HB.out | apply below_alloc | apply pw_below_drewN | apply below_drew1 | refine below_set ?_ GE209.out | refine below_set ?_ GE217.out) | exact HB.out)) hb); (try clear hb); (try clear hb2); (try clear hk); (try clear hi)) | ((with_reducible refine gate_dst (N := 16) rfl ?_); (try (refine gate_guard (by rfl) ?_; dsimp only)); refine box_event ?hg (N := 16) ?hd (cs := #[.int .u64 0, .int .u64 0]) (t := 25) ?hr ?_; (case hd => rfl); (case hg => rfl); (case hr => first | (go_simp; done) | (go_simp; rfl)); intro gb223 hg w49 hbox hb; have BK223 := Aside0.mk (hbox); have GW223 := Aside0.mk ((by rw [hg]; exact (below_size (by repeat (first | (with_reducible first | exact HB.out | apply below_alloc | apply pw_below_drewN | apply below_drew1 | refine below_set ?_ GE209.out | refine below_set ?_ GE217.out) | exact HB.out))) : w.heap.size ≤ gb223)); have GE223 := Aside0.mk ((by rw [hg]; exact (below_size (by repeat (first | (with_reducible first | exact HB.out | apply below_alloc | apply pw_below_drewN | apply below_drew1 | refine below_set ?_ GE209.out | refine below_set ?_ GE217.out) | exact HB.out))) : w.heap.size ≤ gb223)); replace HB := Aside0.mk (below_step (by repeat (first | (with_reducible first | exact HB.out | apply below_alloc | apply pw_below_drewN | apply below_drew1 | refine below_set ?_ GE209.out | refine below_set ?_ GE217.out) | exact HB.out)) hb); have NB209_223 := Aside0.mk ((by rw [hg]; exact Nat.ne_of_lt (blk_lt (bkA BK209.out)) : gb209 ≠ gb223)); have NB223_209 := Aside0.mk ((by rw [hg]; exact Nat.ne_of_gt (blk_lt (bkA BK209.out)) : gb223 ≠ gb209)); replace BK209 := Aside0.mk (blk_below (bkA BK209.out) hb); have NB217_223 := Aside0.mk ((by rw [hg]; exact Nat.ne_of_lt (blk_lt (bkA BK217.out)) : gb217 ≠ gb223)); have NB223_217 := Aside0.mk ((by rw [hg]; exact Nat.ne_of_gt (blk_lt (bkA BK217.out)) : gb223 ≠ gb217)); replace BK217 := Aside0.mk (blk_below (bkA BK217.out) hb); clear hb hbox hg; have hnb50 := NB223_209.out; have hnc50 := NB209_223.out; have hnb51 := NB223_217.out; have hnc51 := NB217_223.out; have hcz52_0 : w49.cell? ⟨gb223, 0, none⟩ = some (.int .u64 0) := (blk_cell BK223.out 0).trans rfl; have hcz52_1 : w49.cell? ⟨gb223, 1, none⟩ = some (.int .u64 0) := (blk_cell BK223.out 1).trans rfl; have hfz52_0 := blk_frozen BK223.out 0; have hfz52_1 := blk_frozen BK223.out 1) | ((with_reducible refine gate_callee (f := 13) rfl ?_); refine goesL_ (some 80) rfl rfl Try.func13 (by kernel_rfl) rfl #[.string t212, .int .i64 (wrap64 (Int.tmod (IntKind.u64.wrap (a4)) (IntKind.u64.wrap (wrap64 (8 * (a0.size : Int)))))), .int .i64 1] rfl (by (try simp only [List.map_toArray, List.map_cons, List.map_nil]); first | done | rfl | (simp only [List.length_drop, List.length_take]; rfl)) ?_; (with_reducible refine (field_Get.calls kj16 t212 (wrap64 (Int.tmod (IntKind.u64.wrap (a4)) (IntKind.u64.wrap (wrap64 (8 * (a0.size : Int)))))) 1 t224 t225 t226 _ A33.out).mono ?_); rintro e w53 ⟨rfl, hb⟩; refine ⟨_, rfl, ?_⟩; replace BK209 := Aside0.mk (blk_below (g := gb209) (o := .cells #[.int .u64 a3_0, .int .u64 a3_1] 25 (0, 0)) (by (with_reducible repeat (first | refine blk_drewN ?_ _ | refine blk_drew ?_ | refine blk_alloc ?_ _)); refine blk_far ?_ NB209_223.out _; (with_reducible repeat (first | refine blk_drewN ?_ _ | refine blk_drew ?_ | refine blk_alloc ?_ _)); refine blk_far ?_ NB209_223.out _; (with_reducible repeat (first | refine blk_drewN ?_ _ | refine blk_drew ?_ | refine blk_alloc ?_ _)); exact BK209.out) hb); replace BK217 := Aside0.mk (blk_below (g := gb217) (o := .cells #[.int .u64 t214, .int .u64 t215] 25 (0, 0)) (by (with_reducible repeat (first | refine blk_drewN ?_ _ | refine blk_drew ?_ | refine blk_alloc ?_ _)); refine blk_far ?_ NB217_223.out _; (with_reducible repeat (first | refine blk_drewN ?_ _ | refine blk_drew ?_ | refine blk_alloc ?_ _)); refine blk_far ?_ NB217_223.out _; (with_reducible repeat (first | refine blk_drewN ?_ _ | refine blk_drew ?_ | refine blk_alloc ?_ _)); exact BK217.out) hb); replace BK223 := Aside0.mk (blk_below (g := gb223) (o := .cells #[.int .u64 t220, .int .u64 t221] 25 (0, 0)) (by (with_reducible repeat (first | refine blk_drewN ?_ _ | refine blk_drew ?_ | refine blk_alloc ?_ _)); refine blk_put (cs := #[.int .u64 t220, .int .u64 0]) ?_ 1 _ rfl; (with_reducible repeat (first | refine blk_drewN ?_ _ | refine blk_drew ?_ | refine blk_alloc ?_ _)); refine blk_put (cs := #[.int .u64 0, .int .u64 0]) ?_ 0 _ rfl; (with_reducible repeat (first | refine blk_drewN ?_ _ | refine blk_drew ?_ | refine blk_alloc ?_ _)); exact BK223.out) hb); replace HB := Aside0.mk (below_step (by repeat (first | (with_reducible first | exact HB.out | apply below_alloc | apply pw_below_drewN | apply below_drew1 | refine below_set ?_ GE209.out | refine below_set ?_ GE217.out | refine below_set ?_ GE223.out) | exact HB.out)) hb); (try clear hb); (try clear hb2); (try clear hk); (try clear hi)) | ((with_reducible refine gate_dst (N := 18) rfl ?_); (try (refine gate_guard (by rfl) ?_; dsimp only)); refine box_event ?hg (N := 18) ?hd (cs := #[.int .u64 0, .int .u64 0]) (t := 25) ?hr ?_; (case hd => rfl); (case hg => rfl); (case hr => first | (go_simp; done) | (go_simp; rfl)); intro gb227 hg w54 hbox hb; have BK227 := Aside0.mk (hbox); have GW227 := Aside0.mk ((by rw [hg]; exact (below_size (by repeat (first | (with_reducible first | exact HB.out | apply below_alloc | apply pw_below_drewN | apply below_drew1 | refine below_set ?_ GE209.out | refine below_set ?_ GE217.out | refine below_set ?_ GE223.out) | exact HB.out))) : w.heap.size ≤ gb227)); have GE227 := Aside0.mk ((by rw [hg]; exact (below_size (by repeat (first | (with_reducible first | exact HB.out | apply below_alloc | apply pw_below_drewN | apply below_drew1 | refine below_set ?_ GE209.out | refine below_set ?_ GE217.out | refine below_set ?_ GE223.out) | exact HB.out))) : w.heap.size ≤ gb227)); replace HB := Aside0.mk (below_step (by repeat (first | (with_reducible first | exact HB.out | apply below_alloc | apply pw_below_drewN | apply below_drew1 | refine below_set ?_ GE209.out | refine below_set ?_ GE217.out | refine below_set ?_ GE223.out) | exact HB.out)) hb); have NB209_227 := Aside0.mk ((by rw [hg]; exact Nat.ne_of_lt (blk_lt (bkA BK209.out)) : gb209 ≠ gb227)); have NB227_209 := Aside0.mk ((by rw [hg]; exact Nat.ne_of_gt (blk_lt (bkA BK209.out)) : gb227 ≠ gb209)); replace BK209 := Aside0.mk (blk_below (bkA BK209.out) hb); have NB217_227 := Aside0.mk ((by rw [hg]; exact Nat.ne_of_lt (blk_lt (bkA BK217.out)) : gb217 ≠ gb227)); have NB227_217 := Aside0.mk ((by rw [hg]; exact Nat.ne_of_gt (blk_lt (bkA BK217.out)) : gb227 ≠ gb217)); replace BK217 := Aside0.mk (blk_below (bkA BK217.out) hb); have NB223_227 := Aside0.mk ((by rw [hg]; exact Nat.ne_of_lt (blk_lt (bkA BK223.out)) : gb223 ≠ gb227)); have NB227_223 := Aside0.mk ((by rw [hg]; exact Nat.ne_of_gt (blk_lt (bkA BK223.out)) : gb227 ≠ gb223)); replace BK223 := Aside0.mk (blk_below (bkA BK223.out) hb); clear hb hbox hg; have hnb55 := NB227_209.out; have hnc55 := NB209_227.out; have hnb56 := NB227_217.out; have hnc56 := NB217_227.out; have hnb57 := NB227_223.out; have hnc57 := NB223_227.out; have hcz58_0 : w54.cell? ⟨gb227, 0, none⟩ = some (.int .u64 0) := (blk_cell BK227.out 0).trans rfl; have hcz58_1 : w54.cell? ⟨gb227, 1, none⟩ = some (.int .u64 0) := (blk_cell BK227.out 1).trans rfl; have hfz58_0 := blk_frozen BK227.out 0; have hfz58_1 := blk_frozen BK227.out 1; have hcz59_0 : w54.cell? ⟨gb223, 0, none⟩ = some (.int .u64 t220) := (blk_cell BK223.out 0).trans rfl; have hcz59_1 : w54.cell? ⟨gb223, 1, none⟩ = some (.int .u64 t221) := (blk_cell BK223.out 1).trans rfl; have hfz59_0 := blk_frozen BK223.out 0; have hfz59_1 := blk_frozen BK223.out 1))
            go_ret
            exact ⟨by first | rfl | (simp [errW_none, errW_some] <;> rfl) | (simp [*, errW_none, errW_some] <;> rfl), by repeat (first | (with_reducible first | exact HB.out | apply below_alloc | apply pw_below_drewN | apply below_drew1 | refine below_set ?_ GE209.out | refine below_set ?_ GE217.out | refine below_set ?_ GE223.out | refine below_set ?_ GE227.out) | exact HB.out)⟩
           ·
            rw [if_neg c47] at H
            have c47b0 : decide (a1 ≤ (wrap64 (Int.tmod (IntKind.u64.wrap (a4)) (IntKind.u64.wrap (wrap64 (8 * (a0.size : Int))))))) = false := decide_eq_false c47
            clear c47
            exact absurd ((Option.some.inj H).trans hr_.out) (by decide)
     ·
      rw [if_neg c15] at H
      have c15b0 : (t213 == 0) = false := beq_eq_false_iff_ne.mpr c15
      have c15b1 : (t213 != 0) = true := bne_iff_ne.mpr c15
      obtain rfl := Option.some.inj H
      have hcz60_0 : wc.cell? ⟨gb209, 0, none⟩ = some (.int .u64 a3_0) := (blk_cell BK209.out 0).trans rfl
      have hcz60_1 : wc.cell? ⟨gb209, 1, none⟩ = some (.int .u64 a3_1) := (blk_cell BK209.out 1).trans rfl
      have hfz60_0 := blk_frozen BK209.out 0
      have hfz60_1 := blk_frozen BK209.out 1
      go_wp2_with (first | ((with_reducible refine gate_callee (f := 15) rfl ?_); refine goesL_ (some 33) rfl rfl Try.func15 (by kernel_rfl) rfl #[.string a0, .int .i64 a1, .int .i64 a2, .agg #[.int .u64 a3_0, .int .u64 a3_1]] rfl (by (try simp only [List.map_toArray, List.map_cons, List.map_nil]); first | done | rfl | (simp only [List.length_drop, List.length_take]; rfl)) ?_; (with_reducible refine (field_Put.calls kj5 a0 a1 a2 a3_0 a3_1 t212 t213 _ A14.out).mono ?_); rintro e w61 ⟨rfl, hb⟩; refine ⟨_, rfl, ?_⟩; replace BK209 := Aside0.mk (blk_below (bkA BK209.out) hb); replace HB := Aside0.mk (below_step (by repeat (first | (with_reducible first | exact HB.out | apply below_alloc | apply pw_below_drewN | apply below_drew1 | refine below_set ?_ GE209.out) | exact HB.out)) hb); (try clear hb); (try clear hb2); (try clear hk); (try clear hi)))
      go_ret
      exact ⟨by first | rfl | (simp [errW_none, errW_some] <;> rfl) | (simp [*, errW_none, errW_some] <;> rfl), by repeat (first | (with_reducible first | exact HB.out | apply below_alloc | apply pw_below_drewN | apply below_drew1 | refine below_set ?_ GE209.out) | exact HB.out)⟩

/-- THE ONE PURE STATEMENT of turnoutlaw02_FieldBack: yours. -/
def turnoutlaw02_FieldBack.Pure : Prop := (∀ (a0 : ByteArray) (a1 : Int) (a2 : Int) (a3_0 : Int) (a3_1 : Int) (a4 : Int), a0.size ≤ 140737488351232 → (Lit.int .i64 a1).wf = true → (Lit.int .i64 a2).wf = true → (Lit.int .u64 a3_0).wf = true → (Lit.int .u64 a3_1).wf = true → (Lit.int .i64 a4).wf = true → ∃ k, turnoutlaw02_FieldBack.f k a0 a1 a2 a3_0 a3_1 a4 = some true) ∧ (∀ k r, turnoutlaw02_awake.f k = some r → r = true)
theorem turnoutlaw02_FieldBack.walk (P : turnoutlaw02_FieldBack.Pure) (a0 : ByteArray) (a1 : Int) (a2 : Int) (a3_0 : Int) (a3_1 : Int) (a4 : Int) (w : World) (w0 : a0.size ≤ 140737488351232) (w1 : (Lit.int .i64 a1).wf = true) (w2 : (Lit.int .i64 a2).wf = true) (w3_0 : (Lit.int .u64 a3_0).wf = true) (w3_1 : (Lit.int .u64 a3_1).wf = true) (w4 : (Lit.int .i64 a4).wf = true) :
   Calls Try.prog 5 #[.string a0, .int .i64 a1, .int .i64 a2, .agg #[.int .u64 a3_0, .int .u64 a3_1], .int .i64 a4] w fun e w' => e = .returned (.bool true) ∧ Below w.heap.size w w' := by
  obtain ⟨k, h⟩ := P.1 a0 a1 a2 a3_0 a3_1 a4 w0 w1 w2 w3_0 w3_1 w4
  refine (turnoutlaw02_FieldBack.calls k a0 a1 a2 a3_0 a3_1 a4 true w h ⟨rfl⟩ ⟨P.2⟩).mono ?_
  rintro e w' ⟨rfl, hd⟩
  exact ⟨rfl, hd⟩

end Go.Proofs.Ytgpahhobifdapaa.PField
