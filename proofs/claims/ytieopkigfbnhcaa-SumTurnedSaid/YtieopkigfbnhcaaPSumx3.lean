-- Written by wip/turnprint.py, a program of this session (the kit's print, turned).
import Derived.Test.YtieopkigfbnhcaaPSumx0
import Derived.Test.YtieopkigfbnhcaaPSumx1
import Derived.Test.YtieopkigfbnhcaaPSumx2
namespace Go.Proofs.Ytieopkigfbnhcaa.PSum
open Go.RowKit Go.Proofs.YtieopkigfbnhcaaW.PrintWords Go.Proofs.YtieopkigfbnhcaaW.PrintLast Go.Proofs.YtieopkigfbnhcaaW.PrintMore
attribute [local go_sem] max2_int min2_int max_two min_two max_three min_three max_four min_four   -- for this text's walks alone
set_option linter.unusedVariables false
set_option linter.unusedSimpArgs false

attribute [local go_sem high] xorA_u8 xorA_u16 xorA_u32 xorA_u64 gtr_str
/-! ### turnoutlaw03_SumGood: function 8 -/
def turnoutlaw03_SumGood.j0 : Nat → ByteArray → Int → Int → Int → Bool → Option (Bool)
  | 0, _, _, _, _, _ => none
  | k + 1, x0, x1, x2, x3, x19 => if x19 = true then ((turnoutlaw03_awake.f k).bind fun t198 => (some t198)) else ((turnoutlaw03_even.f x0).bind fun t199 => ((turnoutlaw03_place.f t199 x1).bind fun t200 => (if 0 ≤ t200 then (if t200 ≤ (t199.size : Int) then ((some (t199.extract 0 (t200 : Int).toNat : ByteArray)).bind fun y201 => ((sum_Of.f k (([t199] : List ByteArray))).bind fun t205 => ((turnoutlaw03_two.f t205).bind fun t206 => (if y201.size + t206.size ≤ 9223372036854775807 then ((some (y201 ++ t206 : ByteArray)).bind fun y207 => ((some (t199.extract (t200 : Int).toNat t199.size : ByteArray)).bind fun y208 => (if y207.size + y208.size ≤ 9223372036854775807 then ((some (y207 ++ y208 : ByteArray)).bind fun y209 => ((sum_Good.f k y209).bind fun t210 => (if t210 = true then (if (IntKind.u64.wrap (wrap64 ((y209.size : Int) / 2))) = 0 then (none) else (if 0 ≤ (wrap64 (2 * (wrap64 (Int.tmod (IntKind.u64.wrap (x2)) (IntKind.u64.wrap (wrap64 ((y209.size : Int) / 2))))))) then (if (wrap64 (2 * (wrap64 (Int.tmod (IntKind.u64.wrap (x2)) (IntKind.u64.wrap (wrap64 ((y209.size : Int) / 2))))))) < (y209.size : Int) then (if 0 ≤ (wrap64 ((wrap64 (2 * (wrap64 (Int.tmod (IntKind.u64.wrap (x2)) (IntKind.u64.wrap (wrap64 ((y209.size : Int) / 2))))))) + 1)) then (if (wrap64 ((wrap64 (2 * (wrap64 (Int.tmod (IntKind.u64.wrap (x2)) (IntKind.u64.wrap (wrap64 ((y209.size : Int) / 2))))))) + 1)) < (y209.size : Int) then (if (Int.tmod (Go.bits .or .u16 (IntKind.u16.wrap ((IntKind.u16.wrap (bt y209 (wrap64 (2 * (wrap64 (Int.tmod (IntKind.u64.wrap (x2)) (IntKind.u64.wrap (wrap64 ((y209.size : Int) / 2))))))))) * 256)) (IntKind.u16.wrap (bt y209 (wrap64 ((wrap64 (2 * (wrap64 (Int.tmod (IntKind.u64.wrap (x2)) (IntKind.u64.wrap (wrap64 ((y209.size : Int) / 2))))))) + 1))))) 65535) = (Int.tmod x3 65535) then (some true) else (if (wrap64 (2 * (wrap64 (Int.tmod (IntKind.u64.wrap (x2)) (IntKind.u64.wrap (wrap64 ((y209.size : Int) / 2))))))) ≤ (y209.size : Int) then ((some (y209.extract 0 ((wrap64 (2 * (wrap64 (Int.tmod (IntKind.u64.wrap (x2)) (IntKind.u64.wrap (wrap64 ((y209.size : Int) / 2))))))) : Int).toNat : ByteArray)).bind fun y211 => ((turnoutlaw03_two.f x3).bind fun t212 => (if y211.size + t212.size ≤ 9223372036854775807 then ((some (y211 ++ t212 : ByteArray)).bind fun y213 => (if 0 ≤ (wrap64 ((wrap64 (2 * (wrap64 (Int.tmod (IntKind.u64.wrap (x2)) (IntKind.u64.wrap (wrap64 ((y209.size : Int) / 2))))))) + 2)) then (if (wrap64 ((wrap64 (2 * (wrap64 (Int.tmod (IntKind.u64.wrap (x2)) (IntKind.u64.wrap (wrap64 ((y209.size : Int) / 2))))))) + 2)) ≤ (y209.size : Int) then ((some (y209.extract ((wrap64 ((wrap64 (2 * (wrap64 (Int.tmod (IntKind.u64.wrap (x2)) (IntKind.u64.wrap (wrap64 ((y209.size : Int) / 2))))))) + 2)) : Int).toNat y209.size : ByteArray)).bind fun y214 => (if y213.size + y214.size ≤ 9223372036854775807 then ((sum_Good.f k (y213 ++ y214)).bind fun t216 => (some (!t216))) else (none))) else (none)) else (none))) else (none)))) else (none))) else (none)) else (none)) else (none)) else (none))) else (some false)))) else (none)))) else (none))))) else (none)) else (none))))
def turnoutlaw03_SumGood.f (k : Nat) (a0 : ByteArray) (a1 : Int) (a2 : Int) (a3 : Int) : Option (Bool) := (turnoutlaw03_long.f k (([a0] : List ByteArray))).bind fun t196 => (if t196 = true then (turnoutlaw03_SumGood.j0 k a0 a1 a2 a3 true) else ((turnoutlaw03_awake.f k).bind fun t197 => (turnoutlaw03_SumGood.j0 k a0 a1 a2 a3 (!t197))))
theorem turnoutlaw03_SumGood.mono_l : ∀ k, (∀ y0 y1 y2 y3 y4, LeO (turnoutlaw03_SumGood.j0 k y0 y1 y2 y3 y4) (turnoutlaw03_SumGood.j0 (k + 1) y0 y1 y2 y3 y4))
  | 0 => fun _ _ _ _ _ r h => by simp [turnoutlaw03_SumGood.j0] at h
  | k + 1 => by
   have ih0 := turnoutlaw03_SumGood.mono_l k
   ·
    intro y0 y1 y2 y3 y4
    unfold turnoutlaw03_SumGood.j0
    repeat' first
    | (with_reducible exact ih0 _ _ _ _ _)
    | (with_reducible exact sum_Good.mono _ _)
    | (with_reducible exact sum_Of.mono _ _)
    | (with_reducible exact turnoutlaw03_awake.mono _)
    | (with_reducible exact turnoutlaw03_long.mono _ _)
    | (with_reducible exact LeO.refl _)
    | (with_reducible exact LeO.none _)
    | (with_reducible refine LeO.ite ?_ ?_)
    | (with_reducible refine LeO.bind ?_ (fun _ => ?_))
    | exact ih0 _ _ _ _ _
    | exact sum_Good.mono _ _
    | exact sum_Of.mono _ _
    | exact turnoutlaw03_awake.mono _
    | exact turnoutlaw03_long.mono _ _
    | exact LeO.none _
    | refine LeO.ite ?_ ?_
    | refine LeO.bind ?_ (fun _ => ?_)
theorem turnoutlaw03_SumGood.mono : ∀ a0 a1 a2 a3 k, LeO (turnoutlaw03_SumGood.f k a0 a1 a2 a3) (turnoutlaw03_SumGood.f (k + 1) a0 a1 a2 a3) := by
  intro a0 a1 a2 a3 k
  have ih0 := turnoutlaw03_SumGood.mono_l k
  unfold turnoutlaw03_SumGood.f
  repeat' first
    | (with_reducible exact ih0 _ _ _ _ _)
    | (with_reducible exact sum_Good.mono _ _)
    | (with_reducible exact sum_Of.mono _ _)
    | (with_reducible exact turnoutlaw03_awake.mono _)
    | (with_reducible exact turnoutlaw03_long.mono _ _)
    | (with_reducible exact LeO.refl _)
    | (with_reducible exact LeO.none _)
    | (with_reducible refine LeO.ite ?_ ?_)
    | (with_reducible refine LeO.bind ?_ (fun _ => ?_))
    | exact ih0 _ _ _ _ _
    | exact sum_Good.mono _ _
    | exact sum_Of.mono _ _
    | exact turnoutlaw03_awake.mono _
    | exact turnoutlaw03_long.mono _ _
    | exact LeO.none _
    | refine LeO.ite ?_ ?_
    | refine LeO.bind ?_ (fun _ => ?_)
def turnoutlaw03_SumGood.T5 : Bool × List (List Nat × List Nat) := (true, [([], []), ([], []), ([0, 1], [0, 1]), ([], []), ([3], [3]), ([4], [4]), ([5, 5], [5]), ([2, 6], [2, 6]), ([], []), ([], []), ([8, 9], [8, 9]), ([7, 10], [7, 10]), ([11, 6, 0, 1, 2, 3, 4, 5, 6, 7, 8, 9, 10, 11], [11])])
def turnoutlaw03_SumGood.B5 : List Nat := [0, 0, 3, 0, 8, 24, 56, 127, 0, 0, 768, 2047, 4095]
theorem turnoutlaw03_SumGood.tab5 : rtab .any (opsOf Try.f8 5) = turnoutlaw03_SumGood.T5 := by kernel_rfl
theorem turnoutlaw03_SumGood.bits5 : waitsOk turnoutlaw03_SumGood.T5.2 turnoutlaw03_SumGood.B5 = true := by kernel_rfl
def turnoutlaw03_SumGood.T9 : Bool × List (List Nat × List Nat) := (true, [([], []), ([], []), ([0, 1], [0, 1]), ([2], [2]), ([3], [3]), ([], []), ([], []), ([6], [6]), ([5, 7], [5, 7]), ([8], [8]), ([4, 9], [4, 9]), ([10, 0, 1, 2, 3, 4, 5, 6, 7, 8, 9, 10], [10])])
def turnoutlaw03_SumGood.B9 : List Nat := [0, 0, 3, 7, 15, 0, 0, 64, 224, 480, 1023, 2047]
theorem turnoutlaw03_SumGood.tab9 : rtab .any (opsOf Try.f8 9) = turnoutlaw03_SumGood.T9 := by kernel_rfl
theorem turnoutlaw03_SumGood.bits9 : waitsOk turnoutlaw03_SumGood.T9.2 turnoutlaw03_SumGood.B9 = true := by kernel_rfl
def turnoutlaw03_SumGood.T12 : Bool × List (List Nat × List Nat) := (true, [([], []), ([], []), ([0, 1], [0, 1]), ([], []), ([3], [3]), ([2, 4], [2, 4]), ([], []), ([], []), ([7], [7]), ([6, 8], [6, 8]), ([5, 9], [5, 9]), ([10, 4], [10]), ([11], [11]), ([12, 11, 0, 1, 2, 3, 4, 5, 6, 7, 8, 9, 10, 11, 12], [12])])
def turnoutlaw03_SumGood.B12 : List Nat := [0, 0, 3, 0, 8, 31, 0, 0, 128, 448, 1023, 2047, 4095, 8191]
theorem turnoutlaw03_SumGood.tab12 : rtab .any (opsOf Try.f8 12) = turnoutlaw03_SumGood.T12 := by kernel_rfl
theorem turnoutlaw03_SumGood.bits12 : waitsOk turnoutlaw03_SumGood.T12.2 turnoutlaw03_SumGood.B12 = true := by kernel_rfl
set_option maxHeartbeats 8000000 in
set_option maxRecDepth 100000 in
theorem turnoutlaw03_SumGood.calls (k : Nat) (a0 : ByteArray) (a1 : Int) (a2 : Int) (a3 : Int) (r : Bool) (w : World) (h : turnoutlaw03_SumGood.f k a0 a1 a2 a3 = some r) (hr_ : Aside0 (r = true)) (HAW12 : Aside0 (∀ k r, turnoutlaw03_awake.f k = some r → r = true)) :
   Calls Try.prog 8 #[.string a0, .int .i64 a1, .int .i64 a2, .int .u16 a3] w fun e w' => e = .returned (.bool r) ∧ Below w.heap.size w w' := by
  have HB := Aside0.mk (Below.refl w.heap.size w)
  have H : ((turnoutlaw03_long.f k (([a0] : List ByteArray))).bind fun t196 => (if t196 = true then (turnoutlaw03_SumGood.j0 k a0 a1 a2 a3 true) else ((turnoutlaw03_awake.f k).bind fun t197 => (turnoutlaw03_SumGood.j0 k a0 a1 a2 a3 (!t197))))) = some r := h
  clear h
  have HC5 := Aside0.mk H
  clear H
  go_enter Try.func8, Try.ntmps8
  go_upto_region 1 with (fail)
  go_cut [19] (fun v19 wc => ∃ (kq : Nat) (x19_4 : Bool), v19 = .bool x19_4 ∧ Aside0 (turnoutlaw03_SumGood.j0 kq a0 a1 a2 a3 x19_4 = some r) ∧ Aside0 (kq ≤ k) ∧ Aside0 (Below w.heap.size w wc))
  case first =>
   have H := HC5.out
   clear HC5
   obtain ⟨y193, hy193⟩ : ∃ y_ : List ByteArray, y_ = (([a0] : List ByteArray)) := ⟨_, rfl⟩
   replace H : ((turnoutlaw03_long.f k y193).bind fun t196 => (if t196 = true then (turnoutlaw03_SumGood.j0 k a0 a1 a2 a3 true) else ((turnoutlaw03_awake.f k).bind fun t197 => (turnoutlaw03_SumGood.j0 k a0 a1 a2 a3 (!t197))))) = some r := by first | (rw [hy193]; with_reducible exact H) | (have H2_ := (Option.bind_some _ _).symm.trans H; rw [hy193]; with_reducible exact H2_) | (have H2_ := (Option.bind_some _ _).symm.trans H; with_reducible exact H2_) | with_reducible exact H | (rw [hy193]; exact H) | exact H
   have Ny193 := Aside0.mk hy193
   clear hy193
   replace H := Option.bind_eq_some_iff.mp H
   obtain ⟨t196, A60, H⟩ := H
   replace H : (if t196 = true then (turnoutlaw03_SumGood.j0 k a0 a1 a2 a3 true) else ((turnoutlaw03_awake.f k).bind fun t197 => (turnoutlaw03_SumGood.j0 k a0 a1 a2 a3 (!t197)))) = some r := H
   have A6 := Aside0.mk A60
   clear A60
   by_cases c7 : t196 = true
   ·
    subst c7
    have H1 : (turnoutlaw03_SumGood.j0 k a0 a1 a2 a3 true) = some r := by rw [if_pos rfl] at H; exact H
    clear H; have H := H1; clear H1
    have H' := Aside0.mk H
    clear H
    go_wp2_with (first | ((with_reducible refine gate_dst (N := 14) rfl ?_); refine Kd.R_lit Kd.string _ 9 ?hg (N := 14) ?hd (xs := ([a0] : List ByteArray)) (inner := [.string a0]) (ok := fun _ => True) (okp := fun _ => True) ?hr ?hp (fun _ hk => hk) trivial (Below.refl _ _) (Nat.le_refl _) (by simp) ?_; (case hd => rfl); (case hg => rfl); (case hr => first | (go_simp; done) | (go_simp; rfl)); (case hp => exact (Reps.one (show Kd.M Kd.string _ _ _ a0 [.string a0] from rfl) (Reps.none _ _))); intro v194 w8 ho9 hb hg_ hnew_; clear hg_ hnew_; (first | rw [← Ny193.out] at ho9 | (simp only [Int.reduceToNat] at ho9; rw [← Ny193.out] at ho9)); have HO195 := Aside0.mk (Kd.R_lower ho9 (below_size (by repeat (first | (with_reducible first | exact HB.out | apply below_alloc | apply pw_below_drewN | apply below_drew1) | exact HB.out)))); replace HB := Aside0.mk (below_step (by repeat (first | (with_reducible first | exact HB.out | apply below_alloc | apply pw_below_drewN | apply below_drew1) | exact HB.out)) hb); clear hb ho9; obtain ⟨Ao10, co10, eo10⟩ := Kd.R_slice HO195.out; subst eo10) | ((with_reducible refine gate_callee (f := 18) rfl ?_); refine goesL_ (some 15) rfl rfl Try.func18 (by kernel_rfl) rfl #[.slice Ao10 y193.length co10] rfl (by (try simp only [List.map_toArray, List.map_cons, List.map_nil]); first | done | rfl | (simp only [List.length_drop, List.length_take]; rfl)) ?_; (with_reducible refine (turnoutlaw03_long.calls k _ _ y193 true _ ?side1 ?side2 A6.out).mono ?_); (case side1 => repeat (first | exact (Kd.R_reads' HO195.out).2.2 | (with_reducible refine Kd.C_alloc ?_ _) | (with_reducible refine Kd.C_drewN ?_ _) | (with_reducible refine Kd.C_drew ?_))); (case side2 => exact (Kd.R_reads' HO195.out).2.1); rintro e w11 ⟨rfl, hb⟩; refine ⟨_, rfl, ?_⟩; replace HO195 := Aside0.mk (Kd.R_below (by (with_reducible repeat (first | apply Kd.R_alloc | apply Kd.R_drewN | apply Kd.R_drew)); exact HO195.out) hb); replace HB := Aside0.mk (below_step (by repeat (first | (with_reducible first | exact HB.out | apply below_alloc | apply pw_below_drewN | apply below_drew1) | exact HB.out)) hb); (try clear hb); (try clear hb2); (try clear hk); (try clear hi)))
    go_meet
    case rel => exact ⟨_, (true), (by first | rfl | (simp; done) | (simp [*]; done)), H', ⟨by first | omega | exact Nat.le_refl _⟩, ⟨by repeat (first | (with_reducible first | exact HB.out | apply below_alloc | apply pw_below_drewN | apply below_drew1) | exact HB.out)⟩⟩
   ·
    replace c7 := Bool.eq_false_iff.mpr c7
    subst c7
    have H1 : ((turnoutlaw03_awake.f k).bind fun t197 => (turnoutlaw03_SumGood.j0 k a0 a1 a2 a3 (!t197))) = some r := by rw [if_neg (show ¬ (false = true) by decide)] at H; exact H
    clear H; have H := H1; clear H1
    replace H := Option.bind_eq_some_iff.mp H
    obtain ⟨t197, A120, H⟩ := H
    replace H : (turnoutlaw03_SumGood.j0 k a0 a1 a2 a3 (!t197)) = some r := H
    have A12 := Aside0.mk A120
    clear A120
    have H' := Aside0.mk H
    clear H
    go_wp2_with (first | ((with_reducible refine gate_dst (N := 14) rfl ?_); refine Kd.R_lit Kd.string _ 9 ?hg (N := 14) ?hd (xs := ([a0] : List ByteArray)) (inner := [.string a0]) (ok := fun _ => True) (okp := fun _ => True) ?hr ?hp (fun _ hk => hk) trivial (Below.refl _ _) (Nat.le_refl _) (by simp) ?_; (case hd => rfl); (case hg => rfl); (case hr => first | (go_simp; done) | (go_simp; rfl)); (case hp => exact (Reps.one (show Kd.M Kd.string _ _ _ a0 [.string a0] from rfl) (Reps.none _ _))); intro v194 w13 ho14 hb hg_ hnew_; clear hg_ hnew_; (first | rw [← Ny193.out] at ho14 | (simp only [Int.reduceToNat] at ho14; rw [← Ny193.out] at ho14)); have HO195 := Aside0.mk (Kd.R_lower ho14 (below_size (by repeat (first | (with_reducible first | exact HB.out | apply below_alloc | apply pw_below_drewN | apply below_drew1) | exact HB.out)))); replace HB := Aside0.mk (below_step (by repeat (first | (with_reducible first | exact HB.out | apply below_alloc | apply pw_below_drewN | apply below_drew1) | exact HB.out)) hb); clear hb ho14; obtain ⟨Ao15, co15, eo15⟩ := Kd.R_slice HO195.out; subst eo15) | ((with_reducible refine gate_callee (f := 18) rfl ?_); refine goesL_ (some 15) rfl rfl Try.func18 (by kernel_rfl) rfl #[.slice Ao15 y193.length co15] rfl (by (try simp only [List.map_toArray, List.map_cons, List.map_nil]); first | done | rfl | (simp only [List.length_drop, List.length_take]; rfl)) ?_; (with_reducible refine (turnoutlaw03_long.calls k _ _ y193 false _ ?side1 ?side2 A6.out).mono ?_); (case side1 => repeat (first | exact (Kd.R_reads' HO195.out).2.2 | (with_reducible refine Kd.C_alloc ?_ _) | (with_reducible refine Kd.C_drewN ?_ _) | (with_reducible refine Kd.C_drew ?_))); (case side2 => exact (Kd.R_reads' HO195.out).2.1); rintro e w16 ⟨rfl, hb⟩; refine ⟨_, rfl, ?_⟩; replace HO195 := Aside0.mk (Kd.R_below (by (with_reducible repeat (first | apply Kd.R_alloc | apply Kd.R_drewN | apply Kd.R_drew)); exact HO195.out) hb); replace HB := Aside0.mk (below_step (by repeat (first | (with_reducible first | exact HB.out | apply below_alloc | apply pw_below_drewN | apply below_drew1) | exact HB.out)) hb); (try clear hb); (try clear hb2); (try clear hk); (try clear hi)) | (go_at_call 12; (with_reducible refine (turnoutlaw03_awake.calls k  t197 _ A12.out ⟨HAW12.out _ _ A12.out⟩).mono ?_); rintro e w17 ⟨rfl, hb⟩; replace HO195 := Aside0.mk (Kd.R_below (by (with_reducible repeat (first | apply Kd.R_alloc | apply Kd.R_drewN | apply Kd.R_drew)); exact HO195.out) hb); replace HB := Aside0.mk (below_step (by repeat (first | (with_reducible first | exact HB.out | apply below_alloc | apply pw_below_drewN | apply below_drew1) | exact HB.out)) hb); (try clear hb); (try clear hb2); (try clear hk); (try clear hi)))
    go_meet
    case rel => exact ⟨_, (!t197), (by first | rfl | (simp; done) | (simp [*]; done)), H', ⟨by first | omega | exact Nat.le_refl _⟩, ⟨by repeat (first | (with_reducible first | exact HB.out | apply below_alloc | apply pw_below_drewN | apply below_drew1) | exact HB.out)⟩⟩
  case rest =>
   clear HC5
   try clear c1
   try clear p2
   try clear c7
   try clear c8
   obtain ⟨kq, x19_4, rfl, HA, HJ4, HB⟩ := hcut
   cases kq with
   | zero => exact absurd HA.out (by simp [turnoutlaw03_SumGood.j0])
   | succ kj4 =>
    have H := HA.out
    clear HA
    simp only [turnoutlaw03_SumGood.j0] at H
    by_cases c18 : x19_4 = true
    ·
     subst c18
     have H1 : ((turnoutlaw03_awake.f kj4).bind fun t198 => (some t198)) = some r := by rw [if_pos rfl] at H; exact H
     clear H; have H := H1; clear H1
     replace H := Option.bind_eq_some_iff.mp H
     obtain ⟨t198, A190, H⟩ := H
     replace H : (some t198) = some r := H
     have A19 := Aside0.mk A190
     clear A190
     obtain rfl := Option.some.inj H
     go_wp2_with (first | ((with_reducible refine gate_callee (f := 12) rfl ?_); refine goesL_ (some 20) rfl rfl Try.func12 (by kernel_rfl) rfl #[] rfl (by (try simp only [List.map_toArray, List.map_cons, List.map_nil]); first | done | rfl | (simp only [List.length_drop, List.length_take]; rfl)) ?_; (with_reducible refine (turnoutlaw03_awake.calls kj4  t198 _ A19.out ⟨HAW12.out _ _ A19.out⟩).mono ?_); rintro e w20 ⟨rfl, hb⟩; refine ⟨_, rfl, ?_⟩; replace HB := Aside0.mk (below_step (by repeat (first | (with_reducible first | exact HB.out | apply below_alloc | apply pw_below_drewN | apply below_drew1) | exact HB.out)) hb); (try clear hb); (try clear hb2); (try clear hk); (try clear hi)))
     go_ret
     exact ⟨by first | rfl | (simp [errW_none, errW_some] <;> rfl) | (simp [*, errW_none, errW_some] <;> rfl), by repeat (first | (with_reducible first | exact HB.out | apply below_alloc | apply pw_below_drewN | apply below_drew1) | exact HB.out)⟩
    ·
     replace c18 := Bool.eq_false_iff.mpr c18
     subst c18
     have H1 : ((turnoutlaw03_even.f a0).bind fun t199 => ((turnoutlaw03_place.f t199 a1).bind fun t200 => (if 0 ≤ t200 then (if t200 ≤ (t199.size : Int) then ((some (t199.extract 0 (t200 : Int).toNat : ByteArray)).bind fun y201 => ((sum_Of.f kj4 (([t199] : List ByteArray))).bind fun t205 => ((turnoutlaw03_two.f t205).bind fun t206 => (if y201.size + t206.size ≤ 9223372036854775807 then ((some (y201 ++ t206 : ByteArray)).bind fun y207 => ((some (t199.extract (t200 : Int).toNat t199.size : ByteArray)).bind fun y208 => (if y207.size + y208.size ≤ 9223372036854775807 then ((some (y207 ++ y208 : ByteArray)).bind fun y209 => ((sum_Good.f kj4 y209).bind fun t210 => (if t210 = true then (if (IntKind.u64.wrap (wrap64 ((y209.size : Int) / 2))) = 0 then (none) else (if 0 ≤ (wrap64 (2 * (wrap64 (Int.tmod (IntKind.u64.wrap (a2)) (IntKind.u64.wrap (wrap64 ((y209.size : Int) / 2))))))) then (if (wrap64 (2 * (wrap64 (Int.tmod (IntKind.u64.wrap (a2)) (IntKind.u64.wrap (wrap64 ((y209.size : Int) / 2))))))) < (y209.size : Int) then (if 0 ≤ (wrap64 ((wrap64 (2 * (wrap64 (Int.tmod (IntKind.u64.wrap (a2)) (IntKind.u64.wrap (wrap64 ((y209.size : Int) / 2))))))) + 1)) then (if (wrap64 ((wrap64 (2 * (wrap64 (Int.tmod (IntKind.u64.wrap (a2)) (IntKind.u64.wrap (wrap64 ((y209.size : Int) / 2))))))) + 1)) < (y209.size : Int) then (if (Int.tmod (Go.bits .or .u16 (IntKind.u16.wrap ((IntKind.u16.wrap (bt y209 (wrap64 (2 * (wrap64 (Int.tmod (IntKind.u64.wrap (a2)) (IntKind.u64.wrap (wrap64 ((y209.size : Int) / 2))))))))) * 256)) (IntKind.u16.wrap (bt y209 (wrap64 ((wrap64 (2 * (wrap64 (Int.tmod (IntKind.u64.wrap (a2)) (IntKind.u64.wrap (wrap64 ((y209.size : Int) / 2))))))) + 1))))) 65535) = (Int.tmod a3 65535) then (some true) else (if (wrap64 (2 * (wrap64 (Int.tmod (IntKind.u64.wrap (a2)) (IntKind.u64.wrap (wrap64 ((y209.size : Int) / 2))))))) ≤ (y209.size : Int) then ((some (y209.extract 0 ((wrap64 (2 * (wrap64 (Int.tmod (IntKind.u64.wrap (a2)) (IntKind.u64.wrap (wrap64 ((y209.size : Int) / 2))))))) : Int).toNat : ByteArray)).bind fun y211 => ((turnoutlaw03_two.f a3).bind fun t212 => (if y211.size + t212.size ≤ 9223372036854775807 then ((some (y211 ++ t212 : ByteArray)).bind fun y213 => (if 0 ≤ (wrap64 ((wrap64 (2 * (wrap64 (Int.tmod (IntKind.u64.wrap (a2)) (IntKind.u64.wrap (wrap64 ((y209.size : Int) / 2))))))) + 2)) then (if (wrap64 ((wrap64 (2 * (wrap64 (Int.tmod (IntKind.u64.wrap (a2)) (IntKind.u64.wrap (wrap64 ((y209.size : Int) / 2))))))) + 2)) ≤ (y209.size : Int) then ((some (y209.extract ((wrap64 ((wrap64 (2 * (wrap64 (Int.tmod (IntKind.u64.wrap (a2)) (IntKind.u64.wrap (wrap64 ((y209.size : Int) / 2))))))) + 2)) : Int).toNat y209.size : ByteArray)).bind fun y214 => (if y213.size + y214.size ≤ 9223372036854775807 then ((sum_Good.f kj4 (y213 ++ y214)).bind fun t216 => (some (!t216))) else (none))) else (none)) else (none))) else (none)))) else (none))) else (none)) else (none)) else (none)) else (none))) else (some false)))) else (none)))) else (none))))) else (none)) else (none)))) = some r := by rw [if_neg (show ¬ (false = true) by decide)] at H; exact H
     clear H; have H := H1; clear H1
     replace H := Option.bind_eq_some_iff.mp H
     obtain ⟨t199, A210, H⟩ := H
     replace H : ((turnoutlaw03_place.f t199 a1).bind fun t200 => (if 0 ≤ t200 then (if t200 ≤ (t199.size : Int) then ((some (t199.extract 0 (t200 : Int).toNat : ByteArray)).bind fun y201 => ((sum_Of.f kj4 (([t199] : List ByteArray))).bind fun t205 => ((turnoutlaw03_two.f t205).bind fun t206 => (if y201.size + t206.size ≤ 9223372036854775807 then ((some (y201 ++ t206 : ByteArray)).bind fun y207 => ((some (t199.extract (t200 : Int).toNat t199.size : ByteArray)).bind fun y208 => (if y207.size + y208.size ≤ 9223372036854775807 then ((some (y207 ++ y208 : ByteArray)).bind fun y209 => ((sum_Good.f kj4 y209).bind fun t210 => (if t210 = true then (if (IntKind.u64.wrap (wrap64 ((y209.size : Int) / 2))) = 0 then (none) else (if 0 ≤ (wrap64 (2 * (wrap64 (Int.tmod (IntKind.u64.wrap (a2)) (IntKind.u64.wrap (wrap64 ((y209.size : Int) / 2))))))) then (if (wrap64 (2 * (wrap64 (Int.tmod (IntKind.u64.wrap (a2)) (IntKind.u64.wrap (wrap64 ((y209.size : Int) / 2))))))) < (y209.size : Int) then (if 0 ≤ (wrap64 ((wrap64 (2 * (wrap64 (Int.tmod (IntKind.u64.wrap (a2)) (IntKind.u64.wrap (wrap64 ((y209.size : Int) / 2))))))) + 1)) then (if (wrap64 ((wrap64 (2 * (wrap64 (Int.tmod (IntKind.u64.wrap (a2)) (IntKind.u64.wrap (wrap64 ((y209.size : Int) / 2))))))) + 1)) < (y209.size : Int) then (if (Int.tmod (Go.bits .or .u16 (IntKind.u16.wrap ((IntKind.u16.wrap (bt y209 (wrap64 (2 * (wrap64 (Int.tmod (IntKind.u64.wrap (a2)) (IntKind.u64.wrap (wrap64 ((y209.size : Int) / 2))))))))) * 256)) (IntKind.u16.wrap (bt y209 (wrap64 ((wrap64 (2 * (wrap64 (Int.tmod (IntKind.u64.wrap (a2)) (IntKind.u64.wrap (wrap64 ((y209.size : Int) / 2))))))) + 1))))) 65535) = (Int.tmod a3 65535) then (some true) else (if (wrap64 (2 * (wrap64 (Int.tmod (IntKind.u64.wrap (a2)) (IntKind.u64.wrap (wrap64 ((y209.size : Int) / 2))))))) ≤ (y209.size : Int) then ((some (y209.extract 0 ((wrap64 (2 * (wrap64 (Int.tmod (IntKind.u64.wrap (a2)) (IntKind.u64.wrap (wrap64 ((y209.size : Int) / 2))))))) : Int).toNat : ByteArray)).bind fun y211 => ((turnoutlaw03_two.f a3).bind fun t212 => (if y211.size + t212.size ≤ 9223372036854775807 then ((some (y211 ++ t212 : ByteArray)).bind fun y213 => (if 0 ≤ (wrap64 ((wrap64 (2 * (wrap64 (Int.tmod (IntKind.u64.wrap (a2)) (IntKind.u64.wrap (wrap64 ((y209.size : Int) / 2))))))) + 2)) then (if (wrap64 ((wrap64 (2 * (wrap64 (Int.tmod (IntKind.u64.wrap (a2)) (IntKind.u64.wrap (wrap64 ((y209.size : Int) / 2))))))) + 2)) ≤ (y209.size : Int) then ((some (y209.extract ((wrap64 ((wrap64 (2 * (wrap64 (Int.tmod (IntKind.u64.wrap (a2)) (IntKind.u64.wrap (wrap64 ((y209.size : Int) / 2))))))) + 2)) : Int).toNat y209.size : ByteArray)).bind fun y214 => (if y213.size + y214.size ≤ 9223372036854775807 then ((sum_Good.f kj4 (y213 ++ y214)).bind fun t216 => (some (!t216))) else (none))) else (none)) else (none))) else (none)))) else (none))) else (none)) else (none)) else (none)) else (none))) else (some false)))) else (none)))) else (none))))) else (none)) else (none))) = some r := H
     have A21 := Aside0.mk A210
     clear A210
     replace H := Option.bind_eq_some_iff.mp H
     obtain ⟨t200, A220, H⟩ := H
     replace H : (if 0 ≤ t200 then (if t200 ≤ (t199.size : Int) then ((some (t199.extract 0 (t200 : Int).toNat : ByteArray)).bind fun y201 => ((sum_Of.f kj4 (([t199] : List ByteArray))).bind fun t205 => ((turnoutlaw03_two.f t205).bind fun t206 => (if y201.size + t206.size ≤ 9223372036854775807 then ((some (y201 ++ t206 : ByteArray)).bind fun y207 => ((some (t199.extract (t200 : Int).toNat t199.size : ByteArray)).bind fun y208 => (if y207.size + y208.size ≤ 9223372036854775807 then ((some (y207 ++ y208 : ByteArray)).bind fun y209 => ((sum_Good.f kj4 y209).bind fun t210 => (if t210 = true then (if (IntKind.u64.wrap (wrap64 ((y209.size : Int) / 2))) = 0 then (none) else (if 0 ≤ (wrap64 (2 * (wrap64 (Int.tmod (IntKind.u64.wrap (a2)) (IntKind.u64.wrap (wrap64 ((y209.size : Int) / 2))))))) then (if (wrap64 (2 * (wrap64 (Int.tmod (IntKind.u64.wrap (a2)) (IntKind.u64.wrap (wrap64 ((y209.size : Int) / 2))))))) < (y209.size : Int) then (if 0 ≤ (wrap64 ((wrap64 (2 * (wrap64 (Int.tmod (IntKind.u64.wrap (a2)) (IntKind.u64.wrap (wrap64 ((y209.size : Int) / 2))))))) + 1)) then (if (wrap64 ((wrap64 (2 * (wrap64 (Int.tmod (IntKind.u64.wrap (a2)) (IntKind.u64.wrap (wrap64 ((y209.size : Int) / 2))))))) + 1)) < (y209.size : Int) then (if (Int.tmod (Go.bits .or .u16 (IntKind.u16.wrap ((IntKind.u16.wrap (bt y209 (wrap64 (2 * (wrap64 (Int.tmod (IntKind.u64.wrap (a2)) (IntKind.u64.wrap (wrap64 ((y209.size : Int) / 2))))))))) * 256)) (IntKind.u16.wrap (bt y209 (wrap64 ((wrap64 (2 * (wrap64 (Int.tmod (IntKind.u64.wrap (a2)) (IntKind.u64.wrap (wrap64 ((y209.size : Int) / 2))))))) + 1))))) 65535) = (Int.tmod a3 65535) then (some true) else (if (wrap64 (2 * (wrap64 (Int.tmod (IntKind.u64.wrap (a2)) (IntKind.u64.wrap (wrap64 ((y209.size : Int) / 2))))))) ≤ (y209.size : Int) then ((some (y209.extract 0 ((wrap64 (2 * (wrap64 (Int.tmod (IntKind.u64.wrap (a2)) (IntKind.u64.wrap (wrap64 ((y209.size : Int) / 2))))))) : Int).toNat : ByteArray)).bind fun y211 => ((turnoutlaw03_two.f a3).bind fun t212 => (if y211.size + t212.size ≤ 9223372036854775807 then ((some (y211 ++ t212 : ByteArray)).bind fun y213 => (if 0 ≤ (wrap64 ((wrap64 (2 * (wrap64 (Int.tmod (IntKind.u64.wrap (a2)) (IntKind.u64.wrap (wrap64 ((y209.size : Int) / 2))))))) + 2)) then (if (wrap64 ((wrap64 (2 * (wrap64 (Int.tmod (IntKind.u64.wrap (a2)) (IntKind.u64.wrap (wrap64 ((y209.size : Int) / 2))))))) + 2)) ≤ (y209.size : Int) then ((some (y209.extract ((wrap64 ((wrap64 (2 * (wrap64 (Int.tmod (IntKind.u64.wrap (a2)) (IntKind.u64.wrap (wrap64 ((y209.size : Int) / 2))))))) + 2)) : Int).toNat y209.size : ByteArray)).bind fun y214 => (if y213.size + y214.size ≤ 9223372036854775807 then ((sum_Good.f kj4 (y213 ++ y214)).bind fun t216 => (some (!t216))) else (none))) else (none)) else (none))) else (none)))) else (none))) else (none)) else (none)) else (none)) else (none))) else (some false)))) else (none)))) else (none))))) else (none)) else (none)) = some r := H
     have A22 := Aside0.mk A220
     clear A220
     by_cases c23 : 0 ≤ t200
     ·
      rw [if_pos c23] at H
      have c23b0 := eq_true c23
      have c23b1 : decide (0 ≤ t200) = true := decide_eq_true c23
      clear c23
      by_cases c24 : t200 ≤ (t199.size : Int)
      ·
       rw [if_pos c24] at H
       have c24b0 := eq_true c24
       have c24b1 : decide (t200 ≤ (t199.size : Int)) = true := decide_eq_true c24
       clear c24
       obtain ⟨y201, hy201⟩ : ∃ y_ : ByteArray, (t199.extract 0 (t200 : Int).toNat) = y_ := ⟨_, rfl⟩
       replace H : ((sum_Of.f kj4 (([t199] : List ByteArray))).bind fun t205 => ((turnoutlaw03_two.f t205).bind fun t206 => (if y201.size + t206.size ≤ 9223372036854775807 then ((some (y201 ++ t206 : ByteArray)).bind fun y207 => ((some (t199.extract (t200 : Int).toNat t199.size : ByteArray)).bind fun y208 => (if y207.size + y208.size ≤ 9223372036854775807 then ((some (y207 ++ y208 : ByteArray)).bind fun y209 => ((sum_Good.f kj4 y209).bind fun t210 => (if t210 = true then (if (IntKind.u64.wrap (wrap64 ((y209.size : Int) / 2))) = 0 then (none) else (if 0 ≤ (wrap64 (2 * (wrap64 (Int.tmod (IntKind.u64.wrap (a2)) (IntKind.u64.wrap (wrap64 ((y209.size : Int) / 2))))))) then (if (wrap64 (2 * (wrap64 (Int.tmod (IntKind.u64.wrap (a2)) (IntKind.u64.wrap (wrap64 ((y209.size : Int) / 2))))))) < (y209.size : Int) then (if 0 ≤ (wrap64 ((wrap64 (2 * (wrap64 (Int.tmod (IntKind.u64.wrap (a2)) (IntKind.u64.wrap (wrap64 ((y209.size : Int) / 2))))))) + 1)) then (if (wrap64 ((wrap64 (2 * (wrap64 (Int.tmod (IntKind.u64.wrap (a2)) (IntKind.u64.wrap (wrap64 ((y209.size : Int) / 2))))))) + 1)) < (y209.size : Int) then (if (Int.tmod (Go.bits .or .u16 (IntKind.u16.wrap ((IntKind.u16.wrap (bt y209 (wrap64 (2 * (wrap64 (Int.tmod (IntKind.u64.wrap (a2)) (IntKind.u64.wrap (wrap64 ((y209.size : Int) / 2))))))))) * 256)) (IntKind.u16.wrap (bt y209 (wrap64 ((wrap64 (2 * (wrap64 (Int.tmod (IntKind.u64.wrap (a2)) (IntKind.u64.wrap (wrap64 ((y209.size : Int) / 2))))))) + 1))))) 65535) = (Int.tmod a3 65535) then (some true) else (if (wrap64 (2 * (wrap64 (Int.tmod (IntKind.u64.wrap (a2)) (IntKind.u64.wrap (wrap64 ((y209.size : Int) / 2))))))) ≤ (y209.size : Int) then ((some (y209.extract 0 ((wrap64 (2 * (wrap64 (Int.tmod (IntKind.u64.wrap (a2)) (IntKind.u64.wrap (wrap64 ((y209.size : Int) / 2))))))) : Int).toNat : ByteArray)).bind fun y211 => ((turnoutlaw03_two.f a3).bind fun t212 => (if y211.size + t212.size ≤ 9223372036854775807 then ((some (y211 ++ t212 : ByteArray)).bind fun y213 => (if 0 ≤ (wrap64 ((wrap64 (2 * (wrap64 (Int.tmod (IntKind.u64.wrap (a2)) (IntKind.u64.wrap (wrap64 ((y209.size : Int) / 2))))))) + 2)) then (if (wrap64 ((wrap64 (2 * (wrap64 (Int.tmod (IntKind.u64.wrap (a2)) (IntKind.u64.wrap (wrap64 ((y209.size : Int) / 2))))))) + 2)) ≤ (y209.size : Int) then ((some (y209.extract ((wrap64 ((wrap64 (2 * (wrap64 (Int.tmod (IntKind.u64.wrap (a2)) (IntKind.u64.wrap (wrap64 ((y209.size : Int) / 2))))))) + 2)) : Int).toNat y209.size : ByteArray)).bind fun y214 => (if y213.size + y214.size ≤ 9223372036854775807 then ((sum_Good.f kj4 (y213 ++ y214)).bind fun t216 => (some (!t216))) else (none))) else (none)) else (none))) else (none)))) else (none))) else (none)) else (none)) else (none)) else (none))) else (some false)))) else (none)))) else (none)))) = some r := by first | (rw [← hy201]; exact H) | exact H
       obtain ⟨y202, hy202⟩ : ∃ y_ : List ByteArray, y_ = (([t199] : List ByteArray)) := ⟨_, rfl⟩
       replace H : ((sum_Of.f kj4 y202).bind fun t205 => ((turnoutlaw03_two.f t205).bind fun t206 => (if y201.size + t206.size ≤ 9223372036854775807 then ((some (y201 ++ t206 : ByteArray)).bind fun y207 => ((some (t199.extract (t200 : Int).toNat t199.size : ByteArray)).bind fun y208 => (if y207.size + y208.size ≤ 9223372036854775807 then ((some (y207 ++ y208 : ByteArray)).bind fun y209 => ((sum_Good.f kj4 y209).bind fun t210 => (if t210 = true then (if (IntKind.u64.wrap (wrap64 ((y209.size : Int) / 2))) = 0 then (none) else (if 0 ≤ (wrap64 (2 * (wrap64 (Int.tmod (IntKind.u64.wrap (a2)) (IntKind.u64.wrap (wrap64 ((y209.size : Int) / 2))))))) then (if (wrap64 (2 * (wrap64 (Int.tmod (IntKind.u64.wrap (a2)) (IntKind.u64.wrap (wrap64 ((y209.size : Int) / 2))))))) < (y209.size : Int) then (if 0 ≤ (wrap64 ((wrap64 (2 * (wrap64 (Int.tmod (IntKind.u64.wrap (a2)) (IntKind.u64.wrap (wrap64 ((y209.size : Int) / 2))))))) + 1)) then (if (wrap64 ((wrap64 (2 * (wrap64 (Int.tmod (IntKind.u64.wrap (a2)) (IntKind.u64.wrap (wrap64 ((y209.size : Int) / 2))))))) + 1)) < (y209.size : Int) then (if (Int.tmod (Go.bits .or .u16 (IntKind.u16.wrap ((IntKind.u16.wrap (bt y209 (wrap64 (2 * (wrap64 (Int.tmod (IntKind.u64.wrap (a2)) (IntKind.u64.wrap (wrap64 ((y209.size : Int) / 2))))))))) * 256)) (IntKind.u16.wrap (bt y209 (wrap64 ((wrap64 (2 * (wrap64 (Int.tmod (IntKind.u64.wrap (a2)) (IntKind.u64.wrap (wrap64 ((y209.size : Int) / 2))))))) + 1))))) 65535) = (Int.tmod a3 65535) then (some true) else (if (wrap64 (2 * (wrap64 (Int.tmod (IntKind.u64.wrap (a2)) (IntKind.u64.wrap (wrap64 ((y209.size : Int) / 2))))))) ≤ (y209.size : Int) then ((some (y209.extract 0 ((wrap64 (2 * (wrap64 (Int.tmod (IntKind.u64.wrap (a2)) (IntKind.u64.wrap (wrap64 ((y209.size : Int) / 2))))))) : Int).toNat : ByteArray)).bind fun y211 => ((turnoutlaw03_two.f a3).bind fun t212 => (if y211.size + t212.size ≤ 9223372036854775807 then ((some (y211 ++ t212 : ByteArray)).bind fun y213 => (if 0 ≤ (wrap64 ((wrap64 (2 * (wrap64 (Int.tmod (IntKind.u64.wrap (a2)) (IntKind.u64.wrap (wrap64 ((y209.size : Int) / 2))))))) + 2)) then (if (wrap64 ((wrap64 (2 * (wrap64 (Int.tmod (IntKind.u64.wrap (a2)) (IntKind.u64.wrap (wrap64 ((y209.size : Int) / 2))))))) + 2)) ≤ (y209.size : Int) then ((some (y209.extract ((wrap64 ((wrap64 (2 * (wrap64 (Int.tmod (IntKind.u64.wrap (a2)) (IntKind.u64.wrap (wrap64 ((y209.size : Int) / 2))))))) + 2)) : Int).toNat y209.size : ByteArray)).bind fun y214 => (if y213.size + y214.size ≤ 9223372036854775807 then ((sum_Good.f kj4 (y213 ++ y214)).bind fun t216 => (some (!t216))) else (none))) else (none)) else (none))) else (none)))) else (none))) else (none)) else (none)) else (none)) else (none))) else (some false)))) else (none)))) else (none)))) = some r := by first | (rw [hy202]; with_reducible exact H) | (have H2_ := (Option.bind_some _ _).symm.trans H; rw [hy202]; with_reducible exact H2_) | (have H2_ := (Option.bind_some _ _).symm.trans H; with_reducible exact H2_) | with_reducible exact H | (rw [hy202]; exact H) | exact H
       have Ny202 := Aside0.mk hy202
       clear hy202
       replace H := Option.bind_eq_some_iff.mp H
       obtain ⟨t205, A250, H⟩ := H
       replace H : ((turnoutlaw03_two.f t205).bind fun t206 => (if y201.size + t206.size ≤ 9223372036854775807 then ((some (y201 ++ t206 : ByteArray)).bind fun y207 => ((some (t199.extract (t200 : Int).toNat t199.size : ByteArray)).bind fun y208 => (if y207.size + y208.size ≤ 9223372036854775807 then ((some (y207 ++ y208 : ByteArray)).bind fun y209 => ((sum_Good.f kj4 y209).bind fun t210 => (if t210 = true then (if (IntKind.u64.wrap (wrap64 ((y209.size : Int) / 2))) = 0 then (none) else (if 0 ≤ (wrap64 (2 * (wrap64 (Int.tmod (IntKind.u64.wrap (a2)) (IntKind.u64.wrap (wrap64 ((y209.size : Int) / 2))))))) then (if (wrap64 (2 * (wrap64 (Int.tmod (IntKind.u64.wrap (a2)) (IntKind.u64.wrap (wrap64 ((y209.size : Int) / 2))))))) < (y209.size : Int) then (if 0 ≤ (wrap64 ((wrap64 (2 * (wrap64 (Int.tmod (IntKind.u64.wrap (a2)) (IntKind.u64.wrap (wrap64 ((y209.size : Int) / 2))))))) + 1)) then (if (wrap64 ((wrap64 (2 * (wrap64 (Int.tmod (IntKind.u64.wrap (a2)) (IntKind.u64.wrap (wrap64 ((y209.size : Int) / 2))))))) + 1)) < (y209.size : Int) then (if (Int.tmod (Go.bits .or .u16 (IntKind.u16.wrap ((IntKind.u16.wrap (bt y209 (wrap64 (2 * (wrap64 (Int.tmod (IntKind.u64.wrap (a2)) (IntKind.u64.wrap (wrap64 ((y209.size : Int) / 2))))))))) * 256)) (IntKind.u16.wrap (bt y209 (wrap64 ((wrap64 (2 * (wrap64 (Int.tmod (IntKind.u64.wrap (a2)) (IntKind.u64.wrap (wrap64 ((y209.size : Int) / 2))))))) + 1))))) 65535) = (Int.tmod a3 65535) then (some true) else (if (wrap64 (2 * (wrap64 (Int.tmod (IntKind.u64.wrap (a2)) (IntKind.u64.wrap (wrap64 ((y209.size : Int) / 2))))))) ≤ (y209.size : Int) then ((some (y209.extract 0 ((wrap64 (2 * (wrap64 (Int.tmod (IntKind.u64.wrap (a2)) (IntKind.u64.wrap (wrap64 ((y209.size : Int) / 2))))))) : Int).toNat : ByteArray)).bind fun y211 => ((turnoutlaw03_two.f a3).bind fun t212 => (if y211.size + t212.size ≤ 9223372036854775807 then ((some (y211 ++ t212 : ByteArray)).bind fun y213 => (if 0 ≤ (wrap64 ((wrap64 (2 * (wrap64 (Int.tmod (IntKind.u64.wrap (a2)) (IntKind.u64.wrap (wrap64 ((y209.size : Int) / 2))))))) + 2)) then (if (wrap64 ((wrap64 (2 * (wrap64 (Int.tmod (IntKind.u64.wrap (a2)) (IntKind.u64.wrap (wrap64 ((y209.size : Int) / 2))))))) + 2)) ≤ (y209.size : Int) then ((some (y209.extract ((wrap64 ((wrap64 (2 * (wrap64 (Int.tmod (IntKind.u64.wrap (a2)) (IntKind.u64.wrap (wrap64 ((y209.size : Int) / 2))))))) + 2)) : Int).toNat y209.size : ByteArray)).bind fun y214 => (if y213.size + y214.size ≤ 9223372036854775807 then ((sum_Good.f kj4 (y213 ++ y214)).bind fun t216 => (some (!t216))) else (none))) else (none)) else (none))) else (none)))) else (none))) else (none)) else (none)) else (none)) else (none))) else (some false)))) else (none)))) else (none))) = some r := H
       have A25 := Aside0.mk A250
       clear A250
       replace H := Option.bind_eq_some_iff.mp H
       obtain ⟨t206, A260, H⟩ := H
       replace H : (if y201.size + t206.size ≤ 9223372036854775807 then ((some (y201 ++ t206 : ByteArray)).bind fun y207 => ((some (t199.extract (t200 : Int).toNat t199.size : ByteArray)).bind fun y208 => (if y207.size + y208.size ≤ 9223372036854775807 then ((some (y207 ++ y208 : ByteArray)).bind fun y209 => ((sum_Good.f kj4 y209).bind fun t210 => (if t210 = true then (if (IntKind.u64.wrap (wrap64 ((y209.size : Int) / 2))) = 0 then (none) else (if 0 ≤ (wrap64 (2 * (wrap64 (Int.tmod (IntKind.u64.wrap (a2)) (IntKind.u64.wrap (wrap64 ((y209.size : Int) / 2))))))) then (if (wrap64 (2 * (wrap64 (Int.tmod (IntKind.u64.wrap (a2)) (IntKind.u64.wrap (wrap64 ((y209.size : Int) / 2))))))) < (y209.size : Int) then (if 0 ≤ (wrap64 ((wrap64 (2 * (wrap64 (Int.tmod (IntKind.u64.wrap (a2)) (IntKind.u64.wrap (wrap64 ((y209.size : Int) / 2))))))) + 1)) then (if (wrap64 ((wrap64 (2 * (wrap64 (Int.tmod (IntKind.u64.wrap (a2)) (IntKind.u64.wrap (wrap64 ((y209.size : Int) / 2))))))) + 1)) < (y209.size : Int) then (if (Int.tmod (Go.bits .or .u16 (IntKind.u16.wrap ((IntKind.u16.wrap (bt y209 (wrap64 (2 * (wrap64 (Int.tmod (IntKind.u64.wrap (a2)) (IntKind.u64.wrap (wrap64 ((y209.size : Int) / 2))))))))) * 256)) (IntKind.u16.wrap (bt y209 (wrap64 ((wrap64 (2 * (wrap64 (Int.tmod (IntKind.u64.wrap (a2)) (IntKind.u64.wrap (wrap64 ((y209.size : Int) / 2))))))) + 1))))) 65535) = (Int.tmod a3 65535) then (some true) else (if (wrap64 (2 * (wrap64 (Int.tmod (IntKind.u64.wrap (a2)) (IntKind.u64.wrap (wrap64 ((y209.size : Int) / 2))))))) ≤ (y209.size : Int) then ((some (y209.extract 0 ((wrap64 (2 * (wrap64 (Int.tmod (IntKind.u64.wrap (a2)) (IntKind.u64.wrap (wrap64 ((y209.size : Int) / 2))))))) : Int).toNat : ByteArray)).bind fun y211 => ((turnoutlaw03_two.f a3).bind fun t212 => (if y211.size + t212.size ≤ 9223372036854775807 then ((some (y211 ++ t212 : ByteArray)).bind fun y213 => (if 0 ≤ (wrap64 ((wrap64 (2 * (wrap64 (Int.tmod (IntKind.u64.wrap (a2)) (IntKind.u64.wrap (wrap64 ((y209.size : Int) / 2))))))) + 2)) then (if (wrap64 ((wrap64 (2 * (wrap64 (Int.tmod (IntKind.u64.wrap (a2)) (IntKind.u64.wrap (wrap64 ((y209.size : Int) / 2))))))) + 2)) ≤ (y209.size : Int) then ((some (y209.extract ((wrap64 ((wrap64 (2 * (wrap64 (Int.tmod (IntKind.u64.wrap (a2)) (IntKind.u64.wrap (wrap64 ((y209.size : Int) / 2))))))) + 2)) : Int).toNat y209.size : ByteArray)).bind fun y214 => (if y213.size + y214.size ≤ 9223372036854775807 then ((sum_Good.f kj4 (y213 ++ y214)).bind fun t216 => (some (!t216))) else (none))) else (none)) else (none))) else (none)))) else (none))) else (none)) else (none)) else (none)) else (none))) else (some false)))) else (none)))) else (none)) = some r := H
       have A26 := Aside0.mk A260
       clear A260
       by_cases c27 : y201.size + t206.size ≤ 9223372036854775807
       ·
        rw [if_pos c27] at H
        have c27b0 := eq_true c27
        have c27b1 : decide (y201.size + t206.size ≤ 9223372036854775807) = true := decide_eq_true c27
        try have c27b2 : (9223372036854775807 < y201.size + t206.size) = False := eq_false (Nat.not_lt.2 c27)
        obtain ⟨y207, hy207⟩ : ∃ y_ : ByteArray, (y201 ++ t206) = y_ := ⟨_, rfl⟩
        replace H : ((some (t199.extract (t200 : Int).toNat t199.size : ByteArray)).bind fun y208 => (if y207.size + y208.size ≤ 9223372036854775807 then ((some (y207 ++ y208 : ByteArray)).bind fun y209 => ((sum_Good.f kj4 y209).bind fun t210 => (if t210 = true then (if (IntKind.u64.wrap (wrap64 ((y209.size : Int) / 2))) = 0 then (none) else (if 0 ≤ (wrap64 (2 * (wrap64 (Int.tmod (IntKind.u64.wrap (a2)) (IntKind.u64.wrap (wrap64 ((y209.size : Int) / 2))))))) then (if (wrap64 (2 * (wrap64 (Int.tmod (IntKind.u64.wrap (a2)) (IntKind.u64.wrap (wrap64 ((y209.size : Int) / 2))))))) < (y209.size : Int) then (if 0 ≤ (wrap64 ((wrap64 (2 * (wrap64 (Int.tmod (IntKind.u64.wrap (a2)) (IntKind.u64.wrap (wrap64 ((y209.size : Int) / 2))))))) + 1)) then (if (wrap64 ((wrap64 (2 * (wrap64 (Int.tmod (IntKind.u64.wrap (a2)) (IntKind.u64.wrap (wrap64 ((y209.size : Int) / 2))))))) + 1)) < (y209.size : Int) then (if (Int.tmod (Go.bits .or .u16 (IntKind.u16.wrap ((IntKind.u16.wrap (bt y209 (wrap64 (2 * (wrap64 (Int.tmod (IntKind.u64.wrap (a2)) (IntKind.u64.wrap (wrap64 ((y209.size : Int) / 2))))))))) * 256)) (IntKind.u16.wrap (bt y209 (wrap64 ((wrap64 (2 * (wrap64 (Int.tmod (IntKind.u64.wrap (a2)) (IntKind.u64.wrap (wrap64 ((y209.size : Int) / 2))))))) + 1))))) 65535) = (Int.tmod a3 65535) then (some true) else (if (wrap64 (2 * (wrap64 (Int.tmod (IntKind.u64.wrap (a2)) (IntKind.u64.wrap (wrap64 ((y209.size : Int) / 2))))))) ≤ (y209.size : Int) then ((some (y209.extract 0 ((wrap64 (2 * (wrap64 (Int.tmod (IntKind.u64.wrap (a2)) (IntKind.u64.wrap (wrap64 ((y209.size : Int) / 2))))))) : Int).toNat : ByteArray)).bind fun y211 => ((turnoutlaw03_two.f a3).bind fun t212 => (if y211.size + t212.size ≤ 9223372036854775807 then ((some (y211 ++ t212 : ByteArray)).bind fun y213 => (if 0 ≤ (wrap64 ((wrap64 (2 * (wrap64 (Int.tmod (IntKind.u64.wrap (a2)) (IntKind.u64.wrap (wrap64 ((y209.size : Int) / 2))))))) + 2)) then (if (wrap64 ((wrap64 (2 * (wrap64 (Int.tmod (IntKind.u64.wrap (a2)) (IntKind.u64.wrap (wrap64 ((y209.size : Int) / 2))))))) + 2)) ≤ (y209.size : Int) then ((some (y209.extract ((wrap64 ((wrap64 (2 * (wrap64 (Int.tmod (IntKind.u64.wrap (a2)) (IntKind.u64.wrap (wrap64 ((y209.size : Int) / 2))))))) + 2)) : Int).toNat y209.size : ByteArray)).bind fun y214 => (if y213.size + y214.size ≤ 9223372036854775807 then ((sum_Good.f kj4 (y213 ++ y214)).bind fun t216 => (some (!t216))) else (none))) else (none)) else (none))) else (none)))) else (none))) else (none)) else (none)) else (none)) else (none))) else (some false)))) else (none))) = some r := by first | (rw [← hy207]; exact H) | exact H
        have c28b0 := eq_true (of_decide_eq_true (by first | (with_reducible assumption) | assumption) : 0 ≤ t200)
        have c29b0 := eq_true (of_decide_eq_true (by first | (with_reducible assumption) | assumption) : t200 ≤ (t199.size : Int))
        obtain ⟨y208, hy208⟩ : ∃ y_ : ByteArray, (t199.extract (t200 : Int).toNat t199.size) = y_ := ⟨_, rfl⟩
        replace H : (if y207.size + y208.size ≤ 9223372036854775807 then ((some (y207 ++ y208 : ByteArray)).bind fun y209 => ((sum_Good.f kj4 y209).bind fun t210 => (if t210 = true then (if (IntKind.u64.wrap (wrap64 ((y209.size : Int) / 2))) = 0 then (none) else (if 0 ≤ (wrap64 (2 * (wrap64 (Int.tmod (IntKind.u64.wrap (a2)) (IntKind.u64.wrap (wrap64 ((y209.size : Int) / 2))))))) then (if (wrap64 (2 * (wrap64 (Int.tmod (IntKind.u64.wrap (a2)) (IntKind.u64.wrap (wrap64 ((y209.size : Int) / 2))))))) < (y209.size : Int) then (if 0 ≤ (wrap64 ((wrap64 (2 * (wrap64 (Int.tmod (IntKind.u64.wrap (a2)) (IntKind.u64.wrap (wrap64 ((y209.size : Int) / 2))))))) + 1)) then (if (wrap64 ((wrap64 (2 * (wrap64 (Int.tmod (IntKind.u64.wrap (a2)) (IntKind.u64.wrap (wrap64 ((y209.size : Int) / 2))))))) + 1)) < (y209.size : Int) then (if (Int.tmod (Go.bits .or .u16 (IntKind.u16.wrap ((IntKind.u16.wrap (bt y209 (wrap64 (2 * (wrap64 (Int.tmod (IntKind.u64.wrap (a2)) (IntKind.u64.wrap (wrap64 ((y209.size : Int) / 2))))))))) * 256)) (IntKind.u16.wrap (bt y209 (wrap64 ((wrap64 (2 * (wrap64 (Int.tmod (IntKind.u64.wrap (a2)) (IntKind.u64.wrap (wrap64 ((y209.size : Int) / 2))))))) + 1))))) 65535) = (Int.tmod a3 65535) then (some true) else (if (wrap64 (2 * (wrap64 (Int.tmod (IntKind.u64.wrap (a2)) (IntKind.u64.wrap (wrap64 ((y209.size : Int) / 2))))))) ≤ (y209.size : Int) then ((some (y209.extract 0 ((wrap64 (2 * (wrap64 (Int.tmod (IntKind.u64.wrap (a2)) (IntKind.u64.wrap (wrap64 ((y209.size : Int) / 2))))))) : Int).toNat : ByteArray)).bind fun y211 => ((turnoutlaw03_two.f a3).bind fun t212 => (if y211.size + t212.size ≤ 9223372036854775807 then ((some (y211 ++ t212 : ByteArray)).bind fun y213 => (if 0 ≤ (wrap64 ((wrap64 (2 * (wrap64 (Int.tmod (IntKind.u64.wrap (a2)) (IntKind.u64.wrap (wrap64 ((y209.size : Int) / 2))))))) + 2)) then (if (wrap64 ((wrap64 (2 * (wrap64 (Int.tmod (IntKind.u64.wrap (a2)) (IntKind.u64.wrap (wrap64 ((y209.size : Int) / 2))))))) + 2)) ≤ (y209.size : Int) then ((some (y209.extract ((wrap64 ((wrap64 (2 * (wrap64 (Int.tmod (IntKind.u64.wrap (a2)) (IntKind.u64.wrap (wrap64 ((y209.size : Int) / 2))))))) + 2)) : Int).toNat y209.size : ByteArray)).bind fun y214 => (if y213.size + y214.size ≤ 9223372036854775807 then ((sum_Good.f kj4 (y213 ++ y214)).bind fun t216 => (some (!t216))) else (none))) else (none)) else (none))) else (none)))) else (none))) else (none)) else (none)) else (none)) else (none))) else (some false)))) else (none)) = some r := by first | (rw [← hy208]; exact H) | exact H
        by_cases c30 : y207.size + y208.size ≤ 9223372036854775807
        ·
         rw [if_pos c30] at H
         have c30b0 := eq_true c30
         have c30b1 : decide (y207.size + y208.size ≤ 9223372036854775807) = true := decide_eq_true c30
         try have c30b2 : (9223372036854775807 < y207.size + y208.size) = False := eq_false (Nat.not_lt.2 c30)
         obtain ⟨y209, hy209⟩ : ∃ y_ : ByteArray, (y207 ++ y208) = y_ := ⟨_, rfl⟩
         replace H : ((sum_Good.f kj4 y209).bind fun t210 => (if t210 = true then (if (IntKind.u64.wrap (wrap64 ((y209.size : Int) / 2))) = 0 then (none) else (if 0 ≤ (wrap64 (2 * (wrap64 (Int.tmod (IntKind.u64.wrap (a2)) (IntKind.u64.wrap (wrap64 ((y209.size : Int) / 2))))))) then (if (wrap64 (2 * (wrap64 (Int.tmod (IntKind.u64.wrap (a2)) (IntKind.u64.wrap (wrap64 ((y209.size : Int) / 2))))))) < (y209.size : Int) then (if 0 ≤ (wrap64 ((wrap64 (2 * (wrap64 (Int.tmod (IntKind.u64.wrap (a2)) (IntKind.u64.wrap (wrap64 ((y209.size : Int) / 2))))))) + 1)) then (if (wrap64 ((wrap64 (2 * (wrap64 (Int.tmod (IntKind.u64.wrap (a2)) (IntKind.u64.wrap (wrap64 ((y209.size : Int) / 2))))))) + 1)) < (y209.size : Int) then (if (Int.tmod (Go.bits .or .u16 (IntKind.u16.wrap ((IntKind.u16.wrap (bt y209 (wrap64 (2 * (wrap64 (Int.tmod (IntKind.u64.wrap (a2)) (IntKind.u64.wrap (wrap64 ((y209.size : Int) / 2))))))))) * 256)) (IntKind.u16.wrap (bt y209 (wrap64 ((wrap64 (2 * (wrap64 (Int.tmod (IntKind.u64.wrap (a2)) (IntKind.u64.wrap (wrap64 ((y209.size : Int) / 2))))))) + 1))))) 65535) = (Int.tmod a3 65535) then (some true) else (if (wrap64 (2 * (wrap64 (Int.tmod (IntKind.u64.wrap (a2)) (IntKind.u64.wrap (wrap64 ((y209.size : Int) / 2))))))) ≤ (y209.size : Int) then ((some (y209.extract 0 ((wrap64 (2 * (wrap64 (Int.tmod (IntKind.u64.wrap (a2)) (IntKind.u64.wrap (wrap64 ((y209.size : Int) / 2))))))) : Int).toNat : ByteArray)).bind fun y211 => ((turnoutlaw03_two.f a3).bind fun t212 => (if y211.size + t212.size ≤ 9223372036854775807 then ((some (y211 ++ t212 : ByteArray)).bind fun y213 => (if 0 ≤ (wrap64 ((wrap64 (2 * (wrap64 (Int.tmod (IntKind.u64.wrap (a2)) (IntKind.u64.wrap (wrap64 ((y209.size : Int) / 2))))))) + 2)) then (if (wrap64 ((wrap64 (2 * (wrap64 (Int.tmod (IntKind.u64.wrap (a2)) (IntKind.u64.wrap (wrap64 ((y209.size : Int) / 2))))))) + 2)) ≤ (y209.size : Int) then ((some (y209.extract ((wrap64 ((wrap64 (2 * (wrap64 (Int.tmod (IntKind.u64.wrap (a2)) (IntKind.u64.wrap (wrap64 ((y209.size : Int) / 2))))))) + 2)) : Int).toNat y209.size : ByteArray)).bind fun y214 => (if y213.size + y214.size ≤ 9223372036854775807 then ((sum_Good.f kj4 (y213 ++ y214)).bind fun t216 => (some (!t216))) else (none))) else (none)) else (none))) else (none)))) else (none))) else (none)) else (none)) else (none)) else (none))) else (some false))) = some r := by first | (rw [← hy209]; exact H) | exact H
         replace H := Option.bind_eq_some_iff.mp H
         obtain ⟨t210, A310, H⟩ := H
         replace H : (if t210 = true then (if (IntKind.u64.wrap (wrap64 ((y209.size : Int) / 2))) = 0 then (none) else (if 0 ≤ (wrap64 (2 * (wrap64 (Int.tmod (IntKind.u64.wrap (a2)) (IntKind.u64.wrap (wrap64 ((y209.size : Int) / 2))))))) then (if (wrap64 (2 * (wrap64 (Int.tmod (IntKind.u64.wrap (a2)) (IntKind.u64.wrap (wrap64 ((y209.size : Int) / 2))))))) < (y209.size : Int) then (if 0 ≤ (wrap64 ((wrap64 (2 * (wrap64 (Int.tmod (IntKind.u64.wrap (a2)) (IntKind.u64.wrap (wrap64 ((y209.size : Int) / 2))))))) + 1)) then (if (wrap64 ((wrap64 (2 * (wrap64 (Int.tmod (IntKind.u64.wrap (a2)) (IntKind.u64.wrap (wrap64 ((y209.size : Int) / 2))))))) + 1)) < (y209.size : Int) then (if (Int.tmod (Go.bits .or .u16 (IntKind.u16.wrap ((IntKind.u16.wrap (bt y209 (wrap64 (2 * (wrap64 (Int.tmod (IntKind.u64.wrap (a2)) (IntKind.u64.wrap (wrap64 ((y209.size : Int) / 2))))))))) * 256)) (IntKind.u16.wrap (bt y209 (wrap64 ((wrap64 (2 * (wrap64 (Int.tmod (IntKind.u64.wrap (a2)) (IntKind.u64.wrap (wrap64 ((y209.size : Int) / 2))))))) + 1))))) 65535) = (Int.tmod a3 65535) then (some true) else (if (wrap64 (2 * (wrap64 (Int.tmod (IntKind.u64.wrap (a2)) (IntKind.u64.wrap (wrap64 ((y209.size : Int) / 2))))))) ≤ (y209.size : Int) then ((some (y209.extract 0 ((wrap64 (2 * (wrap64 (Int.tmod (IntKind.u64.wrap (a2)) (IntKind.u64.wrap (wrap64 ((y209.size : Int) / 2))))))) : Int).toNat : ByteArray)).bind fun y211 => ((turnoutlaw03_two.f a3).bind fun t212 => (if y211.size + t212.size ≤ 9223372036854775807 then ((some (y211 ++ t212 : ByteArray)).bind fun y213 => (if 0 ≤ (wrap64 ((wrap64 (2 * (wrap64 (Int.tmod (IntKind.u64.wrap (a2)) (IntKind.u64.wrap (wrap64 ((y209.size : Int) / 2))))))) + 2)) then (if (wrap64 ((wrap64 (2 * (wrap64 (Int.tmod (IntKind.u64.wrap (a2)) (IntKind.u64.wrap (wrap64 ((y209.size : Int) / 2))))))) + 2)) ≤ (y209.size : Int) then ((some (y209.extract ((wrap64 ((wrap64 (2 * (wrap64 (Int.tmod (IntKind.u64.wrap (a2)) (IntKind.u64.wrap (wrap64 ((y209.size : Int) / 2))))))) + 2)) : Int).toNat y209.size : ByteArray)).bind fun y214 => (if y213.size + y214.size ≤ 9223372036854775807 then ((sum_Good.f kj4 (y213 ++ y214)).bind fun t216 => (some (!t216))) else (none))) else (none)) else (none))) else (none)))) else (none))) else (none)) else (none)) else (none)) else (none))) else (some false)) = some r := H
         have A31 := Aside0.mk A310
         clear A310
         by_cases c32 : t210 = true
         ·
          subst c32
          have H1 : (if (IntKind.u64.wrap (wrap64 ((y209.size : Int) / 2))) = 0 then (none) else (if 0 ≤ (wrap64 (2 * (wrap64 (Int.tmod (IntKind.u64.wrap (a2)) (IntKind.u64.wrap (wrap64 ((y209.size : Int) / 2))))))) then (if (wrap64 (2 * (wrap64 (Int.tmod (IntKind.u64.wrap (a2)) (IntKind.u64.wrap (wrap64 ((y209.size : Int) / 2))))))) < (y209.size : Int) then (if 0 ≤ (wrap64 ((wrap64 (2 * (wrap64 (Int.tmod (IntKind.u64.wrap (a2)) (IntKind.u64.wrap (wrap64 ((y209.size : Int) / 2))))))) + 1)) then (if (wrap64 ((wrap64 (2 * (wrap64 (Int.tmod (IntKind.u64.wrap (a2)) (IntKind.u64.wrap (wrap64 ((y209.size : Int) / 2))))))) + 1)) < (y209.size : Int) then (if (Int.tmod (Go.bits .or .u16 (IntKind.u16.wrap ((IntKind.u16.wrap (bt y209 (wrap64 (2 * (wrap64 (Int.tmod (IntKind.u64.wrap (a2)) (IntKind.u64.wrap (wrap64 ((y209.size : Int) / 2))))))))) * 256)) (IntKind.u16.wrap (bt y209 (wrap64 ((wrap64 (2 * (wrap64 (Int.tmod (IntKind.u64.wrap (a2)) (IntKind.u64.wrap (wrap64 ((y209.size : Int) / 2))))))) + 1))))) 65535) = (Int.tmod a3 65535) then (some true) else (if (wrap64 (2 * (wrap64 (Int.tmod (IntKind.u64.wrap (a2)) (IntKind.u64.wrap (wrap64 ((y209.size : Int) / 2))))))) ≤ (y209.size : Int) then ((some (y209.extract 0 ((wrap64 (2 * (wrap64 (Int.tmod (IntKind.u64.wrap (a2)) (IntKind.u64.wrap (wrap64 ((y209.size : Int) / 2))))))) : Int).toNat : ByteArray)).bind fun y211 => ((turnoutlaw03_two.f a3).bind fun t212 => (if y211.size + t212.size ≤ 9223372036854775807 then ((some (y211 ++ t212 : ByteArray)).bind fun y213 => (if 0 ≤ (wrap64 ((wrap64 (2 * (wrap64 (Int.tmod (IntKind.u64.wrap (a2)) (IntKind.u64.wrap (wrap64 ((y209.size : Int) / 2))))))) + 2)) then (if (wrap64 ((wrap64 (2 * (wrap64 (Int.tmod (IntKind.u64.wrap (a2)) (IntKind.u64.wrap (wrap64 ((y209.size : Int) / 2))))))) + 2)) ≤ (y209.size : Int) then ((some (y209.extract ((wrap64 ((wrap64 (2 * (wrap64 (Int.tmod (IntKind.u64.wrap (a2)) (IntKind.u64.wrap (wrap64 ((y209.size : Int) / 2))))))) + 2)) : Int).toNat y209.size : ByteArray)).bind fun y214 => (if y213.size + y214.size ≤ 9223372036854775807 then ((sum_Good.f kj4 (y213 ++ y214)).bind fun t216 => (some (!t216))) else (none))) else (none)) else (none))) else (none)))) else (none))) else (none)) else (none)) else (none)) else (none))) = some r := by rw [if_pos rfl] at H; exact H
          clear H; have H := H1; clear H1
          by_cases c33 : (IntKind.u64.wrap (wrap64 ((y209.size : Int) / 2))) = 0
          ·
           rw [if_pos c33] at H
           exact absurd H (by simp)
          ·
           rw [if_neg c33] at H
           have c33b0 : ((IntKind.u64.wrap (wrap64 ((y209.size : Int) / 2))) == 0) = false := beq_eq_false_iff_ne.mpr c33
           have c33b1 : ((IntKind.u64.wrap (wrap64 ((y209.size : Int) / 2))) != 0) = true := bne_iff_ne.mpr c33
           obtain ⟨ji34, hji34⟩ : ∃ j_ : Int, (wrap64 (2 * (wrap64 (Int.tmod (IntKind.u64.wrap (a2)) (IntKind.u64.wrap (wrap64 ((y209.size : Int) / 2))))))) = j_ := ⟨_, rfl⟩
           replace H : (if 0 ≤ (ji34) then (if (ji34) < (y209.size : Int) then (if 0 ≤ (wrap64 ((ji34) + 1)) then (if (wrap64 ((ji34) + 1)) < (y209.size : Int) then (if (Int.tmod (Go.bits .or .u16 (IntKind.u16.wrap ((IntKind.u16.wrap (bt y209 (ji34))) * 256)) (IntKind.u16.wrap (bt y209 (wrap64 ((ji34) + 1))))) 65535) = (Int.tmod a3 65535) then (some true) else (if (ji34) ≤ (y209.size : Int) then ((some (y209.extract 0 ((ji34) : Int).toNat : ByteArray)).bind fun y211 => ((turnoutlaw03_two.f a3).bind fun t212 => (if y211.size + t212.size ≤ 9223372036854775807 then ((some (y211 ++ t212 : ByteArray)).bind fun y213 => (if 0 ≤ (wrap64 ((ji34) + 2)) then (if (wrap64 ((ji34) + 2)) ≤ (y209.size : Int) then ((some (y209.extract ((wrap64 ((ji34) + 2)) : Int).toNat y209.size : ByteArray)).bind fun y214 => (if y213.size + y214.size ≤ 9223372036854775807 then ((sum_Good.f kj4 (y213 ++ y214)).bind fun t216 => (some (!t216))) else (none))) else (none)) else (none))) else (none)))) else (none))) else (none)) else (none)) else (none)) else (none)) = some r := by first | (rw [hji34] at H; exact H) | (simp only [hji34] at H ⊢; exact H)
           (try rw [hji34] at A21)
           (try rw [hji34] at A22)
           (try rw [hji34] at A25)
           (try rw [hji34] at A26)
           (try rw [hji34] at A31)
           have hji34w : (IntKind.i64.wrap (2 * (wrap64 (Int.tmod (IntKind.u64.wrap (a2)) (IntKind.u64.wrap (wrap64 ((y209.size : Int) / 2))))))) = ji34 := (i64_w _).trans hji34
           by_cases c35 : 0 ≤ (ji34)
           ·
            rw [if_pos c35] at H
            have c35b0 : decide (0 ≤ (ji34)) = true := decide_eq_true c35
            clear c35
            by_cases c36 : (ji34) < (y209.size : Int)
            ·
             rw [if_pos c36] at H
             have c36b0 : decide ((ji34) < (y209.size : Int)) = true := decide_eq_true c36
             clear c36
             obtain ⟨ji38, hji38⟩ : ∃ j_ : Int, (wrap64 ((ji34) + 1)) = j_ := ⟨_, rfl⟩
             replace H : (if 0 ≤ (ji38) then (if (ji38) < (y209.size : Int) then (if (Int.tmod (Go.bits .or .u16 (IntKind.u16.wrap ((IntKind.u16.wrap (bt y209 (ji34))) * 256)) (IntKind.u16.wrap (bt y209 (ji38)))) 65535) = (Int.tmod a3 65535) then (some true) else (if (ji34) ≤ (y209.size : Int) then ((some (y209.extract 0 ((ji34) : Int).toNat : ByteArray)).bind fun y211 => ((turnoutlaw03_two.f a3).bind fun t212 => (if y211.size + t212.size ≤ 9223372036854775807 then ((some (y211 ++ t212 : ByteArray)).bind fun y213 => (if 0 ≤ (wrap64 ((ji34) + 2)) then (if (wrap64 ((ji34) + 2)) ≤ (y209.size : Int) then ((some (y209.extract ((wrap64 ((ji34) + 2)) : Int).toNat y209.size : ByteArray)).bind fun y214 => (if y213.size + y214.size ≤ 9223372036854775807 then ((sum_Good.f kj4 (y213 ++ y214)).bind fun t216 => (some (!t216))) else (none))) else (none)) else (none))) else (none)))) else (none))) else (none)) else (none)) = some r := by first | (rw [hji38] at H; exact H) | (simp only [hji38] at H ⊢; exact H)
             (try rw [hji38] at A21)
             (try rw [hji38] at A22)
             (try rw [hji38] at A25)
             (try rw [hji38] at A26)
             (try rw [hji38] at A31)
             have hji38w : (IntKind.i64.wrap ((ji34) + 1)) = ji38 := (i64_w _).trans hji38
             by_cases c39 : 0 ≤ (ji38)
             ·
              rw [if_pos c39] at H
              have c39b0 : decide (0 ≤ (ji38)) = true := decide_eq_true c39
              clear c39
              by_cases c40 : (ji38) < (y209.size : Int)
              ·
               rw [if_pos c40] at H
               have c40b0 : decide ((ji38) < (y209.size : Int)) = true := decide_eq_true c40
               clear c40
               by_cases c42 : (Int.tmod (Go.bits .or .u16 (IntKind.u16.wrap ((IntKind.u16.wrap (bt y209 (ji34))) * 256)) (IntKind.u16.wrap (bt y209 (ji38)))) 65535) = (Int.tmod a3 65535)
               ·
                rw [if_pos c42] at H
                have c42b0 : ((Int.tmod (Go.bits .or .u16 (IntKind.u16.wrap ((IntKind.u16.wrap (bt y209 (ji34))) * 256)) (IntKind.u16.wrap (bt y209 (ji38)))) 65535) == (Int.tmod a3 65535)) = true := beq_iff_eq.mpr c42
                have c42b1 : ((Int.tmod (Go.bits .or .u16 (IntKind.u16.wrap ((IntKind.u16.wrap (bt y209 (ji34))) * 256)) (IntKind.u16.wrap (bt y209 (ji38)))) 65535) != (Int.tmod a3 65535)) = false := bne_eq_false_iff_eq.mpr c42
                clear c42
                obtain rfl := Option.some.inj H
                try go_wp2_with (first | ((with_reducible refine gate_callee (f := 25) rfl ?_); refine goesL_ (some 22) rfl rfl Try.func25 (by kernel_rfl) rfl #[.string a0] rfl (by (try simp only [List.map_toArray, List.map_cons, List.map_nil]); first | done | rfl | (simp only [List.length_drop, List.length_take]; rfl)) ?_; (with_reducible refine (turnoutlaw03_even.calls a0 t199 _ A21.out).mono ?_); rintro e w' ⟨rfl, ⟨nd, rfl⟩⟩; refine ⟨_, rfl, ?_⟩) | ((with_reducible refine gate_callee (f := 26) rfl ?_); refine goesL_ (some 25) rfl rfl Try.func26 (by kernel_rfl) rfl #[.string t199, .int .i64 a1] rfl (by (try simp only [List.map_toArray, List.map_cons, List.map_nil]); first | done | rfl | (simp only [List.length_drop, List.length_take]; rfl)) ?_; (with_reducible refine (turnoutlaw03_place.calls t199 a1 t200 _ A22.out).mono ?_); rintro e w' ⟨rfl, ⟨nd, rfl⟩⟩; refine ⟨_, rfl, ?_⟩))
                (try (rw [drewN_self wc]; generalize hq_ : World.drewN wc _ = wc; replace HB : Aside0 (Below w.heap.size w wc) := ⟨by rw [← hq_]; exact (by repeat (first | (with_reducible first | exact HB.out | apply below_alloc | apply pw_below_drewN | apply below_drew1) | exact HB.out))⟩; clear hq_))
                replace HB := Aside0.mk (below_drew1 HB.out)
                refine start_ (n := 13) (S := fun w' => True) (ds := []) #[F,F,F,F,F,F,F,F,F,F,F,F,F] (by kernel_rfl) rfl rfl trivial (fun hHeld => ?_); refine with_tabW turnoutlaw03_SumGood.tab5 turnoutlaw03_SumGood.bits5 (fun HT_ HW_ => ?_)
                generalize wc.drew = w43 at HB hHeld ⊢
                refine pure_ (i := 0) (N := some 26) (v := ?_) (a' := ?_) #[T,F,F,F,F,F,F,F,F,F,F,F,F] rfl rfl (any_of HT_.out (by kernel_rfl)) (fun _ _ _ h => h) (Or.inl ⟨by rfl, ?_⟩) ?_ ?_
                rotate_left
                ·
                 intro w'
                 go_simp
                 with_reducible rfl
                rotate_left
                ·
                 simp only [Act.put, List.setIfInBounds_toArray, List.set_cons_zero, List.set_cons_succ, i64_w, i32_w]
                 rfl
                refine pure_ (i := 1) (N := some 27) (v := ?_) (a' := ?_) #[T,T,F,F,F,F,F,F,F,F,F,F,F] rfl rfl (any_of HT_.out (by kernel_rfl)) (fun _ _ _ h => h) (Or.inl ⟨by rfl, ?_⟩) ?_ ?_
                rotate_left
                ·
                 intro w'
                 go_simp
                 with_reducible rfl
                rotate_left
                ·
                 simp only [Act.put, List.setIfInBounds_toArray, List.set_cons_zero, List.set_cons_succ, i64_w, i32_w]
                 rfl
                refine pure_ (i := 2) (N := some 28) (v := ?_) (a' := ?_) #[T,T,T,F,F,F,F,F,F,F,F,F,F] rfl rfl (any_of HT_.out (by kernel_rfl)) (fun _ _ _ h => h) (Or.inl ⟨by rfl, ?_⟩) ?_ ?_
                rotate_left
                ·
                 intro w'
                 go_simp
                 with_reducible rfl
                rotate_left
                ·
                 simp only [Act.put, List.setIfInBounds_toArray, List.set_cons_zero, List.set_cons_succ, i64_w, i32_w]
                 rfl
                refine pure_ (i := 3) (N := some 29) (v := ?_) (a' := ?_) #[T,T,T,T,F,F,F,F,F,F,F,F,F] rfl rfl (any_of HT_.out (by kernel_rfl)) (fun _ _ _ h => h) (Or.inl ⟨by rfl, ?_⟩) ?_ ?_
                rotate_left
                ·
                 intro w'
                 go_simp
                 with_reducible rfl
                rotate_left
                ·
                 simp only [Act.put, List.setIfInBounds_toArray, List.set_cons_zero, List.set_cons_succ, i64_w, i32_w]
                 rfl
                refine pure_ (i := 8) (N := some 34) (v := ?_) (a' := ?_) #[T,T,T,T,F,F,F,F,T,F,F,F,F] rfl rfl (any_of HT_.out (by kernel_rfl)) (fun _ _ _ h => h) (Or.inl ⟨by rfl, ?_⟩) ?_ ?_
                rotate_left
                ·
                 intro w'
                 go_simp
                 with_reducible rfl
                rotate_left
                ·
                 simp only [Act.put, List.setIfInBounds_toArray, List.set_cons_zero, List.set_cons_succ, i64_w, i32_w]
                 rfl
                refine pure_ (i := 9) (N := some 35) (v := ?_) (a' := ?_) #[T,T,T,T,F,F,F,F,T,T,F,F,F] rfl rfl (any_of HT_.out (by kernel_rfl)) (fun _ _ _ h => h) (Or.inl ⟨by rfl, ?_⟩) ?_ ?_
                rotate_left
                ·
                 intro w'
                 go_simp
                 with_reducible rfl
                rotate_left
                ·
                 simp only [Act.put, List.setIfInBounds_toArray, List.set_cons_zero, List.set_cons_succ, i64_w, i32_w]
                 rfl
                refine pure_ (i := 10) (N := some 36) (v := ?_) (a' := ?_) #[T,T,T,T,F,F,F,F,T,T,T,F,F] rfl rfl (any_of HT_.out (by kernel_rfl)) (fun _ _ _ h => h) (Or.inl ⟨by rfl, ?_⟩) ?_ ?_
                rotate_left
                ·
                 intro w'
                 go_simp
                 with_reducible rfl
                rotate_left
                ·
                 simp only [Act.put, List.setIfInBounds_toArray, List.set_cons_zero, List.set_cons_succ, i64_w, i32_w]
                 rfl
                refine one_ (i := 4) (N := some 30) #[T,T,T,T,T,F,F,F,T,T,T,F,F] rfl rfl (one_of HT_.out (by kernel_rfl)) (by decide) (fun K hK => ?_)
                refine Kd.R_lit_step Kd.string _ 9 ?hg (N := 30) ?hd (xs := ([t199] : List ByteArray)) (inner := [.string t199]) (ok := fun _ => True) (okp := fun _ => True) ?hr ?hp (fun _ hk => hk) trivial (Below.refl _ _) (Nat.le_refl _) (by simp) ?_; (case hd => rfl); (case hg => rfl); (case hr => first | (go_simp; done) | (go_simp; rfl)); (case hp => exact (Reps.one (show Kd.M Kd.string _ _ _ t199 [.string t199] from rfl) (Reps.none _ _)))
                intro v203 w44 ho45 hb hg_ hnew_
                clear hg_ hnew_
                (first | rw [← Ny202.out] at ho45 | (simp only [Int.reduceToNat] at ho45; rw [← Ny202.out] at ho45))
                have n0_ := Aside0.mk (Kd.R_lower ho45 (below_size (by repeat (first | (with_reducible first | exact HB.out | apply below_alloc | apply pw_below_drewN | apply below_drew1) | exact HB.out))))
                have n1_ := Aside0.mk (below_step (by repeat (first | (with_reducible first | exact HB.out | apply below_alloc | apply pw_below_drewN | apply below_drew1) | exact HB.out)) hb)
                clear HB; have HO204 := n0_; have HB := n1_; clear n0_ n1_; clear hb ho45
                obtain ⟨Ao46, co46, eo46⟩ := Kd.R_slice HO204.out
                (first | subst eo46 | (injection eo46 with f1_ f2_ f3_; have f4_ := f1_.symm; have f5_ := f3_.symm; clear f1_ f2_ f3_; subst f4_; subst f5_))
                refine hK.out _ _ trivial (fun hHeld => ?_)
                clear hK K
                refine norm_ (a' := ?_) ?_ ?_
                rotate_left
                ·
                 show Act.put _ (some 30) _ = _
                 simp only [Act.put, List.setIfInBounds_toArray, List.set_cons_zero, List.set_cons_succ, i64_w, i32_w]
                 rfl
                refine one_ (i := 5) (N := some 31) #[T,T,T,T,T,T,F,F,T,T,T,F,F] rfl rfl (one_of HT_.out (by kernel_rfl)) (by decide) (fun K hK => ?_)
                refine goes_ Try.func14 (by kernel_rfl) rfl #[.slice Ao46 y202.length co46] (by rfl) rfl rfl (by (try simp only [List.map_toArray, List.map_cons, List.map_nil]); first | done | rfl | (simp only [List.length_drop, List.length_take]; rfl)) ?_
                with_reducible refine (sum_Of.calls kj4 _ _ y202 t205 _ ?side1 ?side2 A25.out).mono ?_
                (case side1 => repeat (first | exact (Kd.R_reads' HO204.out).2.2 | (with_reducible refine Kd.C_alloc ?_ _) | (with_reducible refine Kd.C_drewN ?_ _) | (with_reducible refine Kd.C_drew ?_)))
                (case side2 => exact (Kd.R_reads' HO204.out).2.1)
                rintro e w' ⟨rfl, ⟨nd, rfl⟩⟩
                refine ⟨_, rfl, ?_⟩
                refine hK.out _ _ trivial (fun hHeld => ?_)
                clear hK K
                refine norm_ (a' := ?_) ?_ ?_
                rotate_left
                ·
                 show Act.put _ (some 31) _ = _
                 simp only [Act.put, List.setIfInBounds_toArray, List.set_cons_zero, List.set_cons_succ, i64_w, i32_w]
                 rfl
                refine one_ (i := 6) (N := some 32) #[T,T,T,T,T,T,T,F,T,T,T,F,F] rfl rfl (one_of HT_.out (by kernel_rfl)) (by decide) (fun K hK => ?_)
                refine goes_ Try.func27 (by kernel_rfl) rfl #[.int .u16 t205] (by rfl) rfl rfl (by (try simp only [List.map_toArray, List.map_cons, List.map_nil]); first | done | rfl | (simp only [List.length_drop, List.length_take]; rfl)) ?_
                with_reducible refine (turnoutlaw03_two.calls t205 t206 _ A26.out).mono ?_
                rintro e w47 ⟨rfl, hb⟩
                refine ⟨_, rfl, ?_⟩
                have n0_ := Aside0.mk (Kd.R_below (by (with_reducible repeat (first | apply Kd.R_alloc | apply Kd.R_drewN | apply Kd.R_drew)); exact HO204.out) hb)
                have n1_ := Aside0.mk (below_step (by repeat (first | (with_reducible first | exact HB.out | apply below_alloc | apply pw_below_drewN | apply below_drew1) | exact HB.out)) hb)
                clear HO204; clear HB; have HO204 := n0_; have HB := n1_; clear n0_ n1_; (try clear hb); (try clear hb2); (try clear hk); (try clear hi)
                refine hK.out _ _ trivial (fun hHeld => ?_)
                clear hK K
                refine norm_ (a' := ?_) ?_ ?_
                rotate_left
                ·
                 show Act.put _ (some 32) _ = _
                 simp only [Act.put, List.setIfInBounds_toArray, List.set_cons_zero, List.set_cons_succ, i64_w, i32_w]
                 rfl
                refine pure_ (i := 7) (N := some 33) (v := ?_) (a' := ?_) #[T,T,T,T,T,T,T,T,T,T,T,F,F] rfl rfl (any_of HT_.out (by kernel_rfl)) (fun _ _ _ h => h) (Or.inl ⟨by rfl, ?_⟩) ?_ ?_
                rotate_left
                ·
                 intro w'
                 go_simp
                 with_reducible rfl
                rotate_left
                ·
                 simp only [Act.put, List.setIfInBounds_toArray, List.set_cons_zero, List.set_cons_succ, i64_w, i32_w]
                 rfl
                refine pure_ (i := 11) (N := some 37) (v := ?_) (a' := ?_) #[T,T,T,T,T,T,T,T,T,T,T,T,F] rfl rfl (any_of HT_.out (by kernel_rfl)) (fun _ _ _ h => h) (Or.inl ⟨by rfl, ?_⟩) ?_ ?_
                rotate_left
                ·
                 intro w'
                 go_simp
                 with_reducible rfl
                rotate_left
                ·
                 simp only [Act.put, List.setIfInBounds_toArray, List.set_cons_zero, List.set_cons_succ, i64_w, i32_w]
                 rfl
                refine pure_ (i := 12) (N := some 10) (v := ?_) (a' := ?_) #[T,T,T,T,T,T,T,T,T,T,T,T,T] rfl rfl (any_of HT_.out (by kernel_rfl)) (fun _ _ _ h => h) (Or.inl ⟨by rfl, ?_⟩) ?_ ?_
                rotate_left
                ·
                 intro w'
                 go_simp
                 with_reducible rfl
                rotate_left
                ·
                 simp only [Act.put, List.setIfInBounds_toArray, List.set_cons_zero, List.set_cons_succ, i64_w, i32_w]
                 rfl
                refine done_ (done_of HT_.out (by kernel_rfl)) ?_
                try go_wp2_with (first | ((with_reducible refine gate_callee (f := 16) rfl ?_); refine goesL_ (some 39) rfl rfl Try.func16 (by kernel_rfl) rfl #[.string y209] rfl (by (try simp only [List.map_toArray, List.map_cons, List.map_nil]); first | done | rfl | (simp only [List.length_drop, List.length_take]; rfl)) ?_; (with_reducible refine (sum_Good.calls kj4 y209 true _ A31.out).mono ?_); rintro e w48 ⟨rfl, hb⟩; refine ⟨_, rfl, ?_⟩; replace HO204 := Aside0.mk (Kd.R_below (by (with_reducible repeat (first | apply Kd.R_alloc | apply Kd.R_drewN | apply Kd.R_drew)); exact HO204.out) hb); replace HB := Aside0.mk (below_step (by repeat (first | (with_reducible first | exact HB.out | apply below_alloc | apply pw_below_drewN | apply below_drew1) | exact HB.out)) hb); (try clear hb); (try clear hb2); (try clear hk); (try clear hi)))
                replace HO204 := Aside0.mk (Kd.R_drew HO204.out); replace HB := Aside0.mk (below_drew1 HB.out)
                have p37 : 0 ≤ ((ji34) : Int) := of_decide_eq_true (by first | (with_reducible assumption) | assumption)
                have q37 : (ji34) < (y209.size : Int) := of_decide_eq_true (by first | (with_reducible assumption) | assumption)
                have hx37 := bt_at y209 (ji34)
                replace p37 := eq_true p37
                replace q37 := eq_true q37
                have p41 : 0 ≤ ((ji38) : Int) := of_decide_eq_true (by first | (with_reducible assumption) | assumption)
                have q41 : (ji38) < (y209.size : Int) := of_decide_eq_true (by first | (with_reducible assumption) | assumption)
                have hx41 := bt_at y209 (ji38)
                replace p41 := eq_true p41
                replace q41 := eq_true q41
                refine start_ (n := 12) (S := fun w' => True) (ds := []) #[F,F,F,F,F,F,F,F,F,F,F,F] (by kernel_rfl) rfl rfl trivial (fun hHeld => ?_); refine with_tabW turnoutlaw03_SumGood.tab9 turnoutlaw03_SumGood.bits9 (fun HT_ HW_ => ?_)
                generalize w48.drew = w49 at HO204 HB hHeld ⊢
                refine pure_ (i := 0) (N := some 50) (v := ?_) (a' := ?_) #[T,F,F,F,F,F,F,F,F,F,F,F] rfl rfl (any_of HT_.out (by kernel_rfl)) (fun _ _ _ h => h) (Or.inl ⟨by rfl, ?_⟩) ?_ ?_
                rotate_left
                ·
                 intro w'
                 go_simp
                 with_reducible rfl
                rotate_left
                ·
                 simp only [Act.put, List.setIfInBounds_toArray, List.set_cons_zero, List.set_cons_succ, i64_w, i32_w]
                 rfl
                refine pure_ (i := 1) (N := some 51) (v := ?_) (a' := ?_) #[T,T,F,F,F,F,F,F,F,F,F,F] rfl rfl (any_of HT_.out (by kernel_rfl)) (fun _ _ _ h => h) (Or.inl ⟨by rfl, ?_⟩) ?_ ?_
                rotate_left
                ·
                 intro w'
                 go_simp
                 with_reducible rfl
                rotate_left
                ·
                 simp only [Act.put, List.setIfInBounds_toArray, List.set_cons_zero, List.set_cons_succ, i64_w, i32_w]
                 rfl
                refine pure_ (i := 5) (N := some 55) (v := ?_) (a' := ?_) #[T,T,F,F,F,T,F,F,F,F,F,F] rfl rfl (any_of HT_.out (by kernel_rfl)) (fun _ _ _ h => h) (Or.inl ⟨by rfl, ?_⟩) ?_ ?_
                rotate_left
                ·
                 intro w'
                 go_simp
                 with_reducible rfl
                rotate_left
                ·
                 simp only [Act.put, List.setIfInBounds_toArray, List.set_cons_zero, List.set_cons_succ, i64_w, i32_w]
                 rfl
                refine pure_ (i := 6) (N := some 56) (v := ?_) (a' := ?_) #[T,T,F,F,F,T,T,F,F,F,F,F] rfl rfl (any_of HT_.out (by kernel_rfl)) (fun _ _ _ h => h) (Or.inl ⟨by rfl, ?_⟩) ?_ ?_
                rotate_left
                ·
                 intro w'
                 go_simp
                 with_reducible rfl
                rotate_left
                ·
                 simp only [Act.put, List.setIfInBounds_toArray, List.set_cons_zero, List.set_cons_succ, i64_w, i32_w]
                 rfl
                refine pure_ (i := 7) (N := some 57) (v := ?_) (a' := ?_) #[T,T,F,F,F,T,T,T,F,F,F,F] rfl rfl (any_of HT_.out (by kernel_rfl)) (fun _ _ _ h => h) (Or.inl ⟨by rfl, ?_⟩) ?_ ?_
                rotate_left
                ·
                 intro w'
                 go_simp
                 with_reducible rfl
                rotate_left
                ·
                 simp only [Act.put, List.setIfInBounds_toArray, List.set_cons_zero, List.set_cons_succ, i64_w, i32_w]
                 rfl
                refine take_ (i := 2) (N := some 52) (v := ?_) (a' := ?_) #[T,T,T,F,F,T,T,T,F,F,F,F] rfl rfl (take_ofW HT_.out HW_.out (by kernel_rfl)) (fun _ _ _ h => h) (Or.inl ⟨by rfl, ?_⟩) hHeld ?_ ?_
                rotate_left
                ·
                 intro w' _
                 go_simp
                 with_reducible rfl
                rotate_left
                ·
                 simp only [Act.put, List.setIfInBounds_toArray, List.set_cons_zero, List.set_cons_succ, i64_w, i32_w]
                 rfl
                refine pure_ (i := 3) (N := some 53) (v := ?_) (a' := ?_) #[T,T,T,T,F,T,T,T,F,F,F,F] rfl rfl (any_of HT_.out (by kernel_rfl)) (fun _ _ _ h => h) (Or.inl ⟨by rfl, ?_⟩) ?_ ?_
                rotate_left
                ·
                 intro w'
                 go_simp
                 with_reducible rfl
                rotate_left
                ·
                 simp only [Act.put, List.setIfInBounds_toArray, List.set_cons_zero, List.set_cons_succ, i64_w, i32_w]
                 rfl
                refine pure_ (i := 4) (N := some 54) (v := ?_) (a' := ?_) #[T,T,T,T,T,T,T,T,F,F,F,F] rfl rfl (any_of HT_.out (by kernel_rfl)) (fun _ _ _ h => h) (Or.inl ⟨by rfl, ?_⟩) ?_ ?_
                rotate_left
                ·
                 intro w'
                 go_simp
                 with_reducible rfl
                rotate_left
                ·
                 simp only [Act.put, List.setIfInBounds_toArray, List.set_cons_zero, List.set_cons_succ, i64_w, i32_w]
                 rfl
                refine take_ (i := 8) (N := some 58) (v := ?_) (a' := ?_) #[T,T,T,T,T,T,T,T,T,F,F,F] rfl rfl (take_ofW HT_.out HW_.out (by kernel_rfl)) (fun _ _ _ h => h) (Or.inl ⟨by rfl, ?_⟩) hHeld ?_ ?_
                rotate_left
                ·
                 intro w' _
                 go_simp
                 with_reducible rfl
                rotate_left
                ·
                 simp only [Act.put, List.setIfInBounds_toArray, List.set_cons_zero, List.set_cons_succ, i64_w, i32_w]
                 rfl
                refine pure_ (i := 9) (N := some 59) (v := ?_) (a' := ?_) #[T,T,T,T,T,T,T,T,T,T,F,F] rfl rfl (any_of HT_.out (by kernel_rfl)) (fun _ _ _ h => h) (Or.inl ⟨by rfl, ?_⟩) ?_ ?_
                rotate_left
                ·
                 intro w'
                 go_simp
                 with_reducible rfl
                rotate_left
                ·
                 simp only [Act.put, List.setIfInBounds_toArray, List.set_cons_zero, List.set_cons_succ, i64_w, i32_w]
                 rfl
                refine pure_ (i := 10) (N := some 60) (v := ?_) (a' := ?_) #[T,T,T,T,T,T,T,T,T,T,T,F] rfl rfl (any_of HT_.out (by kernel_rfl)) (fun _ _ _ h => h) (Or.inl ⟨by rfl, ?_⟩) ?_ ?_
                rotate_left
                ·
                 intro w'
                 go_simp
                 with_reducible rfl
                rotate_left
                ·
                 simp only [Act.put, List.setIfInBounds_toArray, List.set_cons_zero, List.set_cons_succ, i64_w, i32_w]
                 rfl
                refine pure_ (i := 11) (N := some 12) (v := ?_) (a' := ?_) #[T,T,T,T,T,T,T,T,T,T,T,T] rfl rfl (any_of HT_.out (by kernel_rfl)) (fun _ _ _ h => h) (Or.inl ⟨by rfl, ?_⟩) ?_ ?_
                rotate_left
                ·
                 intro w'
                 go_simp
                 with_reducible rfl
                rotate_left
                ·
                 simp only [Act.put, List.setIfInBounds_toArray, List.set_cons_zero, List.set_cons_succ, i64_w, i32_w]
                 rfl
                refine done_ (done_of HT_.out (by kernel_rfl)) ?_
                try go_wp2
                go_ret
                exact ⟨by first | rfl | (simp [errW_none, errW_some] <;> rfl) | (simp only [← hji34, ← hji38]; first | rfl | (simp [errW_none, errW_some] <;> rfl)) | (simp [*, errW_none, errW_some] <;> rfl), by repeat (first | (with_reducible first | exact HB.out | apply below_alloc | apply pw_below_drewN | apply below_drew1) | exact HB.out)⟩
               ·
                rw [if_neg c42] at H
                have c42b0 : ((Int.tmod (Go.bits .or .u16 (IntKind.u16.wrap ((IntKind.u16.wrap (bt y209 (ji34))) * 256)) (IntKind.u16.wrap (bt y209 (ji38)))) 65535) == (Int.tmod a3 65535)) = false := beq_eq_false_iff_ne.mpr c42
                have c42b1 : ((Int.tmod (Go.bits .or .u16 (IntKind.u16.wrap ((IntKind.u16.wrap (bt y209 (ji34))) * 256)) (IntKind.u16.wrap (bt y209 (ji38)))) 65535) != (Int.tmod a3 65535)) = true := bne_iff_ne.mpr c42
                have c50b0 := eq_true (of_decide_eq_true (by first | (with_reducible assumption) | assumption) : 0 ≤ (ji34))
                by_cases c51 : (ji34) ≤ (y209.size : Int)
                ·
                 rw [if_pos c51] at H
                 have c51b0 := eq_true c51
                 have c51b1 : decide ((ji34) ≤ (y209.size : Int)) = true := decide_eq_true c51
                 clear c51
                 obtain ⟨y211, hy211⟩ : ∃ y_ : ByteArray, (y209.extract 0 ((ji34) : Int).toNat) = y_ := ⟨_, rfl⟩
                 replace H : ((turnoutlaw03_two.f a3).bind fun t212 => (if y211.size + t212.size ≤ 9223372036854775807 then ((some (y211 ++ t212 : ByteArray)).bind fun y213 => (if 0 ≤ (wrap64 ((ji34) + 2)) then (if (wrap64 ((ji34) + 2)) ≤ (y209.size : Int) then ((some (y209.extract ((wrap64 ((ji34) + 2)) : Int).toNat y209.size : ByteArray)).bind fun y214 => (if y213.size + y214.size ≤ 9223372036854775807 then ((sum_Good.f kj4 (y213 ++ y214)).bind fun t216 => (some (!t216))) else (none))) else (none)) else (none))) else (none))) = some r := by first | (rw [← hy211]; exact H) | exact H
                 replace H := Option.bind_eq_some_iff.mp H
                 obtain ⟨t212, A520, H⟩ := H
                 replace H : (if y211.size + t212.size ≤ 9223372036854775807 then ((some (y211 ++ t212 : ByteArray)).bind fun y213 => (if 0 ≤ (wrap64 ((ji34) + 2)) then (if (wrap64 ((ji34) + 2)) ≤ (y209.size : Int) then ((some (y209.extract ((wrap64 ((ji34) + 2)) : Int).toNat y209.size : ByteArray)).bind fun y214 => (if y213.size + y214.size ≤ 9223372036854775807 then ((sum_Good.f kj4 (y213 ++ y214)).bind fun t216 => (some (!t216))) else (none))) else (none)) else (none))) else (none)) = some r := H
                 have A52 := Aside0.mk A520
                 clear A520
                 by_cases c53 : y211.size + t212.size ≤ 9223372036854775807
                 ·
                  rw [if_pos c53] at H
                  have c53b0 := eq_true c53
                  have c53b1 : decide (y211.size + t212.size ≤ 9223372036854775807) = true := decide_eq_true c53
                  try have c53b2 : (9223372036854775807 < y211.size + t212.size) = False := eq_false (Nat.not_lt.2 c53)
                  obtain ⟨y213, hy213⟩ : ∃ y_ : ByteArray, (y211 ++ t212) = y_ := ⟨_, rfl⟩
                  replace H : (if 0 ≤ (wrap64 ((ji34) + 2)) then (if (wrap64 ((ji34) + 2)) ≤ (y209.size : Int) then ((some (y209.extract ((wrap64 ((ji34) + 2)) : Int).toNat y209.size : ByteArray)).bind fun y214 => (if y213.size + y214.size ≤ 9223372036854775807 then ((sum_Good.f kj4 (y213 ++ y214)).bind fun t216 => (some (!t216))) else (none))) else (none)) else (none)) = some r := by first | (rw [← hy213]; exact H) | exact H
                  obtain ⟨ji54, hji54⟩ : ∃ j_ : Int, (wrap64 ((ji34) + 2)) = j_ := ⟨_, rfl⟩
                  replace H : (if 0 ≤ (ji54) then (if (ji54) ≤ (y209.size : Int) then ((some (y209.extract ((ji54) : Int).toNat y209.size : ByteArray)).bind fun y214 => (if y213.size + y214.size ≤ 9223372036854775807 then ((sum_Good.f kj4 (y213 ++ y214)).bind fun t216 => (some (!t216))) else (none))) else (none)) else (none)) = some r := by first | (rw [hji54] at H; exact H) | (simp only [hji54] at H ⊢; exact H)
                  (try rw [hji54] at A21)
                  (try rw [hji54] at A22)
                  (try rw [hji54] at A25)
                  (try rw [hji54] at A26)
                  (try rw [hji54] at A31)
                  (try rw [hji54] at A52)
                  have hji54w : (IntKind.i64.wrap ((ji34) + 2)) = ji54 := (i64_w _).trans hji54
                  by_cases c55 : 0 ≤ (ji54)
                  ·
                   rw [if_pos c55] at H
                   have c55b0 := eq_true c55
                   have c55b1 : decide (0 ≤ (ji54)) = true := decide_eq_true c55
                   clear c55
                   by_cases c56 : (ji54) ≤ (y209.size : Int)
                   ·
                    rw [if_pos c56] at H
                    have c56b0 := eq_true c56
                    have c56b1 : decide ((ji54) ≤ (y209.size : Int)) = true := decide_eq_true c56
                    clear c56
                    obtain ⟨y214, hy214⟩ : ∃ y_ : ByteArray, (y209.extract ((ji54) : Int).toNat y209.size) = y_ := ⟨_, rfl⟩
                    replace H : (if y213.size + y214.size ≤ 9223372036854775807 then ((sum_Good.f kj4 (y213 ++ y214)).bind fun t216 => (some (!t216))) else (none)) = some r := by first | (rw [← hy214]; exact H) | exact H
                    by_cases c57 : y213.size + y214.size ≤ 9223372036854775807
                    ·
                     rw [if_pos c57] at H
                     have c57b0 := eq_true c57
                     have c57b1 : decide (y213.size + y214.size ≤ 9223372036854775807) = true := decide_eq_true c57
                     try have c57b2 : (9223372036854775807 < y213.size + y214.size) = False := eq_false (Nat.not_lt.2 c57)
                     obtain ⟨y215, hy215⟩ : ∃ y_ : ByteArray, (y213 ++ y214) = y_ := ⟨_, rfl⟩
                     replace H : ((sum_Good.f kj4 y215).bind fun t216 => (some (!t216))) = some r := by first | (rw [← hy215]; exact H) | exact H
                     replace H := Option.bind_eq_some_iff.mp H
                     obtain ⟨t216, A580, H⟩ := H
                     replace H : (some (!t216)) = some r := H
                     have A58 := Aside0.mk A580
                     clear A580
                     obtain rfl := Option.some.inj H
                     try go_wp2_with (first | ((with_reducible refine gate_callee (f := 25) rfl ?_); refine goesL_ (some 22) rfl rfl Try.func25 (by kernel_rfl) rfl #[.string a0] rfl (by (try simp only [List.map_toArray, List.map_cons, List.map_nil]); first | done | rfl | (simp only [List.length_drop, List.length_take]; rfl)) ?_; (with_reducible refine (turnoutlaw03_even.calls a0 t199 _ A21.out).mono ?_); rintro e w' ⟨rfl, ⟨nd, rfl⟩⟩; refine ⟨_, rfl, ?_⟩) | ((with_reducible refine gate_callee (f := 26) rfl ?_); refine goesL_ (some 25) rfl rfl Try.func26 (by kernel_rfl) rfl #[.string t199, .int .i64 a1] rfl (by (try simp only [List.map_toArray, List.map_cons, List.map_nil]); first | done | rfl | (simp only [List.length_drop, List.length_take]; rfl)) ?_; (with_reducible refine (turnoutlaw03_place.calls t199 a1 t200 _ A22.out).mono ?_); rintro e w' ⟨rfl, ⟨nd, rfl⟩⟩; refine ⟨_, rfl, ?_⟩))
                     (try (rw [drewN_self wc]; generalize hq_ : World.drewN wc _ = wc; replace HB : Aside0 (Below w.heap.size w wc) := ⟨by rw [← hq_]; exact (by repeat (first | (with_reducible first | exact HB.out | apply below_alloc | apply pw_below_drewN | apply below_drew1) | exact HB.out))⟩; clear hq_))
                     replace HB := Aside0.mk (below_drew1 HB.out)
                     refine start_ (n := 13) (S := fun w' => True) (ds := []) #[F,F,F,F,F,F,F,F,F,F,F,F,F] (by kernel_rfl) rfl rfl trivial (fun hHeld => ?_); refine with_tabW turnoutlaw03_SumGood.tab5 turnoutlaw03_SumGood.bits5 (fun HT_ HW_ => ?_)
                     generalize wc.drew = w59 at HB hHeld ⊢
                     refine pure_ (i := 0) (N := some 26) (v := ?_) (a' := ?_) #[T,F,F,F,F,F,F,F,F,F,F,F,F] rfl rfl (any_of HT_.out (by kernel_rfl)) (fun _ _ _ h => h) (Or.inl ⟨by rfl, ?_⟩) ?_ ?_
                     rotate_left
                     ·
                      intro w'
                      go_simp
                      with_reducible rfl
                     rotate_left
                     ·
                      simp only [Act.put, List.setIfInBounds_toArray, List.set_cons_zero, List.set_cons_succ, i64_w, i32_w]
                      rfl
                     refine pure_ (i := 1) (N := some 27) (v := ?_) (a' := ?_) #[T,T,F,F,F,F,F,F,F,F,F,F,F] rfl rfl (any_of HT_.out (by kernel_rfl)) (fun _ _ _ h => h) (Or.inl ⟨by rfl, ?_⟩) ?_ ?_
                     rotate_left
                     ·
                      intro w'
                      go_simp
                      with_reducible rfl
                     rotate_left
                     ·
                      simp only [Act.put, List.setIfInBounds_toArray, List.set_cons_zero, List.set_cons_succ, i64_w, i32_w]
                      rfl
                     refine pure_ (i := 2) (N := some 28) (v := ?_) (a' := ?_) #[T,T,T,F,F,F,F,F,F,F,F,F,F] rfl rfl (any_of HT_.out (by kernel_rfl)) (fun _ _ _ h => h) (Or.inl ⟨by rfl, ?_⟩) ?_ ?_
                     rotate_left
                     ·
                      intro w'
                      go_simp
                      with_reducible rfl
                     rotate_left
                     ·
                      simp only [Act.put, List.setIfInBounds_toArray, List.set_cons_zero, List.set_cons_succ, i64_w, i32_w]
                      rfl
                     refine pure_ (i := 3) (N := some 29) (v := ?_) (a' := ?_) #[T,T,T,T,F,F,F,F,F,F,F,F,F] rfl rfl (any_of HT_.out (by kernel_rfl)) (fun _ _ _ h => h) (Or.inl ⟨by rfl, ?_⟩) ?_ ?_
                     rotate_left
                     ·
                      intro w'
                      go_simp
                      with_reducible rfl
                     rotate_left
                     ·
                      simp only [Act.put, List.setIfInBounds_toArray, List.set_cons_zero, List.set_cons_succ, i64_w, i32_w]
                      rfl
                     refine pure_ (i := 8) (N := some 34) (v := ?_) (a' := ?_) #[T,T,T,T,F,F,F,F,T,F,F,F,F] rfl rfl (any_of HT_.out (by kernel_rfl)) (fun _ _ _ h => h) (Or.inl ⟨by rfl, ?_⟩) ?_ ?_
                     rotate_left
                     ·
                      intro w'
                      go_simp
                      with_reducible rfl
                     rotate_left
                     ·
                      simp only [Act.put, List.setIfInBounds_toArray, List.set_cons_zero, List.set_cons_succ, i64_w, i32_w]
                      rfl
                     refine pure_ (i := 9) (N := some 35) (v := ?_) (a' := ?_) #[T,T,T,T,F,F,F,F,T,T,F,F,F] rfl rfl (any_of HT_.out (by kernel_rfl)) (fun _ _ _ h => h) (Or.inl ⟨by rfl, ?_⟩) ?_ ?_
                     rotate_left
                     ·
                      intro w'
                      go_simp
                      with_reducible rfl
                     rotate_left
                     ·
                      simp only [Act.put, List.setIfInBounds_toArray, List.set_cons_zero, List.set_cons_succ, i64_w, i32_w]
                      rfl
                     refine pure_ (i := 10) (N := some 36) (v := ?_) (a' := ?_) #[T,T,T,T,F,F,F,F,T,T,T,F,F] rfl rfl (any_of HT_.out (by kernel_rfl)) (fun _ _ _ h => h) (Or.inl ⟨by rfl, ?_⟩) ?_ ?_
                     rotate_left
                     ·
                      intro w'
                      go_simp
                      with_reducible rfl
                     rotate_left
                     ·
                      simp only [Act.put, List.setIfInBounds_toArray, List.set_cons_zero, List.set_cons_succ, i64_w, i32_w]
                      rfl
                     refine one_ (i := 4) (N := some 30) #[T,T,T,T,T,F,F,F,T,T,T,F,F] rfl rfl (one_of HT_.out (by kernel_rfl)) (by decide) (fun K hK => ?_)
                     refine Kd.R_lit_step Kd.string _ 9 ?hg (N := 30) ?hd (xs := ([t199] : List ByteArray)) (inner := [.string t199]) (ok := fun _ => True) (okp := fun _ => True) ?hr ?hp (fun _ hk => hk) trivial (Below.refl _ _) (Nat.le_refl _) (by simp) ?_; (case hd => rfl); (case hg => rfl); (case hr => first | (go_simp; done) | (go_simp; rfl)); (case hp => exact (Reps.one (show Kd.M Kd.string _ _ _ t199 [.string t199] from rfl) (Reps.none _ _)))
                     intro v203 w60 ho61 hb hg_ hnew_
                     clear hg_ hnew_
                     (first | rw [← Ny202.out] at ho61 | (simp only [Int.reduceToNat] at ho61; rw [← Ny202.out] at ho61))
                     have n0_ := Aside0.mk (Kd.R_lower ho61 (below_size (by repeat (first | (with_reducible first | exact HB.out | apply below_alloc | apply pw_below_drewN | apply below_drew1) | exact HB.out))))
                     have n1_ := Aside0.mk (below_step (by repeat (first | (with_reducible first | exact HB.out | apply below_alloc | apply pw_below_drewN | apply below_drew1) | exact HB.out)) hb)
                     clear HB; have HO204 := n0_; have HB := n1_; clear n0_ n1_; clear hb ho61
                     obtain ⟨Ao62, co62, eo62⟩ := Kd.R_slice HO204.out
                     (first | subst eo62 | (injection eo62 with f1_ f2_ f3_; have f4_ := f1_.symm; have f5_ := f3_.symm; clear f1_ f2_ f3_; subst f4_; subst f5_))
                     refine hK.out _ _ trivial (fun hHeld => ?_)
                     clear hK K
                     refine norm_ (a' := ?_) ?_ ?_
                     rotate_left
                     ·
                      show Act.put _ (some 30) _ = _
                      simp only [Act.put, List.setIfInBounds_toArray, List.set_cons_zero, List.set_cons_succ, i64_w, i32_w]
                      rfl
                     refine one_ (i := 5) (N := some 31) #[T,T,T,T,T,T,F,F,T,T,T,F,F] rfl rfl (one_of HT_.out (by kernel_rfl)) (by decide) (fun K hK => ?_)
                     refine goes_ Try.func14 (by kernel_rfl) rfl #[.slice Ao62 y202.length co62] (by rfl) rfl rfl (by (try simp only [List.map_toArray, List.map_cons, List.map_nil]); first | done | rfl | (simp only [List.length_drop, List.length_take]; rfl)) ?_
                     with_reducible refine (sum_Of.calls kj4 _ _ y202 t205 _ ?side1 ?side2 A25.out).mono ?_
                     (case side1 => repeat (first | exact (Kd.R_reads' HO204.out).2.2 | (with_reducible refine Kd.C_alloc ?_ _) | (with_reducible refine Kd.C_drewN ?_ _) | (with_reducible refine Kd.C_drew ?_)))
                     (case side2 => exact (Kd.R_reads' HO204.out).2.1)
                     rintro e w' ⟨rfl, ⟨nd, rfl⟩⟩
                     refine ⟨_, rfl, ?_⟩
                     refine hK.out _ _ trivial (fun hHeld => ?_)
                     clear hK K
                     refine norm_ (a' := ?_) ?_ ?_
                     rotate_left
                     ·
                      show Act.put _ (some 31) _ = _
                      simp only [Act.put, List.setIfInBounds_toArray, List.set_cons_zero, List.set_cons_succ, i64_w, i32_w]
                      rfl
                     refine one_ (i := 6) (N := some 32) #[T,T,T,T,T,T,T,F,T,T,T,F,F] rfl rfl (one_of HT_.out (by kernel_rfl)) (by decide) (fun K hK => ?_)
                     refine goes_ Try.func27 (by kernel_rfl) rfl #[.int .u16 t205] (by rfl) rfl rfl (by (try simp only [List.map_toArray, List.map_cons, List.map_nil]); first | done | rfl | (simp only [List.length_drop, List.length_take]; rfl)) ?_
                     with_reducible refine (turnoutlaw03_two.calls t205 t206 _ A26.out).mono ?_
                     rintro e w63 ⟨rfl, hb⟩
                     refine ⟨_, rfl, ?_⟩
                     have n0_ := Aside0.mk (Kd.R_below (by (with_reducible repeat (first | apply Kd.R_alloc | apply Kd.R_drewN | apply Kd.R_drew)); exact HO204.out) hb)
                     have n1_ := Aside0.mk (below_step (by repeat (first | (with_reducible first | exact HB.out | apply below_alloc | apply pw_below_drewN | apply below_drew1) | exact HB.out)) hb)
                     clear HO204; clear HB; have HO204 := n0_; have HB := n1_; clear n0_ n1_; (try clear hb); (try clear hb2); (try clear hk); (try clear hi)
                     refine hK.out _ _ trivial (fun hHeld => ?_)
                     clear hK K
                     refine norm_ (a' := ?_) ?_ ?_
                     rotate_left
                     ·
                      show Act.put _ (some 32) _ = _
                      simp only [Act.put, List.setIfInBounds_toArray, List.set_cons_zero, List.set_cons_succ, i64_w, i32_w]
                      rfl
                     refine pure_ (i := 7) (N := some 33) (v := ?_) (a' := ?_) #[T,T,T,T,T,T,T,T,T,T,T,F,F] rfl rfl (any_of HT_.out (by kernel_rfl)) (fun _ _ _ h => h) (Or.inl ⟨by rfl, ?_⟩) ?_ ?_
                     rotate_left
                     ·
                      intro w'
                      go_simp
                      with_reducible rfl
                     rotate_left
                     ·
                      simp only [Act.put, List.setIfInBounds_toArray, List.set_cons_zero, List.set_cons_succ, i64_w, i32_w]
                      rfl
                     refine pure_ (i := 11) (N := some 37) (v := ?_) (a' := ?_) #[T,T,T,T,T,T,T,T,T,T,T,T,F] rfl rfl (any_of HT_.out (by kernel_rfl)) (fun _ _ _ h => h) (Or.inl ⟨by rfl, ?_⟩) ?_ ?_
                     rotate_left
                     ·
                      intro w'
                      go_simp
                      with_reducible rfl
                     rotate_left
                     ·
                      simp only [Act.put, List.setIfInBounds_toArray, List.set_cons_zero, List.set_cons_succ, i64_w, i32_w]
                      rfl
                     refine pure_ (i := 12) (N := some 10) (v := ?_) (a' := ?_) #[T,T,T,T,T,T,T,T,T,T,T,T,T] rfl rfl (any_of HT_.out (by kernel_rfl)) (fun _ _ _ h => h) (Or.inl ⟨by rfl, ?_⟩) ?_ ?_
                     rotate_left
                     ·
                      intro w'
                      go_simp
                      with_reducible rfl
                     rotate_left
                     ·
                      simp only [Act.put, List.setIfInBounds_toArray, List.set_cons_zero, List.set_cons_succ, i64_w, i32_w]
                      rfl
                     refine done_ (done_of HT_.out (by kernel_rfl)) ?_
                     try go_wp2_with (first | ((with_reducible refine gate_callee (f := 16) rfl ?_); refine goesL_ (some 39) rfl rfl Try.func16 (by kernel_rfl) rfl #[.string y209] rfl (by (try simp only [List.map_toArray, List.map_cons, List.map_nil]); first | done | rfl | (simp only [List.length_drop, List.length_take]; rfl)) ?_; (with_reducible refine (sum_Good.calls kj4 y209 true _ A31.out).mono ?_); rintro e w64 ⟨rfl, hb⟩; refine ⟨_, rfl, ?_⟩; replace HO204 := Aside0.mk (Kd.R_below (by (with_reducible repeat (first | apply Kd.R_alloc | apply Kd.R_drewN | apply Kd.R_drew)); exact HO204.out) hb); replace HB := Aside0.mk (below_step (by repeat (first | (with_reducible first | exact HB.out | apply below_alloc | apply pw_below_drewN | apply below_drew1) | exact HB.out)) hb); (try clear hb); (try clear hb2); (try clear hk); (try clear hi)))
                     replace HO204 := Aside0.mk (Kd.R_drew HO204.out); replace HB := Aside0.mk (below_drew1 HB.out)
                     have p37 : 0 ≤ ((ji34) : Int) := of_decide_eq_true (by first | (with_reducible assumption) | assumption)
                     have q37 : (ji34) < (y209.size : Int) := of_decide_eq_true (by first | (with_reducible assumption) | assumption)
                     have hx37 := bt_at y209 (ji34)
                     replace p37 := eq_true p37
                     replace q37 := eq_true q37
                     have p41 : 0 ≤ ((ji38) : Int) := of_decide_eq_true (by first | (with_reducible assumption) | assumption)
                     have q41 : (ji38) < (y209.size : Int) := of_decide_eq_true (by first | (with_reducible assumption) | assumption)
                     have hx41 := bt_at y209 (ji38)
                     replace p41 := eq_true p41
                     replace q41 := eq_true q41
                     refine start_ (n := 12) (S := fun w' => True) (ds := []) #[F,F,F,F,F,F,F,F,F,F,F,F] (by kernel_rfl) rfl rfl trivial (fun hHeld => ?_); refine with_tabW turnoutlaw03_SumGood.tab9 turnoutlaw03_SumGood.bits9 (fun HT_ HW_ => ?_)
                     generalize w64.drew = w65 at HO204 HB hHeld ⊢
                     refine pure_ (i := 0) (N := some 50) (v := ?_) (a' := ?_) #[T,F,F,F,F,F,F,F,F,F,F,F] rfl rfl (any_of HT_.out (by kernel_rfl)) (fun _ _ _ h => h) (Or.inl ⟨by rfl, ?_⟩) ?_ ?_
                     rotate_left
                     ·
                      intro w'
                      go_simp
                      with_reducible rfl
                     rotate_left
                     ·
                      simp only [Act.put, List.setIfInBounds_toArray, List.set_cons_zero, List.set_cons_succ, i64_w, i32_w]
                      rfl
                     refine pure_ (i := 1) (N := some 51) (v := ?_) (a' := ?_) #[T,T,F,F,F,F,F,F,F,F,F,F] rfl rfl (any_of HT_.out (by kernel_rfl)) (fun _ _ _ h => h) (Or.inl ⟨by rfl, ?_⟩) ?_ ?_
                     rotate_left
                     ·
                      intro w'
                      go_simp
                      with_reducible rfl
                     rotate_left
                     ·
                      simp only [Act.put, List.setIfInBounds_toArray, List.set_cons_zero, List.set_cons_succ, i64_w, i32_w]
                      rfl
                     refine pure_ (i := 5) (N := some 55) (v := ?_) (a' := ?_) #[T,T,F,F,F,T,F,F,F,F,F,F] rfl rfl (any_of HT_.out (by kernel_rfl)) (fun _ _ _ h => h) (Or.inl ⟨by rfl, ?_⟩) ?_ ?_
                     rotate_left
                     ·
                      intro w'
                      go_simp
                      with_reducible rfl
                     rotate_left
                     ·
                      simp only [Act.put, List.setIfInBounds_toArray, List.set_cons_zero, List.set_cons_succ, i64_w, i32_w]
                      rfl
                     refine pure_ (i := 6) (N := some 56) (v := ?_) (a' := ?_) #[T,T,F,F,F,T,T,F,F,F,F,F] rfl rfl (any_of HT_.out (by kernel_rfl)) (fun _ _ _ h => h) (Or.inl ⟨by rfl, ?_⟩) ?_ ?_
                     rotate_left
                     ·
                      intro w'
                      go_simp
                      with_reducible rfl
                     rotate_left
                     ·
                      simp only [Act.put, List.setIfInBounds_toArray, List.set_cons_zero, List.set_cons_succ, i64_w, i32_w]
                      rfl
                     refine pure_ (i := 7) (N := some 57) (v := ?_) (a' := ?_) #[T,T,F,F,F,T,T,T,F,F,F,F] rfl rfl (any_of HT_.out (by kernel_rfl)) (fun _ _ _ h => h) (Or.inl ⟨by rfl, ?_⟩) ?_ ?_
                     rotate_left
                     ·
                      intro w'
                      go_simp
                      with_reducible rfl
                     rotate_left
                     ·
                      simp only [Act.put, List.setIfInBounds_toArray, List.set_cons_zero, List.set_cons_succ, i64_w, i32_w]
                      rfl
                     refine take_ (i := 2) (N := some 52) (v := ?_) (a' := ?_) #[T,T,T,F,F,T,T,T,F,F,F,F] rfl rfl (take_ofW HT_.out HW_.out (by kernel_rfl)) (fun _ _ _ h => h) (Or.inl ⟨by rfl, ?_⟩) hHeld ?_ ?_
                     rotate_left
                     ·
                      intro w' _
                      go_simp
                      with_reducible rfl
                     rotate_left
                     ·
                      simp only [Act.put, List.setIfInBounds_toArray, List.set_cons_zero, List.set_cons_succ, i64_w, i32_w]
                      rfl
                     refine pure_ (i := 3) (N := some 53) (v := ?_) (a' := ?_) #[T,T,T,T,F,T,T,T,F,F,F,F] rfl rfl (any_of HT_.out (by kernel_rfl)) (fun _ _ _ h => h) (Or.inl ⟨by rfl, ?_⟩) ?_ ?_
                     rotate_left
                     ·
                      intro w'
                      go_simp
                      with_reducible rfl
                     rotate_left
                     ·
                      simp only [Act.put, List.setIfInBounds_toArray, List.set_cons_zero, List.set_cons_succ, i64_w, i32_w]
                      rfl
                     refine pure_ (i := 4) (N := some 54) (v := ?_) (a' := ?_) #[T,T,T,T,T,T,T,T,F,F,F,F] rfl rfl (any_of HT_.out (by kernel_rfl)) (fun _ _ _ h => h) (Or.inl ⟨by rfl, ?_⟩) ?_ ?_
                     rotate_left
                     ·
                      intro w'
                      go_simp
                      with_reducible rfl
                     rotate_left
                     ·
                      simp only [Act.put, List.setIfInBounds_toArray, List.set_cons_zero, List.set_cons_succ, i64_w, i32_w]
                      rfl
                     refine take_ (i := 8) (N := some 58) (v := ?_) (a' := ?_) #[T,T,T,T,T,T,T,T,T,F,F,F] rfl rfl (take_ofW HT_.out HW_.out (by kernel_rfl)) (fun _ _ _ h => h) (Or.inl ⟨by rfl, ?_⟩) hHeld ?_ ?_
                     rotate_left
                     ·
                      intro w' _
                      go_simp
                      with_reducible rfl
                     rotate_left
                     ·
                      simp only [Act.put, List.setIfInBounds_toArray, List.set_cons_zero, List.set_cons_succ, i64_w, i32_w]
                      rfl
                     refine pure_ (i := 9) (N := some 59) (v := ?_) (a' := ?_) #[T,T,T,T,T,T,T,T,T,T,F,F] rfl rfl (any_of HT_.out (by kernel_rfl)) (fun _ _ _ h => h) (Or.inl ⟨by rfl, ?_⟩) ?_ ?_
                     rotate_left
                     ·
                      intro w'
                      go_simp
                      with_reducible rfl
                     rotate_left
                     ·
                      simp only [Act.put, List.setIfInBounds_toArray, List.set_cons_zero, List.set_cons_succ, i64_w, i32_w]
                      rfl
                     refine pure_ (i := 10) (N := some 60) (v := ?_) (a' := ?_) #[T,T,T,T,T,T,T,T,T,T,T,F] rfl rfl (any_of HT_.out (by kernel_rfl)) (fun _ _ _ h => h) (Or.inl ⟨by rfl, ?_⟩) ?_ ?_
                     rotate_left
                     ·
                      intro w'
                      go_simp
                      with_reducible rfl
                     rotate_left
                     ·
                      simp only [Act.put, List.setIfInBounds_toArray, List.set_cons_zero, List.set_cons_succ, i64_w, i32_w]
                      rfl
                     refine pure_ (i := 11) (N := some 12) (v := ?_) (a' := ?_) #[T,T,T,T,T,T,T,T,T,T,T,T] rfl rfl (any_of HT_.out (by kernel_rfl)) (fun _ _ _ h => h) (Or.inl ⟨by rfl, ?_⟩) ?_ ?_
                     rotate_left
                     ·
                      intro w'
                      go_simp
                      with_reducible rfl
                     rotate_left
                     ·
                      simp only [Act.put, List.setIfInBounds_toArray, List.set_cons_zero, List.set_cons_succ, i64_w, i32_w]
                      rfl
                     refine done_ (done_of HT_.out (by kernel_rfl)) ?_
                     try go_wp2
                     replace HO204 := Aside0.mk (Kd.R_drew HO204.out); replace HB := Aside0.mk (below_drew1 HB.out)
                     refine start_ (n := 14) (S := fun w' => True) (ds := []) #[F,F,F,F,F,F,F,F,F,F,F,F,F,F] (by kernel_rfl) rfl rfl trivial (fun hHeld => ?_); refine with_tabW turnoutlaw03_SumGood.tab12 turnoutlaw03_SumGood.bits12 (fun HT_ HW_ => ?_)
                     generalize w65.drew = w66 at HO204 HB hHeld ⊢
                     refine pure_ (i := 0) (N := some 66) (v := ?_) (a' := ?_) #[T,F,F,F,F,F,F,F,F,F,F,F,F,F] rfl rfl (any_of HT_.out (by kernel_rfl)) (fun _ _ _ h => h) (Or.inl ⟨by rfl, ?_⟩) ?_ ?_
                     rotate_left
                     ·
                      intro w'
                      go_simp
                      with_reducible rfl
                     rotate_left
                     ·
                      simp only [Act.put, List.setIfInBounds_toArray, List.set_cons_zero, List.set_cons_succ, i64_w, i32_w]
                      rfl
                     refine pure_ (i := 1) (N := some 67) (v := ?_) (a' := ?_) #[T,T,F,F,F,F,F,F,F,F,F,F,F,F] rfl rfl (any_of HT_.out (by kernel_rfl)) (fun _ _ _ h => h) (Or.inl ⟨by rfl, ?_⟩) ?_ ?_
                     rotate_left
                     ·
                      intro w'
                      go_simp
                      with_reducible rfl
                     rotate_left
                     ·
                      simp only [Act.put, List.setIfInBounds_toArray, List.set_cons_zero, List.set_cons_succ, i64_w, i32_w]
                      rfl
                     refine pure_ (i := 2) (N := some 68) (v := ?_) (a' := ?_) #[T,T,T,F,F,F,F,F,F,F,F,F,F,F] rfl rfl (any_of HT_.out (by kernel_rfl)) (fun _ _ _ h => h) (Or.inl ⟨by rfl, ?_⟩) ?_ ?_
                     rotate_left
                     ·
                      intro w'
                      go_simp
                      with_reducible rfl
                     rotate_left
                     ·
                      simp only [Act.put, List.setIfInBounds_toArray, List.set_cons_zero, List.set_cons_succ, i64_w, i32_w]
                      rfl
                     refine pure_ (i := 3) (N := some 69) (v := ?_) (a' := ?_) #[T,T,T,T,F,F,F,F,F,F,F,F,F,F] rfl rfl (any_of HT_.out (by kernel_rfl)) (fun _ _ _ h => h) (Or.inl ⟨by rfl, ?_⟩) ?_ ?_
                     rotate_left
                     ·
                      intro w'
                      go_simp
                      with_reducible rfl
                     rotate_left
                     ·
                      simp only [Act.put, List.setIfInBounds_toArray, List.set_cons_zero, List.set_cons_succ, i64_w, i32_w]
                      rfl
                     refine pure_ (i := 6) (N := some 72) (v := ?_) (a' := ?_) #[T,T,T,T,F,F,T,F,F,F,F,F,F,F] rfl rfl (any_of HT_.out (by kernel_rfl)) (fun _ _ _ h => h) (Or.inl ⟨by rfl, ?_⟩) ?_ ?_
                     rotate_left
                     ·
                      intro w'
                      go_simp
                      with_reducible rfl
                     rotate_left
                     ·
                      simp only [Act.put, List.setIfInBounds_toArray, List.set_cons_zero, List.set_cons_succ, i64_w, i32_w]
                      rfl
                     refine pure_ (i := 7) (N := some 73) (v := ?_) (a' := ?_) #[T,T,T,T,F,F,T,T,F,F,F,F,F,F] rfl rfl (any_of HT_.out (by kernel_rfl)) (fun _ _ _ h => h) (Or.inl ⟨by rfl, ?_⟩) ?_ ?_
                     rotate_left
                     ·
                      intro w'
                      go_simp
                      with_reducible rfl
                     rotate_left
                     ·
                      simp only [Act.put, List.setIfInBounds_toArray, List.set_cons_zero, List.set_cons_succ, i64_w, i32_w]
                      rfl
                     refine pure_ (i := 8) (N := some 74) (v := ?_) (a' := ?_) #[T,T,T,T,F,F,T,T,T,F,F,F,F,F] rfl rfl (any_of HT_.out (by kernel_rfl)) (fun _ _ _ h => h) (Or.inl ⟨by rfl, ?_⟩) ?_ ?_
                     rotate_left
                     ·
                      intro w'
                      go_simp
                      with_reducible rfl
                     rotate_left
                     ·
                      simp only [Act.put, List.setIfInBounds_toArray, List.set_cons_zero, List.set_cons_succ, i64_w, i32_w]
                      rfl
                     refine pure_ (i := 9) (N := some 75) (v := ?_) (a' := ?_) #[T,T,T,T,F,F,T,T,T,T,F,F,F,F] rfl rfl (any_of HT_.out (by kernel_rfl)) (fun _ _ _ h => h) (Or.inl ⟨by rfl, ?_⟩) ?_ ?_
                     rotate_left
                     ·
                      intro w'
                      go_simp
                      with_reducible rfl
                     rotate_left
                     ·
                      simp only [Act.put, List.setIfInBounds_toArray, List.set_cons_zero, List.set_cons_succ, i64_w, i32_w]
                      rfl
                     refine one_ (i := 4) (N := some 70) #[T,T,T,T,T,F,T,T,T,T,F,F,F,F] rfl rfl (one_of HT_.out (by kernel_rfl)) (by decide) (fun K hK => ?_)
                     refine goes_ Try.func27 (by kernel_rfl) rfl #[.int .u16 a3] (by rfl) rfl rfl (by (try simp only [List.map_toArray, List.map_cons, List.map_nil]); first | done | rfl | (simp only [List.length_drop, List.length_take]; rfl)) ?_
                     with_reducible refine (turnoutlaw03_two.calls a3 t212 _ A52.out).mono ?_
                     rintro e w67 ⟨rfl, hb⟩
                     refine ⟨_, rfl, ?_⟩
                     have n0_ := Aside0.mk (Kd.R_below (by (with_reducible repeat (first | apply Kd.R_alloc | apply Kd.R_drewN | apply Kd.R_drew)); exact HO204.out) hb)
                     have n1_ := Aside0.mk (below_step (by repeat (first | (with_reducible first | exact HB.out | apply below_alloc | apply pw_below_drewN | apply below_drew1) | exact HB.out)) hb)
                     clear HO204; clear HB; have HO204 := n0_; have HB := n1_; clear n0_ n1_; (try clear hb); (try clear hb2); (try clear hk); (try clear hi)
                     refine hK.out _ _ trivial (fun hHeld => ?_)
                     clear hK K
                     refine norm_ (a' := ?_) ?_ ?_
                     rotate_left
                     ·
                      show Act.put _ (some 70) _ = _
                      simp only [Act.put, List.setIfInBounds_toArray, List.set_cons_zero, List.set_cons_succ, i64_w, i32_w]
                      rfl
                     refine pure_ (i := 5) (N := some 71) (v := ?_) (a' := ?_) #[T,T,T,T,T,T,T,T,T,T,F,F,F,F] rfl rfl (any_of HT_.out (by kernel_rfl)) (fun _ _ _ h => h) (Or.inl ⟨by rfl, ?_⟩) ?_ ?_
                     rotate_left
                     ·
                      intro w'
                      go_simp
                      with_reducible rfl
                     rotate_left
                     ·
                      simp only [Act.put, List.setIfInBounds_toArray, List.set_cons_zero, List.set_cons_succ, i64_w, i32_w]
                      rfl
                     refine pure_ (i := 10) (N := some 76) (v := ?_) (a' := ?_) #[T,T,T,T,T,T,T,T,T,T,T,F,F,F] rfl rfl (any_of HT_.out (by kernel_rfl)) (fun _ _ _ h => h) (Or.inl ⟨by rfl, ?_⟩) ?_ ?_
                     rotate_left
                     ·
                      intro w'
                      go_simp
                      with_reducible rfl
                     rotate_left
                     ·
                      simp only [Act.put, List.setIfInBounds_toArray, List.set_cons_zero, List.set_cons_succ, i64_w, i32_w]
                      rfl
                     refine one_ (i := 11) (N := some 77) #[T,T,T,T,T,T,T,T,T,T,T,T,F,F] rfl rfl (one_of HT_.out (by kernel_rfl)) (by decide) (fun K hK => ?_)
                     refine goes_ Try.func16 (by kernel_rfl) rfl #[.string y215] (by rfl) rfl rfl (by (try simp only [List.map_toArray, List.map_cons, List.map_nil]); first | done | rfl | (simp only [List.length_drop, List.length_take]; rfl)) ?_
                     with_reducible refine (sum_Good.calls kj4 y215 t216 _ A58.out).mono ?_
                     rintro e w68 ⟨rfl, hb⟩
                     refine ⟨_, rfl, ?_⟩
                     have n0_ := Aside0.mk (Kd.R_below (by (with_reducible repeat (first | apply Kd.R_alloc | apply Kd.R_drewN | apply Kd.R_drew)); exact HO204.out) hb)
                     have n1_ := Aside0.mk (below_step (by repeat (first | (with_reducible first | exact HB.out | apply below_alloc | apply pw_below_drewN | apply below_drew1) | exact HB.out)) hb)
                     clear HO204; clear HB; have HO204 := n0_; have HB := n1_; clear n0_ n1_; (try clear hb); (try clear hb2); (try clear hk); (try clear hi)
                     refine hK.out _ _ trivial (fun hHeld => ?_)
                     clear hK K
                     refine norm_ (a' := ?_) ?_ ?_
                     rotate_left
                     ·
                      show Act.put _ (some 77) _ = _
                      simp only [Act.put, List.setIfInBounds_toArray, List.set_cons_zero, List.set_cons_succ, i64_w, i32_w]
                      rfl
                     refine pure_ (i := 12) (N := some 78) (v := ?_) (a' := ?_) #[T,T,T,T,T,T,T,T,T,T,T,T,T,F] rfl rfl (any_of HT_.out (by kernel_rfl)) (fun _ _ _ h => h) (Or.inl ⟨by rfl, ?_⟩) ?_ ?_
                     rotate_left
                     ·
                      intro w'
                      go_simp
                      with_reducible rfl
                     rotate_left
                     ·
                      simp only [Act.put, List.setIfInBounds_toArray, List.set_cons_zero, List.set_cons_succ, i64_w, i32_w]
                      rfl
                     refine pure_ (i := 13) (N := some 8) (v := ?_) (a' := ?_) #[T,T,T,T,T,T,T,T,T,T,T,T,T,T] rfl rfl (any_of HT_.out (by kernel_rfl)) (fun _ _ _ h => h) (Or.inl ⟨by rfl, ?_⟩) ?_ ?_
                     rotate_left
                     ·
                      intro w'
                      go_simp
                      with_reducible rfl
                     rotate_left
                     ·
                      simp only [Act.put, List.setIfInBounds_toArray, List.set_cons_zero, List.set_cons_succ, i64_w, i32_w]
                      rfl
                     refine done_ (done_of HT_.out (by kernel_rfl)) ?_
                     try go_wp2
                     go_ret
                     exact ⟨by first | rfl | (simp [errW_none, errW_some] <;> rfl) | (simp only [← hji34, ← hji38, ← hji54]; first | rfl | (simp [errW_none, errW_some] <;> rfl)) | (simp [*, errW_none, errW_some] <;> rfl), by repeat (first | (with_reducible first | exact HB.out | apply below_alloc | apply pw_below_drewN | apply below_drew1) | exact HB.out)⟩
                    ·
                     rw [if_neg c57] at H
                     exact absurd H (by simp)
                   ·
                    rw [if_neg c56] at H
                    exact absurd H (by simp)
                  ·
                   rw [if_neg c55] at H
                   exact absurd H (by simp)
                 ·
                  rw [if_neg c53] at H
                  exact absurd H (by simp)
                ·
                 rw [if_neg c51] at H
                 exact absurd H (by simp)
              ·
               rw [if_neg c40] at H
               exact absurd H (by simp)
             ·
              rw [if_neg c39] at H
              exact absurd H (by simp)
            ·
             rw [if_neg c36] at H
             exact absurd H (by simp)
           ·
            rw [if_neg c35] at H
            exact absurd H (by simp)
         ·
          replace c32 := Bool.eq_false_iff.mpr c32
          subst c32
          have H1 : (some false) = some r := by rw [if_neg (show ¬ (false = true) by decide)] at H; exact H
          clear H; have H := H1; clear H1
          exact absurd ((Option.some.inj H).trans hr_.out) (by decide)
        ·
         rw [if_neg c30] at H
         exact absurd H (by simp)
       ·
        rw [if_neg c27] at H
        exact absurd H (by simp)
      ·
       rw [if_neg c24] at H
       exact absurd H (by simp)
     ·
      rw [if_neg c23] at H
      exact absurd H (by simp)

/-- THE ONE PURE STATEMENT of turnoutlaw03_SumGood: yours. -/
def turnoutlaw03_SumGood.Pure : Prop := (∀ (a0 : ByteArray) (a1 : Int) (a2 : Int) (a3 : Int), a0.size ≤ 140737488351232 → (Lit.int .i64 a1).wf = true → (Lit.int .i64 a2).wf = true → (Lit.int .u16 a3).wf = true → ∃ k, turnoutlaw03_SumGood.f k a0 a1 a2 a3 = some true) ∧ (∀ k r, turnoutlaw03_awake.f k = some r → r = true)
theorem turnoutlaw03_SumGood.walk (P : turnoutlaw03_SumGood.Pure) (a0 : ByteArray) (a1 : Int) (a2 : Int) (a3 : Int) (w : World) (w0 : a0.size ≤ 140737488351232) (w1 : (Lit.int .i64 a1).wf = true) (w2 : (Lit.int .i64 a2).wf = true) (w3 : (Lit.int .u16 a3).wf = true) :
   Calls Try.prog 8 #[.string a0, .int .i64 a1, .int .i64 a2, .int .u16 a3] w fun e w' => e = .returned (.bool true) ∧ Below w.heap.size w w' := by
  obtain ⟨k, h⟩ := P.1 a0 a1 a2 a3 w0 w1 w2 w3
  refine (turnoutlaw03_SumGood.calls k a0 a1 a2 a3 true w h ⟨rfl⟩ ⟨P.2⟩).mono ?_
  rintro e w' ⟨rfl, hd⟩
  exact ⟨rfl, hd⟩

end Go.Proofs.Ytieopkigfbnhcaa.PSum
