-- Written by wip/turnprint.py, a program of this session (the kit's print, turned).
import Derived.Test.YtgpahhobifdapaaPFieldx0
import Derived.Test.YtgpahhobifdapaaPFieldx1
import Derived.Test.YtgpahhobifdapaaPFieldx3
import Derived.Test.YtgpahhobifdapaaPFieldx4
import Derived.Test.YtgpahhobifdapaaPFieldx5
import Derived.Test.YtgpahhobifdapaaPFieldx9
namespace Go.Proofs.Ytgpahhobifdapaa.PField
open Go.RowKit Go.Proofs.YtgpahhobifdapaaW.PrintWords Go.Proofs.YtgpahhobifdapaaW.PrintLast Go.Proofs.YtgpahhobifdapaaW.PrintMore
attribute [local go_sem] max2_int min2_int max_two min_two max_three min_three max_four min_four   -- for this text's walks alone
set_option linter.unusedVariables false
set_option linter.unusedSimpArgs false

attribute [local go_sem high] eqA25
attribute [local go_sem high] xorA_u8 xorA_u16 xorA_u32 xorA_u64
/-! ### turnoutlaw02_FieldNames: function 9 -/
def turnoutlaw02_FieldNames.l0 : Nat → List (S45) → Int → Int → Option (Bool)
  | 0, _, _, _ => none
  | k + 1, x39, x40, x41 => if x41 < x40 then (if 0 ≤ x41 then (if x41 < (x39.length : Int) then ((field_Get.f k (⟨#[97, 98]⟩ : ByteArray) ((rd_T45 x39 x41).f0) ((rd_T45 x39 x41).f1)).bind fun bt295 => ((turnoutlaw02_low.f 1).bind fun bt299 => ((field_Put.f k (⟨#[97, 98]⟩ : ByteArray) ((rd_T45 x39 x41).f0) ((rd_T45 x39 x41).f1) bt299.1 bt299.2).bind fun bt301 => ((turnoutlaw02_low.f 0).bind fun bt303 => ((turnoutlaw02_low.f 0).bind fun bt305 => ((field_Match.f k (⟨#[97, 98]⟩ : ByteArray) ((rd_T45 x39 x41).f0) ((rd_T45 x39 x41).f1) bt303.1 bt303.2 bt305.1 bt305.2).bind fun bt307 => (if bt295.2.2 = ((rd_T45 x39 x41).f2) then (if bt301.2 = ((rd_T45 x39 x41).f2) then (if bt307.2 = ((rd_T45 x39 x41).f2) then (if bt295.2.2 = 0 then (if bt307.1 = true then (turnoutlaw02_FieldNames.l0 k x39 x40 (wrap64 (x41 + 1))) else (some false)) else (if (!(bt295.1 == 0) || (!(bt295.2.1 == 0))) = true then (some false) else (if bt301.1.toList = ([] : List UInt8) then (if bt307.1 = true then (some false) else (turnoutlaw02_FieldNames.l0 k x39 x40 (wrap64 (x41 + 1)))) else (some false)))) else (some false)) else (some false)) else (some false)))))))) else (none)) else (none)) else ((field_Get.f k (⟨#[128, 0, 0, 0, 0, 0, 0, 1, 255, 0, 0, 0, 0, 0, 0, 2]⟩ : ByteArray) 0 128).bind fun bt309 => ((field_Text.f bt309.1 bt309.2.1 128).bind fun bt313 => ((field_Text.f bt309.1 bt309.2.1 129).bind fun bt315 => ((field_Text.f bt309.1 bt309.2.1 0).bind fun bt317 => ((field_Put.f k (⟨#[128, 0, 0, 0, 0, 0, 0, 1, 255, 0, 0, 0, 0, 0, 0, 2]⟩ : ByteArray) 0 128 1 2).bind fun bt319 => (if bt309.2.2 = 0 then (if (bt309.1 == 9223372036854775809 && (bt309.2.1 == 18374686479671623682)) = true then (if bt313.2 = 0 then (if bt313.1.toList = ([128, 0, 0, 0, 0, 0, 0, 1, 255, 0, 0, 0, 0, 0, 0, 2] : List UInt8) then (if bt315.2 = 1 then (if bt317.2 = 1 then (if bt319.2 = 0 then (if bt319.1.toList = ([0, 0, 0, 0, 0, 0, 0, 1, 0, 0, 0, 0, 0, 0, 0, 2] : List UInt8) then ((field_Bytes.f 0).bind fun t321 => (if t321 = 0 then ((field_Bytes.f 1).bind fun t322 => (if t322 = 1 then ((field_Bytes.f 8).bind fun t323 => (if t323 = 1 then ((field_Bytes.f 9).bind fun t324 => (if t324 = 2 then ((field_Bytes.f 128).bind fun t325 => (if t325 = 16 then ((field_Bytes.f 129).bind fun t326 => (if t326 = 0 then ((field_Bytes.f (-8)).bind fun t327 => (if t327 = 0 then ((field_Prefix.f k (⟨#[]⟩ : ByteArray) (⟨#[97]⟩ : ByteArray)).bind fun t328 => (if t328 = 0 then ((field_Prefix.f k (⟨#[97, 98]⟩ : ByteArray) (⟨#[97, 98, 99]⟩ : ByteArray)).bind fun t329 => (some (t329 == 16))) else (some false))) else (some false))) else (some false))) else (some false))) else (some false))) else (some false))) else (some false))) else (some false))) else (some false)) else (some false)) else (some false)) else (some false)) else (some false)) else (some false)) else (some false)) else (some false)))))))
def turnoutlaw02_FieldNames.f (k : Nat)  : Option (Bool) := (turnoutlaw02_awake.f k).bind fun t289 => (if t289 = true then ((some (([(⟨0, 0, 1⟩ : S45), (⟨0, 129, 1⟩ : S45), (⟨0, (-1), 1⟩ : S45), (⟨(-1), 8, 1⟩ : S45), (⟨99, 0, 1⟩ : S45), (⟨0, 17, 4⟩ : S45), (⟨9, 8, 4⟩ : S45), (⟨16, 1, 4⟩ : S45), (⟨9223372036854775807, 128, 4⟩ : S45), (⟨15, 1, 0⟩ : S45), (⟨0, 16, 0⟩ : S45)] : List (S45)) : List (S45))).bind fun y290 => (turnoutlaw02_FieldNames.l0 k y290 (y290.length : Int) 0)) else (some false))
theorem turnoutlaw02_FieldNames.mono_l : ∀ k, (∀ y0 y1 y2, LeO (turnoutlaw02_FieldNames.l0 k y0 y1 y2) (turnoutlaw02_FieldNames.l0 (k + 1) y0 y1 y2))
  | 0 => fun _ _ _ r h => by simp [turnoutlaw02_FieldNames.l0] at h
  | k + 1 => by
   have ih0 := turnoutlaw02_FieldNames.mono_l k
   ·
    intro y0 y1 y2
    unfold turnoutlaw02_FieldNames.l0
    repeat' first
    | (with_reducible exact ih0 _ _ _)
    | (with_reducible exact field_Get.mono _ _ _ _)
    | (with_reducible exact field_Match.mono _ _ _ _ _ _ _ _)
    | (with_reducible exact field_Prefix.mono _ _ _)
    | (with_reducible exact field_Put.mono _ _ _ _ _ _)
    | (with_reducible exact turnoutlaw02_awake.mono _)
    | (with_reducible exact LeO.refl _)
    | (with_reducible exact LeO.none _)
    | (with_reducible refine LeO.ite ?_ ?_)
    | (with_reducible refine LeO.bind ?_ (fun _ => ?_))
    | exact ih0 _ _ _
    | exact field_Get.mono _ _ _ _
    | exact field_Match.mono _ _ _ _ _ _ _ _
    | exact field_Prefix.mono _ _ _
    | exact field_Put.mono _ _ _ _ _ _
    | exact turnoutlaw02_awake.mono _
    | exact LeO.none _
    | refine LeO.ite ?_ ?_
    | refine LeO.bind ?_ (fun _ => ?_)
theorem turnoutlaw02_FieldNames.mono : ∀ k, LeO (turnoutlaw02_FieldNames.f k ) (turnoutlaw02_FieldNames.f (k + 1) ) := by
  intro  k
  have ih0 := turnoutlaw02_FieldNames.mono_l k
  unfold turnoutlaw02_FieldNames.f
  repeat' first
    | (with_reducible exact ih0 _ _ _)
    | (with_reducible exact field_Get.mono _ _ _ _)
    | (with_reducible exact field_Match.mono _ _ _ _ _ _ _ _)
    | (with_reducible exact field_Prefix.mono _ _ _)
    | (with_reducible exact field_Put.mono _ _ _ _ _ _)
    | (with_reducible exact turnoutlaw02_awake.mono _)
    | (with_reducible exact LeO.refl _)
    | (with_reducible exact LeO.none _)
    | (with_reducible refine LeO.ite ?_ ?_)
    | (with_reducible refine LeO.bind ?_ (fun _ => ?_))
    | exact ih0 _ _ _
    | exact field_Get.mono _ _ _ _
    | exact field_Match.mono _ _ _ _ _ _ _ _
    | exact field_Prefix.mono _ _ _
    | exact field_Put.mono _ _ _ _ _ _
    | exact turnoutlaw02_awake.mono _
    | exact LeO.none _
    | refine LeO.ite ?_ ?_
    | refine LeO.bind ?_ (fun _ => ?_)
def turnoutlaw02_FieldNames.T7 : Bool × List (List Nat × List Nat) := (true, [([], []), ([0], [0]), ([], []), ([2], [2]), ([], []), ([1, 3, 4, 4], [1, 3, 4]), ([5], [5]), ([6], [6]), ([6], [6]), ([7, 5, 0, 1, 2, 3, 4, 5, 6, 7], [7]), ([8, 9, 0, 1, 2, 3, 4, 5, 6, 7, 8, 9], [8])])
def turnoutlaw02_FieldNames.B7 : List Nat := [0, 1, 0, 4, 0, 31, 63, 127, 127, 255, 1023]
theorem turnoutlaw02_FieldNames.tab7 : rtab .any (opsOf Try.f9 7) = turnoutlaw02_FieldNames.T7 := by kernel_rfl
theorem turnoutlaw02_FieldNames.bits7 : waitsOk turnoutlaw02_FieldNames.T7.2 turnoutlaw02_FieldNames.B7 = true := by kernel_rfl
def turnoutlaw02_FieldNames.T8 : Bool × List (List Nat × List Nat) := (true, [([], []), ([0], [0]), ([], []), ([2], [2]), ([], []), ([4], []), ([1, 3, 4, 5, 5], [1, 3, 4, 5]), ([6], [6]), ([7], [7]), ([7], [7]), ([8, 6, 0, 1, 2, 3, 4, 5, 6, 7, 8], [8]), ([9, 10, 0, 1, 2, 3, 4, 5, 6, 7, 8, 9, 10], [9])])
def turnoutlaw02_FieldNames.B8 : List Nat := [0, 1, 0, 4, 0, 16, 63, 127, 255, 255, 511, 2047]
theorem turnoutlaw02_FieldNames.tab8 : rtab .any (opsOf Try.f9 8) = turnoutlaw02_FieldNames.T8 := by kernel_rfl
theorem turnoutlaw02_FieldNames.bits8 : waitsOk turnoutlaw02_FieldNames.T8.2 turnoutlaw02_FieldNames.B8 = true := by kernel_rfl
set_option maxHeartbeats 8000000 in
set_option maxRecDepth 100000 in
theorem turnoutlaw02_FieldNames.calls (k : Nat)  (r : Bool) (w : World) (h : turnoutlaw02_FieldNames.f k  = some r) (hr_ : Aside0 (r = true)) (HAW12 : Aside0 (∀ k r, turnoutlaw02_awake.f k = some r → r = true)) :
   Calls Try.prog 9 #[] w fun e w' => e = .returned (.bool r) ∧ Below w.heap.size w w' := by
  have hu45 := Try.underlying45
  have hu25 := Try.underlying25
  have HB := Aside0.mk (Below.refl w.heap.size w)
  have H : ((turnoutlaw02_awake.f k).bind fun t289 => (if t289 = true then ((some (([(⟨0, 0, 1⟩ : S45), (⟨0, 129, 1⟩ : S45), (⟨0, (-1), 1⟩ : S45), (⟨(-1), 8, 1⟩ : S45), (⟨99, 0, 1⟩ : S45), (⟨0, 17, 4⟩ : S45), (⟨9, 8, 4⟩ : S45), (⟨16, 1, 4⟩ : S45), (⟨9223372036854775807, 128, 4⟩ : S45), (⟨15, 1, 0⟩ : S45), (⟨0, 16, 0⟩ : S45)] : List (S45)) : List (S45))).bind fun y290 => (turnoutlaw02_FieldNames.l0 k y290 (y290.length : Int) 0)) else (some false))) = some r := h
  clear h
  replace H := Option.bind_eq_some_iff.mp H
  obtain ⟨t289, A10, H⟩ := H
  replace H : (if t289 = true then ((some (([(⟨0, 0, 1⟩ : S45), (⟨0, 129, 1⟩ : S45), (⟨0, (-1), 1⟩ : S45), (⟨(-1), 8, 1⟩ : S45), (⟨99, 0, 1⟩ : S45), (⟨0, 17, 4⟩ : S45), (⟨9, 8, 4⟩ : S45), (⟨16, 1, 4⟩ : S45), (⟨9223372036854775807, 128, 4⟩ : S45), (⟨15, 1, 0⟩ : S45), (⟨0, 16, 0⟩ : S45)] : List (S45)) : List (S45))).bind fun y290 => (turnoutlaw02_FieldNames.l0 k y290 (y290.length : Int) 0)) else (some false)) = some r := H
  have A1 := Aside0.mk A10
  clear A10
  by_cases c2 : t289 = true
  ·
   subst c2
   have H1 : ((some (([(⟨0, 0, 1⟩ : S45), (⟨0, 129, 1⟩ : S45), (⟨0, (-1), 1⟩ : S45), (⟨(-1), 8, 1⟩ : S45), (⟨99, 0, 1⟩ : S45), (⟨0, 17, 4⟩ : S45), (⟨9, 8, 4⟩ : S45), (⟨16, 1, 4⟩ : S45), (⟨9223372036854775807, 128, 4⟩ : S45), (⟨15, 1, 0⟩ : S45), (⟨0, 16, 0⟩ : S45)] : List (S45)) : List (S45))).bind fun y290 => (turnoutlaw02_FieldNames.l0 k y290 (y290.length : Int) 0)) = some r := by rw [if_pos rfl] at H; exact H
   clear H; have H := H1; clear H1
   obtain ⟨y290, hy290⟩ : ∃ y_ : List (S45), y_ = (([(⟨0, 0, 1⟩ : S45), (⟨0, 129, 1⟩ : S45), (⟨0, (-1), 1⟩ : S45), (⟨(-1), 8, 1⟩ : S45), (⟨99, 0, 1⟩ : S45), (⟨0, 17, 4⟩ : S45), (⟨9, 8, 4⟩ : S45), (⟨16, 1, 4⟩ : S45), (⟨9223372036854775807, 128, 4⟩ : S45), (⟨15, 1, 0⟩ : S45), (⟨0, 16, 0⟩ : S45)] : List (S45))) := ⟨_, rfl⟩
   replace H : (turnoutlaw02_FieldNames.l0 k y290 (y290.length : Int) 0) = some r := by first | (rw [hy290]; with_reducible exact H) | (have H2_ := (Option.bind_some _ _).symm.trans H; rw [hy290]; with_reducible exact H2_) | (have H2_ := (Option.bind_some _ _).symm.trans H; with_reducible exact H2_) | with_reducible exact H | (rw [hy290]; exact H) | exact H
   have Ny290 := Aside0.mk hy290
   clear hy290
   have H' := Aside0.mk H
   clear H
   go_enter Try.func9, Try.ntmps9
   go_wp2_with (first | ((with_reducible refine gate_callee (f := 12) rfl ?_); refine goesL_ (some 20) rfl rfl Try.func12 (by kernel_rfl) rfl #[] rfl (by (try simp only [List.map_toArray, List.map_cons, List.map_nil]); first | done | rfl | (simp only [List.length_drop, List.length_take]; rfl)) ?_; (with_reducible refine (turnoutlaw02_awake.calls k  true _ A1.out ⟨HAW12.out _ _ A1.out⟩).mono ?_); rintro e w3 ⟨rfl, hb⟩; refine ⟨_, rfl, ?_⟩; replace HB := Aside0.mk (below_step (by repeat (first | (with_reducible first | exact HB.out | apply below_alloc | apply pw_below_drewN | apply below_drew1) | exact HB.out)) hb); (try clear hb); (try clear hb2); (try clear hk); (try clear hi)) | ((with_reducible refine gate_dst (N := 39) rfl ?_); refine Kd.R_lit k45 _ 45 ?hg (N := 39) ?hd (xs := ([(⟨0, 0, 1⟩ : S45), (⟨0, 129, 1⟩ : S45), (⟨0, (-1), 1⟩ : S45), (⟨(-1), 8, 1⟩ : S45), (⟨99, 0, 1⟩ : S45), (⟨0, 17, 4⟩ : S45), (⟨9, 8, 4⟩ : S45), (⟨16, 1, 4⟩ : S45), (⟨9223372036854775807, 128, 4⟩ : S45), (⟨15, 1, 0⟩ : S45), (⟨0, 16, 0⟩ : S45)] : List (S45))) (inner := [.int .i64 0, .int .i64 0, .int .i64 1, .int .i64 0, .int .i64 129, .int .i64 1, .int .i64 0, .int .i64 (-1), .int .i64 1, .int .i64 (-1), .int .i64 8, .int .i64 1, .int .i64 99, .int .i64 0, .int .i64 1, .int .i64 0, .int .i64 17, .int .i64 4, .int .i64 9, .int .i64 8, .int .i64 4, .int .i64 16, .int .i64 1, .int .i64 4, .int .i64 9223372036854775807, .int .i64 128, .int .i64 4, .int .i64 15, .int .i64 1, .int .i64 0, .int .i64 0, .int .i64 16, .int .i64 0]) (ok := fun _ => True) (okp := fun _ => True) ?hr ?hp (fun _ hk => hk) trivial (Below.refl _ _) (Nat.le_refl _) (by simp) ?_; (case hd => rfl); (case hg => rfl); (case hr => first | (go_simp; done) | (go_simp; rfl)); (case hp => exact (Reps.c3 (show Kd.M k45 _ _ _ (⟨0, 0, 1⟩ : S45) [.int .i64 0, .int .i64 0, .int .i64 1] from (k45_mkM _ _ _ (⟨0, 0, 1⟩ : S45) )) (Reps.c3 (show Kd.M k45 _ _ _ (⟨0, 129, 1⟩ : S45) [.int .i64 0, .int .i64 129, .int .i64 1] from (k45_mkM _ _ _ (⟨0, 129, 1⟩ : S45) )) (Reps.c3 (show Kd.M k45 _ _ _ (⟨0, (-1), 1⟩ : S45) [.int .i64 0, .int .i64 (-1), .int .i64 1] from (k45_mkM _ _ _ (⟨0, (-1), 1⟩ : S45) )) (Reps.c3 (show Kd.M k45 _ _ _ (⟨(-1), 8, 1⟩ : S45) [.int .i64 (-1), .int .i64 8, .int .i64 1] from (k45_mkM _ _ _ (⟨(-1), 8, 1⟩ : S45) )) (Reps.c3 (show Kd.M k45 _ _ _ (⟨99, 0, 1⟩ : S45) [.int .i64 99, .int .i64 0, .int .i64 1] from (k45_mkM _ _ _ (⟨99, 0, 1⟩ : S45) )) (Reps.c3 (show Kd.M k45 _ _ _ (⟨0, 17, 4⟩ : S45) [.int .i64 0, .int .i64 17, .int .i64 4] from (k45_mkM _ _ _ (⟨0, 17, 4⟩ : S45) )) (Reps.c3 (show Kd.M k45 _ _ _ (⟨9, 8, 4⟩ : S45) [.int .i64 9, .int .i64 8, .int .i64 4] from (k45_mkM _ _ _ (⟨9, 8, 4⟩ : S45) )) (Reps.c3 (show Kd.M k45 _ _ _ (⟨16, 1, 4⟩ : S45) [.int .i64 16, .int .i64 1, .int .i64 4] from (k45_mkM _ _ _ (⟨16, 1, 4⟩ : S45) )) (Reps.c3 (show Kd.M k45 _ _ _ (⟨9223372036854775807, 128, 4⟩ : S45) [.int .i64 9223372036854775807, .int .i64 128, .int .i64 4] from (k45_mkM _ _ _ (⟨9223372036854775807, 128, 4⟩ : S45) )) (Reps.c3 (show Kd.M k45 _ _ _ (⟨15, 1, 0⟩ : S45) [.int .i64 15, .int .i64 1, .int .i64 0] from (k45_mkM _ _ _ (⟨15, 1, 0⟩ : S45) )) (Reps.c3 (show Kd.M k45 _ _ _ (⟨0, 16, 0⟩ : S45) [.int .i64 0, .int .i64 16, .int .i64 0] from (k45_mkM _ _ _ (⟨0, 16, 0⟩ : S45) )) (Reps.none _ _))))))))))))); intro v291 w4 ho5 hb hg_ hnew_; clear hg_ hnew_; (first | rw [← Ny290.out] at ho5 | (simp only [Int.reduceToNat] at ho5; rw [← Ny290.out] at ho5)); have HO292 := Aside0.mk (Kd.R_lower ho5 (below_size (by repeat (first | (with_reducible first | exact HB.out | apply below_alloc | apply pw_below_drewN | apply below_drew1) | exact HB.out)))); replace HB := Aside0.mk (below_step (by repeat (first | (with_reducible first | exact HB.out | apply below_alloc | apply pw_below_drewN | apply below_drew1) | exact HB.out)) hb); clear hb ho5; obtain ⟨Ao6, co6, eo6⟩ := Kd.R_slice HO292.out; subst eo6))
   go_loopg [41] k (fun kq v41 w' => ∃ (x41_1 : Int), v41 = .int .i64 x41_1 ∧ Aside0 (turnoutlaw02_FieldNames.l0 kq y290 (y290.length : Int) x41_1 = some r) ∧ Aside0 (kq ≤ k) ∧ Aside0 (Kd.R k45 45 w' w.heap.size (fun _ => True) (.slice Ao6 y290.length co6) y290) ∧ Aside0 (Below w.heap.size w w'))
   case atStart => exact ⟨(0), (by first | rfl | (simp; done) | (simp [*]; done)), H', ⟨Nat.le_refl _⟩, ⟨by (with_reducible repeat (first | apply Kd.R_alloc | apply Kd.R_drewN | apply Kd.R_drew)); exact HO292.out⟩, ⟨by repeat (first | (with_reducible first | exact HB.out | apply below_alloc | apply pw_below_drewN | apply below_drew1) | exact HB.out)⟩⟩
   case round =>
    clear H'
    try clear c1
    try clear c2
    try clear p2
    try clear c3
    obtain ⟨x41_1, rfl, HA, HK1, HO_39, HB⟩ := hrel
    cases gk with
    | zero => exact absurd HA.out (by simp [turnoutlaw02_FieldNames.l0])
    | succ k1 =>
     have H := HA.out
     clear HA
     simp only [turnoutlaw02_FieldNames.l0] at H
     by_cases c7 : x41_1 < (y290.length : Int)
     ·
      rw [if_pos c7] at H
      have c7b0 : decide (x41_1 < (y290.length : Int)) = true := decide_eq_true c7
      clear c7
      by_cases c8 : 0 ≤ x41_1
      ·
       rw [if_pos c8] at H
       have c8b0 : decide (0 ≤ x41_1) = true := decide_eq_true c8
       clear c8
       by_cases c9 : x41_1 < (y290.length : Int)
       ·
        rw [if_pos c9] at H
        have c9b0 : decide (x41_1 < (y290.length : Int)) = true := decide_eq_true c9
        clear c9
        replace H := Option.bind_eq_some_iff.mp H
        obtain ⟨⟨t295, t296, t297⟩, A100, H⟩ := H
        replace H : ((turnoutlaw02_low.f 1).bind fun bt299 => ((field_Put.f k1 (⟨#[97, 98]⟩ : ByteArray) ((rd_T45 y290 x41_1).f0) ((rd_T45 y290 x41_1).f1) bt299.1 bt299.2).bind fun bt301 => ((turnoutlaw02_low.f 0).bind fun bt303 => ((turnoutlaw02_low.f 0).bind fun bt305 => ((field_Match.f k1 (⟨#[97, 98]⟩ : ByteArray) ((rd_T45 y290 x41_1).f0) ((rd_T45 y290 x41_1).f1) bt303.1 bt303.2 bt305.1 bt305.2).bind fun bt307 => (if t297 = ((rd_T45 y290 x41_1).f2) then (if bt301.2 = ((rd_T45 y290 x41_1).f2) then (if bt307.2 = ((rd_T45 y290 x41_1).f2) then (if t297 = 0 then (if bt307.1 = true then (turnoutlaw02_FieldNames.l0 k1 y290 (y290.length : Int) (wrap64 (x41_1 + 1))) else (some false)) else (if (!(t295 == 0) || (!(t296 == 0))) = true then (some false) else (if bt301.1.toList = ([] : List UInt8) then (if bt307.1 = true then (some false) else (turnoutlaw02_FieldNames.l0 k1 y290 (y290.length : Int) (wrap64 (x41_1 + 1)))) else (some false)))) else (some false)) else (some false)) else (some false))))))) = some r := H
        have A10 := Aside0.mk A100
        clear A100
        replace H := Option.bind_eq_some_iff.mp H
        obtain ⟨⟨t299, t300⟩, A110, H⟩ := H
        replace H : ((field_Put.f k1 (⟨#[97, 98]⟩ : ByteArray) ((rd_T45 y290 x41_1).f0) ((rd_T45 y290 x41_1).f1) t299 t300).bind fun bt301 => ((turnoutlaw02_low.f 0).bind fun bt303 => ((turnoutlaw02_low.f 0).bind fun bt305 => ((field_Match.f k1 (⟨#[97, 98]⟩ : ByteArray) ((rd_T45 y290 x41_1).f0) ((rd_T45 y290 x41_1).f1) bt303.1 bt303.2 bt305.1 bt305.2).bind fun bt307 => (if t297 = ((rd_T45 y290 x41_1).f2) then (if bt301.2 = ((rd_T45 y290 x41_1).f2) then (if bt307.2 = ((rd_T45 y290 x41_1).f2) then (if t297 = 0 then (if bt307.1 = true then (turnoutlaw02_FieldNames.l0 k1 y290 (y290.length : Int) (wrap64 (x41_1 + 1))) else (some false)) else (if (!(t295 == 0) || (!(t296 == 0))) = true then (some false) else (if bt301.1.toList = ([] : List UInt8) then (if bt307.1 = true then (some false) else (turnoutlaw02_FieldNames.l0 k1 y290 (y290.length : Int) (wrap64 (x41_1 + 1)))) else (some false)))) else (some false)) else (some false)) else (some false)))))) = some r := H
        have A11 := Aside0.mk A110
        clear A110
        replace H := Option.bind_eq_some_iff.mp H
        obtain ⟨⟨t301, t302⟩, A120, H⟩ := H
        replace H : ((turnoutlaw02_low.f 0).bind fun bt303 => ((turnoutlaw02_low.f 0).bind fun bt305 => ((field_Match.f k1 (⟨#[97, 98]⟩ : ByteArray) ((rd_T45 y290 x41_1).f0) ((rd_T45 y290 x41_1).f1) bt303.1 bt303.2 bt305.1 bt305.2).bind fun bt307 => (if t297 = ((rd_T45 y290 x41_1).f2) then (if t302 = ((rd_T45 y290 x41_1).f2) then (if bt307.2 = ((rd_T45 y290 x41_1).f2) then (if t297 = 0 then (if bt307.1 = true then (turnoutlaw02_FieldNames.l0 k1 y290 (y290.length : Int) (wrap64 (x41_1 + 1))) else (some false)) else (if (!(t295 == 0) || (!(t296 == 0))) = true then (some false) else (if t301.toList = ([] : List UInt8) then (if bt307.1 = true then (some false) else (turnoutlaw02_FieldNames.l0 k1 y290 (y290.length : Int) (wrap64 (x41_1 + 1)))) else (some false)))) else (some false)) else (some false)) else (some false))))) = some r := H
        have A12 := Aside0.mk A120
        clear A120
        replace H := Option.bind_eq_some_iff.mp H
        obtain ⟨⟨t303, t304⟩, A130, H⟩ := H
        replace H : ((turnoutlaw02_low.f 0).bind fun bt305 => ((field_Match.f k1 (⟨#[97, 98]⟩ : ByteArray) ((rd_T45 y290 x41_1).f0) ((rd_T45 y290 x41_1).f1) t303 t304 bt305.1 bt305.2).bind fun bt307 => (if t297 = ((rd_T45 y290 x41_1).f2) then (if t302 = ((rd_T45 y290 x41_1).f2) then (if bt307.2 = ((rd_T45 y290 x41_1).f2) then (if t297 = 0 then (if bt307.1 = true then (turnoutlaw02_FieldNames.l0 k1 y290 (y290.length : Int) (wrap64 (x41_1 + 1))) else (some false)) else (if (!(t295 == 0) || (!(t296 == 0))) = true then (some false) else (if t301.toList = ([] : List UInt8) then (if bt307.1 = true then (some false) else (turnoutlaw02_FieldNames.l0 k1 y290 (y290.length : Int) (wrap64 (x41_1 + 1)))) else (some false)))) else (some false)) else (some false)) else (some false)))) = some r := H
        have A13 := Aside0.mk A130
        clear A130
        replace H := Option.bind_eq_some_iff.mp H
        obtain ⟨⟨t305, t306⟩, A140, H⟩ := H
        replace H : ((field_Match.f k1 (⟨#[97, 98]⟩ : ByteArray) ((rd_T45 y290 x41_1).f0) ((rd_T45 y290 x41_1).f1) t303 t304 t305 t306).bind fun bt307 => (if t297 = ((rd_T45 y290 x41_1).f2) then (if t302 = ((rd_T45 y290 x41_1).f2) then (if bt307.2 = ((rd_T45 y290 x41_1).f2) then (if t297 = 0 then (if bt307.1 = true then (turnoutlaw02_FieldNames.l0 k1 y290 (y290.length : Int) (wrap64 (x41_1 + 1))) else (some false)) else (if (!(t295 == 0) || (!(t296 == 0))) = true then (some false) else (if t301.toList = ([] : List UInt8) then (if bt307.1 = true then (some false) else (turnoutlaw02_FieldNames.l0 k1 y290 (y290.length : Int) (wrap64 (x41_1 + 1)))) else (some false)))) else (some false)) else (some false)) else (some false))) = some r := H
        have hsame_ := Option.some.inj (A13.out.symm.trans A140)
        simp only [Prod.mk.injEq] at hsame_
        obtain ⟨rfl, rfl⟩ := hsame_
        clear A140
        replace H := Option.bind_eq_some_iff.mp H
        obtain ⟨⟨t307, t308⟩, A150, H⟩ := H
        replace H : (if t297 = ((rd_T45 y290 x41_1).f2) then (if t302 = ((rd_T45 y290 x41_1).f2) then (if t308 = ((rd_T45 y290 x41_1).f2) then (if t297 = 0 then (if t307 = true then (turnoutlaw02_FieldNames.l0 k1 y290 (y290.length : Int) (wrap64 (x41_1 + 1))) else (some false)) else (if (!(t295 == 0) || (!(t296 == 0))) = true then (some false) else (if t301.toList = ([] : List UInt8) then (if t307 = true then (some false) else (turnoutlaw02_FieldNames.l0 k1 y290 (y290.length : Int) (wrap64 (x41_1 + 1)))) else (some false)))) else (some false)) else (some false)) else (some false)) = some r := H
        have A15 := Aside0.mk A150
        clear A150
        by_cases c16 : t297 = ((rd_T45 y290 x41_1).f2)
        ·
         rw [if_pos c16] at H
         have c16b0 : (t297 == ((rd_T45 y290 x41_1).f2)) = true := beq_iff_eq.mpr c16
         have c16b1 : (t297 != ((rd_T45 y290 x41_1).f2)) = false := bne_eq_false_iff_eq.mpr c16
         clear c16
         by_cases c17 : t302 = ((rd_T45 y290 x41_1).f2)
         ·
          rw [if_pos c17] at H
          have c17b0 : (t302 == ((rd_T45 y290 x41_1).f2)) = true := beq_iff_eq.mpr c17
          have c17b1 : (t302 != ((rd_T45 y290 x41_1).f2)) = false := bne_eq_false_iff_eq.mpr c17
          clear c17
          by_cases c18 : t308 = ((rd_T45 y290 x41_1).f2)
          ·
           rw [if_pos c18] at H
           have c18b0 : (t308 == ((rd_T45 y290 x41_1).f2)) = true := beq_iff_eq.mpr c18
           have c18b1 : (t308 != ((rd_T45 y290 x41_1).f2)) = false := bne_eq_false_iff_eq.mpr c18
           clear c18
           by_cases c19 : t297 = 0
           ·
            rw [if_pos c19] at H
            have c19b0 : (t297 == 0) = true := beq_iff_eq.mpr c19
            have c19b1 : (t297 != 0) = false := bne_eq_false_iff_eq.mpr c19
            clear c19
            by_cases c20 : t307 = true
            ·
             subst c20
             have H1 : (turnoutlaw02_FieldNames.l0 k1 y290 (y290.length : Int) (wrap64 (x41_1 + 1))) = some r := by rw [if_pos rfl] at H; exact H
             clear H; have H := H1; clear H1
             have H' := Aside0.mk H
             clear H
             have p293 : 0 ≤ (x41_1 : Int) := of_decide_eq_true (by first | (with_reducible assumption) | assumption)
             have q293 : x41_1 < (y290.length : Int) := of_decide_eq_true (by first | (with_reducible assumption) | assumption)
             obtain ⟨ad293, e293, hx293_0, hx293_1, hx293_2⟩ := at_T45 (Kd.R_reads' HO_39.out).2.2 x41_1 p293 q293
             cases e293
             replace p293 := eq_true p293
             replace q293 := eq_true q293
             try go_wp2_with (first | ((with_reducible refine gate_dst (N := 2) rfl ?_); refine box_event ?hg (N := 2) ?hd (cs := #[.int .i64 0, .int .i64 0, .int .i64 0]) (t := 45) ?hr ?_; (case hd => rfl); (case hg => rfl); (case hr => first | (go_simp; done) | (go_simp; rfl)); intro gb294 hg w21 hbox hb; replace HO_39 := Aside0.mk (Kd.R_below (Kd.R_elderB (by (with_reducible repeat (first | apply Kd.R_alloc | apply Kd.R_drewN | apply Kd.R_drew)); exact HO_39.out) gb294 (Nat.le_of_eq hg.symm)) hb); have BK294 := Aside0.mk (hbox); have GW294 := Aside0.mk ((by rw [hg]; exact (below_size (by repeat (first | (with_reducible first | exact HB.out | apply below_alloc | apply pw_below_drewN | apply below_drew1) | exact HB.out))) : w.heap.size ≤ gb294)); have GE294 := Aside0.mk ((by rw [hg]; exact (below_size (by repeat (first | (with_reducible first | exact HB.out | apply below_alloc | apply pw_below_drewN | apply below_drew1) | exact HB.out))) : w.heap.size ≤ gb294)); replace HB := Aside0.mk (below_step (by repeat (first | (with_reducible first | exact HB.out | apply below_alloc | apply pw_below_drewN | apply below_drew1) | exact HB.out)) hb); clear hb hbox hg; have hcz22_0 : w21.cell? ⟨gb294, 0, none⟩ = some (.int .i64 0) := (blk_cell BK294.out 0).trans rfl; have hcz22_1 : w21.cell? ⟨gb294, 1, none⟩ = some (.int .i64 0) := (blk_cell BK294.out 1).trans rfl; have hcz22_2 : w21.cell? ⟨gb294, 2, none⟩ = some (.int .i64 0) := (blk_cell BK294.out 2).trans rfl; have hfz22_0 := blk_frozen BK294.out 0; have hfz22_1 := blk_frozen BK294.out 1; have hfz22_2 := blk_frozen BK294.out 2) | ((with_reducible refine gate_callee (f := 13) rfl ?_); refine goesL_ (some 50) rfl rfl Try.func13 (by kernel_rfl) rfl #[.string (⟨#[97, 98]⟩ : ByteArray), .int .i64 ((rd_T45 y290 x41_1).f0), .int .i64 ((rd_T45 y290 x41_1).f1)] rfl (by (try simp only [List.map_toArray, List.map_cons, List.map_nil]); first | done | rfl | (simp only [List.length_drop, List.length_take]; rfl)) ?_; (with_reducible refine (field_Get.calls k1 (⟨#[97, 98]⟩ : ByteArray) ((rd_T45 y290 x41_1).f0) ((rd_T45 y290 x41_1).f1) t295 t296 t297 _ A10.out).mono ?_); rintro e w23 ⟨rfl, hb⟩; refine ⟨_, rfl, ?_⟩; replace HO_39 := Aside0.mk (Kd.R_below (by (with_reducible repeat (first | apply Kd.R_alloc | apply Kd.R_drewN | apply Kd.R_drew)); exact (Kd.R_mono (Kd.R_far (p := ⟨gb294, 2, none⟩) (Kd.R_far (p := ⟨gb294, 1, none⟩) (Kd.R_far (p := ⟨gb294, 0, none⟩) (Kd.R_mono HO_39.out (fun k_ hk => (⟨hk, hk.2⟩ : _ ∧ k_ ≠ gb294))) (fun _ hk => hk.2) (.int .i64 ((rd_T45 y290 x41_1).f0))) (fun _ hk => hk.2) (.int .i64 ((rd_T45 y290 x41_1).f1))) (fun _ hk => hk.2) (.int .i64 ((rd_T45 y290 x41_1).f2))) (fun _ h_ => h_.1))) hb); replace BK294 := Aside0.mk (blk_below (g := gb294) (o := .cells #[.int .i64 ((rd_T45 y290 x41_1).f0), .int .i64 ((rd_T45 y290 x41_1).f1), .int .i64 ((rd_T45 y290 x41_1).f2)] 45 (0, 0)) (by (with_reducible repeat (first | refine blk_drewN ?_ _ | refine blk_drew ?_ | refine blk_alloc ?_ _)); refine blk_put (cs := #[.int .i64 ((rd_T45 y290 x41_1).f0), .int .i64 ((rd_T45 y290 x41_1).f1), .int .i64 0]) ?_ 2 _ rfl; (with_reducible repeat (first | refine blk_drewN ?_ _ | refine blk_drew ?_ | refine blk_alloc ?_ _)); refine blk_put (cs := #[.int .i64 ((rd_T45 y290 x41_1).f0), .int .i64 0, .int .i64 0]) ?_ 1 _ rfl; (with_reducible repeat (first | refine blk_drewN ?_ _ | refine blk_drew ?_ | refine blk_alloc ?_ _)); refine blk_put (cs := #[.int .i64 0, .int .i64 0, .int .i64 0]) ?_ 0 _ rfl; (with_reducible repeat (first | refine blk_drewN ?_ _ | refine blk_drew ?_ | refine blk_alloc ?_ _)); exact BK294.out) hb); replace HB := Aside0.mk (below_step (by repeat (first | (with_reducible first | exact HB.out | apply below_alloc | apply pw_below_drewN | apply below_drew1 | refine below_set ?_ GE294.out) | exact HB.out)) hb); (try clear hb); (try clear hb2); (try clear hk); (try clear hi)) | ((with_reducible refine gate_dst (N := 3) rfl ?_); refine box_event ?hg (N := 3) ?hd (cs := #[.int .u64 0, .int .u64 0]) (t := 25) ?hr ?_; (case hd => rfl); (case hg => rfl); (case hr => first | (go_simp; done) | (go_simp; rfl)); intro gb298 hg w24 hbox hb; replace HO_39 := Aside0.mk (Kd.R_below (by (with_reducible repeat (first | apply Kd.R_alloc | apply Kd.R_drewN | apply Kd.R_drew)); exact HO_39.out) hb); have BK298 := Aside0.mk (hbox); have GW298 := Aside0.mk ((by rw [hg]; exact (below_size (by repeat (first | (with_reducible first | exact HB.out | apply below_alloc | apply pw_below_drewN | apply below_drew1 | refine below_set ?_ GE294.out) | exact HB.out))) : w.heap.size ≤ gb298)); have GE298 := Aside0.mk ((by rw [hg]; exact (below_size (by repeat (first | (with_reducible first | exact HB.out | apply below_alloc | apply pw_below_drewN | apply below_drew1 | refine below_set ?_ GE294.out) | exact HB.out))) : w.heap.size ≤ gb298)); replace HB := Aside0.mk (below_step (by repeat (first | (with_reducible first | exact HB.out | apply below_alloc | apply pw_below_drewN | apply below_drew1 | refine below_set ?_ GE294.out) | exact HB.out)) hb); have NB294_298 := Aside0.mk ((by rw [hg]; exact Nat.ne_of_lt (blk_lt (bkA BK294.out)) : gb294 ≠ gb298)); have NB298_294 := Aside0.mk ((by rw [hg]; exact Nat.ne_of_gt (blk_lt (bkA BK294.out)) : gb298 ≠ gb294)); replace BK294 := Aside0.mk (blk_below (bkA BK294.out) hb); clear hb hbox hg; have hnb25 := NB298_294.out; have hnc25 := NB294_298.out; have hcz26_0 : w24.cell? ⟨gb298, 0, none⟩ = some (.int .u64 0) := (blk_cell BK298.out 0).trans rfl; have hcz26_1 : w24.cell? ⟨gb298, 1, none⟩ = some (.int .u64 0) := (blk_cell BK298.out 1).trans rfl; have hfz26_0 := blk_frozen BK298.out 0; have hfz26_1 := blk_frozen BK298.out 1))
             have n0_ : Aside0 (Kd.R k45 45 ((w24.setCell ⟨gb298, 0, none⟩ (.int .u64 t295)).setCell ⟨gb298, 1, none⟩ (.int .u64 t296)) w.heap.size (fun k_ => k_ ≠ gb294) (.slice (some ad293) y290.length co6) y290) := ⟨by (with_reducible repeat (first | apply Kd.R_alloc | apply Kd.R_drewN | apply Kd.R_drew)); exact Kd.R_mono (Kd.R_far (p := ⟨gb298, 1, none⟩) (Kd.R_far (p := ⟨gb298, 0, none⟩) (Kd.R_types HO_39.out BK298.out (by decide)) (fun _ hk => hk.2) (.int .u64 t295)) (fun _ hk => hk.2) (.int .u64 t296)) (fun _ hk => hk.1.2)⟩
             have n1_ : Aside0 (((w24.setCell ⟨gb298, 0, none⟩ (.int .u64 t295)).setCell ⟨gb298, 1, none⟩ (.int .u64 t296)).heap[gb294]? = some (.cells #[.int .i64 ((rd_T45 y290 x41_1).f0), .int .i64 ((rd_T45 y290 x41_1).f1), .int .i64 ((rd_T45 y290 x41_1).f2)] 45 (0, 0))) := ⟨by (with_reducible repeat (first | refine blk_drewN ?_ _ | refine blk_drew ?_ | refine blk_alloc ?_ _)); refine blk_far ?_ NB294_298.out _; (with_reducible repeat (first | refine blk_drewN ?_ _ | refine blk_drew ?_ | refine blk_alloc ?_ _)); refine blk_far ?_ NB294_298.out _; (with_reducible repeat (first | refine blk_drewN ?_ _ | refine blk_drew ?_ | refine blk_alloc ?_ _)); exact BK294.out⟩
             have n2_ : Aside0 (((w24.setCell ⟨gb298, 0, none⟩ (.int .u64 t295)).setCell ⟨gb298, 1, none⟩ (.int .u64 t296)).heap[gb298]? = some (.cells #[.int .u64 t295, .int .u64 t296] 25 (0, 0))) := ⟨by (with_reducible repeat (first | refine blk_drewN ?_ _ | refine blk_drew ?_ | refine blk_alloc ?_ _)); refine blk_put (cs := #[.int .u64 t295, .int .u64 0]) ?_ 1 _ rfl; (with_reducible repeat (first | refine blk_drewN ?_ _ | refine blk_drew ?_ | refine blk_alloc ?_ _)); refine blk_put (cs := #[.int .u64 0, .int .u64 0]) ?_ 0 _ rfl; (with_reducible repeat (first | refine blk_drewN ?_ _ | refine blk_drew ?_ | refine blk_alloc ?_ _)); exact BK298.out⟩
             have n3_ : Aside0 (Below w.heap.size w ((w24.setCell ⟨gb298, 0, none⟩ (.int .u64 t295)).setCell ⟨gb298, 1, none⟩ (.int .u64 t296))) := ⟨by repeat (first | (with_reducible first | exact HB.out | apply below_alloc | apply pw_below_drewN | apply below_drew1 | refine below_set ?_ GE294.out | refine below_set ?_ GE298.out) | exact HB.out)⟩
             (try clear HO_39); (try clear BK294); (try clear BK298); (try clear HB); generalize ((w24.setCell ⟨gb298, 0, none⟩ (.int .u64 t295)).setCell ⟨gb298, 1, none⟩ (.int .u64 t296)) = w27 at n0_ n1_ n2_ n3_ ⊢; have HO_39 := n0_; have BK294 := n1_; have BK298 := n2_; have HB := n3_; clear n0_ n1_ n2_ n3_; replace HO_39 := Aside0.mk (Kd.R_drew HO_39.out); replace BK294 := Aside0.mk (blk_drew BK294.out); replace BK298 := Aside0.mk (blk_drew BK298.out); replace HB := Aside0.mk (below_drew1 HB.out)
             refine start_ (n := 11) (S := fun w' => w'.cell? ⟨gb294, 0, none⟩ = some (.int .i64 ((rd_T45 y290 x41_1).f0)) ∧ w'.cell? ⟨gb294, 1, none⟩ = some (.int .i64 ((rd_T45 y290 x41_1).f1)) ∧ w'.cell? ⟨gb294, 2, none⟩ = some (.int .i64 ((rd_T45 y290 x41_1).f2))) (ds := []) #[F,F,F,F,F,F,F,F,F,F,F] (by kernel_rfl) rfl rfl ⟨(blk_cell BK294.out 0).trans rfl, (blk_cell BK294.out 1).trans rfl, (blk_cell BK294.out 2).trans rfl⟩ (fun hHeld => ?_); refine with_tabW turnoutlaw02_FieldNames.tab7 turnoutlaw02_FieldNames.bits7 (fun HT_ HW_ => ?_)
             generalize w27.drew = w28 at HO_39 BK294 BK298 HB hHeld ⊢
             refine pure_ (i := 0) (N := some 54) (v := ?_) (a' := ?_) #[T,F,F,F,F,F,F,F,F,F,F] rfl rfl (any_of HT_.out (by kernel_rfl)) (fun _ _ _ h => h) (Or.inl ⟨by rfl, ?_⟩) ?_ ?_
             rotate_left
             ·
              intro w'
              go_simp
              with_reducible rfl
             rotate_left
             ·
              simp only [Act.put, List.setIfInBounds_toArray, List.set_cons_zero, List.set_cons_succ, i64_w, i32_w]
              rfl
             refine pure_ (i := 2) (N := some 56) (v := ?_) (a' := ?_) #[T,F,T,F,F,F,F,F,F,F,F] rfl rfl (any_of HT_.out (by kernel_rfl)) (fun _ _ _ h => h) (Or.inl ⟨by rfl, ?_⟩) ?_ ?_
             rotate_left
             ·
              intro w'
              go_simp
              with_reducible rfl
             rotate_left
             ·
              simp only [Act.put, List.setIfInBounds_toArray, List.set_cons_zero, List.set_cons_succ, i64_w, i32_w]
              rfl
             refine take_ (i := 1) (N := some 55) (v := ?_) (a' := ?_) #[T,T,T,F,F,F,F,F,F,F,F] rfl rfl (take_ofW HT_.out HW_.out (by kernel_rfl)) (fun _ _ _ h => h) (Or.inl ⟨by rfl, ?_⟩) hHeld ?_ ?_
             rotate_left
             ·
              rintro w' ⟨s0, s1, s2⟩
              go_simp
              with_reducible rfl
             rotate_left
             ·
              simp only [Act.put, List.setIfInBounds_toArray, List.set_cons_zero, List.set_cons_succ, i64_w, i32_w]
              rfl
             refine take_ (i := 3) (N := some 57) (v := ?_) (a' := ?_) #[T,T,T,T,F,F,F,F,F,F,F] rfl rfl (take_ofW HT_.out HW_.out (by kernel_rfl)) (fun _ _ _ h => h) (Or.inl ⟨by rfl, ?_⟩) hHeld ?_ ?_
             rotate_left
             ·
              rintro w' ⟨s0, s1, s2⟩
              go_simp
              with_reducible rfl
             rotate_left
             ·
              simp only [Act.put, List.setIfInBounds_toArray, List.set_cons_zero, List.set_cons_succ, i64_w, i32_w]
              rfl
             refine one_ (i := 4) (N := some 58) #[T,T,T,T,T,F,F,F,F,F,F] rfl rfl (one_of HT_.out (by kernel_rfl)) (by decide) (fun K hK => ?_)
             refine goes_ Try.func28 (by kernel_rfl) rfl #[.int .u64 1] (by rfl) rfl rfl (by (try simp only [List.map_toArray, List.map_cons, List.map_nil]); first | done | rfl | (simp only [List.length_drop, List.length_take]; rfl)) ?_
             with_reducible refine (turnoutlaw02_low.calls 1 t299 t300 _ A11.out).mono ?_
             rintro e w29 ⟨rfl, hb⟩
             refine ⟨_, rfl, ?_⟩
             have n0_ := Aside0.mk (Kd.R_below (by (with_reducible repeat (first | apply Kd.R_alloc | apply Kd.R_drewN | apply Kd.R_drew)); exact HO_39.out) hb)
             have n1_ := Aside0.mk (blk_below (bkA BK294.out) hb); have n2_ := Aside0.mk (blk_below (bkA BK298.out) hb)
             have n3_ := Aside0.mk (below_step (by repeat (first | (with_reducible first | exact HB.out | apply below_alloc | apply pw_below_drewN | apply below_drew1 | refine below_set ?_ GE294.out | refine below_set ?_ GE298.out) | exact HB.out)) hb)
             clear HO_39; clear BK294; clear BK298; clear HB; have HO_39 := n0_; have BK294 := n1_; have BK298 := n2_; have HB := n3_; clear n0_ n1_ n2_ n3_; (try clear hb); (try clear hb2); (try clear hk); (try clear hi)
             refine hK.out _ _ ⟨(blk_cell BK294.out 0).trans rfl, (blk_cell BK294.out 1).trans rfl, (blk_cell BK294.out 2).trans rfl⟩ (fun hHeld => ?_)
             clear hK K
             refine norm_ (a' := ?_) ?_ ?_
             rotate_left
             ·
              show Act.put _ (some 58) _ = _
              simp only [Act.put, List.setIfInBounds_toArray, List.set_cons_zero, List.set_cons_succ, i64_w, i32_w]
              rfl
             refine one_ (i := 5) (N := some 59) #[T,T,T,T,T,T,F,F,F,F,F] rfl rfl (one_of HT_.out (by kernel_rfl)) (by decide) (fun K hK => ?_)
             refine goes_ Try.func15 (by kernel_rfl) rfl #[.string (⟨#[97, 98]⟩ : ByteArray), .int .i64 ((rd_T45 y290 x41_1).f0), .int .i64 ((rd_T45 y290 x41_1).f1), .agg #[.int .u64 t299, .int .u64 t300]] (by rfl) rfl rfl (by (try simp only [List.map_toArray, List.map_cons, List.map_nil]); first | done | rfl | (simp only [List.length_drop, List.length_take]; rfl)) ?_
             with_reducible refine (field_Put.calls k1 (⟨#[97, 98]⟩ : ByteArray) ((rd_T45 y290 x41_1).f0) ((rd_T45 y290 x41_1).f1) t299 t300 t301 t302 _ A12.out).mono ?_
             rintro e w30 ⟨rfl, hb⟩
             refine ⟨_, rfl, ?_⟩
             have n0_ := Aside0.mk (Kd.R_below (by (with_reducible repeat (first | apply Kd.R_alloc | apply Kd.R_drewN | apply Kd.R_drew)); exact HO_39.out) hb)
             have n1_ := Aside0.mk (blk_below (bkA BK294.out) hb); have n2_ := Aside0.mk (blk_below (bkA BK298.out) hb)
             have n3_ := Aside0.mk (below_step (by repeat (first | (with_reducible first | exact HB.out | apply below_alloc | apply pw_below_drewN | apply below_drew1 | refine below_set ?_ GE294.out | refine below_set ?_ GE298.out) | exact HB.out)) hb)
             clear HO_39; clear BK294; clear BK298; clear HB; have HO_39 := n0_; have BK294 := n1_; have BK298 := n2_; have HB := n3_; clear n0_ n1_ n2_ n3_; (try clear hb); (try clear hb2); (try clear hk); (try clear hi)
             refine hK.out _ _ ⟨(blk_cell BK294.out 0).trans rfl, (blk_cell BK294.out 1).trans rfl, (blk_cell BK294.out 2).trans rfl⟩ (fun hHeld => ?_)
             clear hK K
             refine norm_ (a' := ?_) ?_ ?_
             rotate_left
             ·
              show Act.put _ (some 59) _ = _
              simp only [Act.put, List.setIfInBounds_toArray, List.set_cons_zero, List.set_cons_succ, i64_w, i32_w]
              rfl
             refine pure_ (i := 6) (N := some 53) (v := ?_) (a' := ?_) #[T,T,T,T,T,T,T,F,F,F,F] rfl rfl (any_of HT_.out (by kernel_rfl)) (fun _ _ _ h => h) (Or.inl ⟨by rfl, ?_⟩) ?_ ?_
             rotate_left
             ·
              intro w'
              go_simp
              with_reducible rfl
             rotate_left
             ·
              simp only [Act.put, List.setIfInBounds_toArray, List.set_cons_zero, List.set_cons_succ, i64_w, i32_w]
              rfl
             refine pure_ (i := 7) (N := some 60) (v := ?_) (a' := ?_) #[T,T,T,T,T,T,T,T,F,F,F] rfl rfl (any_of HT_.out (by kernel_rfl)) (fun _ _ _ h => h) (Or.inl ⟨by rfl, ?_⟩) ?_ ?_
             rotate_left
             ·
              intro w'
              go_simp
              with_reducible rfl
             rotate_left
             ·
              simp only [Act.put, List.setIfInBounds_toArray, List.set_cons_zero, List.set_cons_succ, i64_w, i32_w]
              rfl
             refine pure_ (i := 8) (N := some 61) (v := ?_) (a' := ?_) #[T,T,T,T,T,T,T,T,T,F,F] rfl rfl (any_of HT_.out (by kernel_rfl)) (fun _ _ _ h => h) (Or.inl ⟨by rfl, ?_⟩) ?_ ?_
             rotate_left
             ·
              intro w'
              go_simp
              with_reducible rfl
             rotate_left
             ·
              simp only [Act.put, List.setIfInBounds_toArray, List.set_cons_zero, List.set_cons_succ, i64_w, i32_w]
              rfl
             refine pure_ (i := 9) (N := some 5) (v := ?_) (a' := ?_) #[T,T,T,T,T,T,T,T,T,T,F] rfl rfl (any_of HT_.out (by kernel_rfl)) (fun _ _ _ h => h) (Or.inl ⟨by rfl, ?_⟩) ?_ ?_
             rotate_left
             ·
              intro w'
              go_simp
              with_reducible rfl
             rotate_left
             ·
              simp only [Act.put, List.setIfInBounds_toArray, List.set_cons_zero, List.set_cons_succ, i64_w, i32_w]
              rfl
             refine pure_ (i := 10) (N := some 6) (v := ?_) (a' := ?_) #[T,T,T,T,T,T,T,T,T,T,T] rfl rfl (any_of HT_.out (by kernel_rfl)) (fun _ _ _ h => h) (Or.inl ⟨by rfl, ?_⟩) ?_ ?_
             rotate_left
             ·
              intro w'
              go_simp
              with_reducible rfl
             rotate_left
             ·
              simp only [Act.put, List.setIfInBounds_toArray, List.set_cons_zero, List.set_cons_succ, i64_w, i32_w]
              rfl
             refine done_ (done_of HT_.out (by kernel_rfl)) ?_
             try go_wp2
             replace HO_39 := Aside0.mk (Kd.R_drew HO_39.out); replace BK294 := Aside0.mk (blk_drew BK294.out); replace BK298 := Aside0.mk (blk_drew BK298.out); replace HB := Aside0.mk (below_drew1 HB.out)
             refine start_ (n := 12) (S := fun w' => w'.cell? ⟨gb294, 0, none⟩ = some (.int .i64 ((rd_T45 y290 x41_1).f0)) ∧ w'.cell? ⟨gb294, 1, none⟩ = some (.int .i64 ((rd_T45 y290 x41_1).f1)) ∧ w'.cell? ⟨gb294, 2, none⟩ = some (.int .i64 ((rd_T45 y290 x41_1).f2))) (ds := []) #[F,F,F,F,F,F,F,F,F,F,F,F] (by kernel_rfl) rfl rfl ⟨(blk_cell BK294.out 0).trans rfl, (blk_cell BK294.out 1).trans rfl, (blk_cell BK294.out 2).trans rfl⟩ (fun hHeld => ?_); refine with_tabW turnoutlaw02_FieldNames.tab8 turnoutlaw02_FieldNames.bits8 (fun HT_ HW_ => ?_)
             generalize w30.drew = w31 at HO_39 BK294 BK298 HB hHeld ⊢
             refine pure_ (i := 0) (N := some 63) (v := ?_) (a' := ?_) #[T,F,F,F,F,F,F,F,F,F,F,F] rfl rfl (any_of HT_.out (by kernel_rfl)) (fun _ _ _ h => h) (Or.inl ⟨by rfl, ?_⟩) ?_ ?_
             rotate_left
             ·
              intro w'
              go_simp
              with_reducible rfl
             rotate_left
             ·
              simp only [Act.put, List.setIfInBounds_toArray, List.set_cons_zero, List.set_cons_succ, i64_w, i32_w]
              rfl
             refine pure_ (i := 2) (N := some 65) (v := ?_) (a' := ?_) #[T,F,T,F,F,F,F,F,F,F,F,F] rfl rfl (any_of HT_.out (by kernel_rfl)) (fun _ _ _ h => h) (Or.inl ⟨by rfl, ?_⟩) ?_ ?_
             rotate_left
             ·
              intro w'
              go_simp
              with_reducible rfl
             rotate_left
             ·
              simp only [Act.put, List.setIfInBounds_toArray, List.set_cons_zero, List.set_cons_succ, i64_w, i32_w]
              rfl
             refine take_ (i := 1) (N := some 64) (v := ?_) (a' := ?_) #[T,T,T,F,F,F,F,F,F,F,F,F] rfl rfl (take_ofW HT_.out HW_.out (by kernel_rfl)) (fun _ _ _ h => h) (Or.inl ⟨by rfl, ?_⟩) hHeld ?_ ?_
             rotate_left
             ·
              rintro w' ⟨s0, s1, s2⟩
              go_simp
              with_reducible rfl
             rotate_left
             ·
              simp only [Act.put, List.setIfInBounds_toArray, List.set_cons_zero, List.set_cons_succ, i64_w, i32_w]
              rfl
             refine take_ (i := 3) (N := some 66) (v := ?_) (a' := ?_) #[T,T,T,T,F,F,F,F,F,F,F,F] rfl rfl (take_ofW HT_.out HW_.out (by kernel_rfl)) (fun _ _ _ h => h) (Or.inl ⟨by rfl, ?_⟩) hHeld ?_ ?_
             rotate_left
             ·
              rintro w' ⟨s0, s1, s2⟩
              go_simp
              with_reducible rfl
             rotate_left
             ·
              simp only [Act.put, List.setIfInBounds_toArray, List.set_cons_zero, List.set_cons_succ, i64_w, i32_w]
              rfl
             refine one_ (i := 4) (N := some 67) #[T,T,T,T,T,F,F,F,F,F,F,F] rfl rfl (one_of HT_.out (by kernel_rfl)) (by decide) (fun K hK => ?_)
             refine goes_ Try.func28 (by kernel_rfl) rfl #[.int .u64 0] (by rfl) rfl rfl (by (try simp only [List.map_toArray, List.map_cons, List.map_nil]); first | done | rfl | (simp only [List.length_drop, List.length_take]; rfl)) ?_
             with_reducible refine (turnoutlaw02_low.calls 0 t303 t304 _ A13.out).mono ?_
             rintro e w32 ⟨rfl, hb⟩
             refine ⟨_, rfl, ?_⟩
             have n0_ := Aside0.mk (Kd.R_below (by (with_reducible repeat (first | apply Kd.R_alloc | apply Kd.R_drewN | apply Kd.R_drew)); exact HO_39.out) hb)
             have n1_ := Aside0.mk (blk_below (bkA BK294.out) hb); have n2_ := Aside0.mk (blk_below (bkA BK298.out) hb)
             have n3_ := Aside0.mk (below_step (by repeat (first | (with_reducible first | exact HB.out | apply below_alloc | apply pw_below_drewN | apply below_drew1 | refine below_set ?_ GE294.out | refine below_set ?_ GE298.out) | exact HB.out)) hb)
             clear HO_39; clear BK294; clear BK298; clear HB; have HO_39 := n0_; have BK294 := n1_; have BK298 := n2_; have HB := n3_; clear n0_ n1_ n2_ n3_; (try clear hb); (try clear hb2); (try clear hk); (try clear hi)
             refine hK.out _ _ ⟨(blk_cell BK294.out 0).trans rfl, (blk_cell BK294.out 1).trans rfl, (blk_cell BK294.out 2).trans rfl⟩ (fun hHeld => ?_)
             clear hK K
             refine norm_ (a' := ?_) ?_ ?_
             rotate_left
             ·
              show Act.put _ (some 67) _ = _
              simp only [Act.put, List.setIfInBounds_toArray, List.set_cons_zero, List.set_cons_succ, i64_w, i32_w]
              rfl
             refine one_ (i := 5) (N := some 68) #[T,T,T,T,T,T,F,F,F,F,F,F] rfl rfl (one_of HT_.out (by kernel_rfl)) (by decide) (fun K hK => ?_)
             refine goes_ Try.func28 (by kernel_rfl) rfl #[.int .u64 0] (by rfl) rfl rfl (by (try simp only [List.map_toArray, List.map_cons, List.map_nil]); first | done | rfl | (simp only [List.length_drop, List.length_take]; rfl)) ?_
             with_reducible refine (turnoutlaw02_low.calls 0 t303 t304 _ A13.out).mono ?_
             rintro e w33 ⟨rfl, hb⟩
             refine ⟨_, rfl, ?_⟩
             have n0_ := Aside0.mk (Kd.R_below (by (with_reducible repeat (first | apply Kd.R_alloc | apply Kd.R_drewN | apply Kd.R_drew)); exact HO_39.out) hb)
             have n1_ := Aside0.mk (blk_below (bkA BK294.out) hb); have n2_ := Aside0.mk (blk_below (bkA BK298.out) hb)
             have n3_ := Aside0.mk (below_step (by repeat (first | (with_reducible first | exact HB.out | apply below_alloc | apply pw_below_drewN | apply below_drew1 | refine below_set ?_ GE294.out | refine below_set ?_ GE298.out) | exact HB.out)) hb)
             clear HO_39; clear BK294; clear BK298; clear HB; have HO_39 := n0_; have BK294 := n1_; have BK298 := n2_; have HB := n3_; clear n0_ n1_ n2_ n3_; (try clear hb); (try clear hb2); (try clear hk); (try clear hi)
             refine hK.out _ _ ⟨(blk_cell BK294.out 0).trans rfl, (blk_cell BK294.out 1).trans rfl, (blk_cell BK294.out 2).trans rfl⟩ (fun hHeld => ?_)
             clear hK K
             refine norm_ (a' := ?_) ?_ ?_
             rotate_left
             ·
              show Act.put _ (some 68) _ = _
              simp only [Act.put, List.setIfInBounds_toArray, List.set_cons_zero, List.set_cons_succ, i64_w, i32_w]
              rfl
             refine one_ (i := 6) (N := some 69) #[T,T,T,T,T,T,T,F,F,F,F,F] rfl rfl (one_of HT_.out (by kernel_rfl)) (by decide) (fun K hK => ?_)
             refine goes_ Try.func23 (by kernel_rfl) rfl #[.string (⟨#[97, 98]⟩ : ByteArray), .int .i64 ((rd_T45 y290 x41_1).f0), .int .i64 ((rd_T45 y290 x41_1).f1), .agg #[.int .u64 t303, .int .u64 t304], .agg #[.int .u64 t303, .int .u64 t304]] (by rfl) rfl rfl (by (try simp only [List.map_toArray, List.map_cons, List.map_nil]); first | done | rfl | (simp only [List.length_drop, List.length_take]; rfl)) ?_
             with_reducible refine (field_Match.calls k1 (⟨#[97, 98]⟩ : ByteArray) ((rd_T45 y290 x41_1).f0) ((rd_T45 y290 x41_1).f1) t303 t304 t303 t304 true t308 _ A15.out).mono ?_
             rintro e w34 ⟨rfl, hb⟩
             refine ⟨_, rfl, ?_⟩
             have n0_ := Aside0.mk (Kd.R_below (by (with_reducible repeat (first | apply Kd.R_alloc | apply Kd.R_drewN | apply Kd.R_drew)); exact HO_39.out) hb)
             have n1_ := Aside0.mk (blk_below (bkA BK294.out) hb); have n2_ := Aside0.mk (blk_below (bkA BK298.out) hb)
             have n3_ := Aside0.mk (below_step (by repeat (first | (with_reducible first | exact HB.out | apply below_alloc | apply pw_below_drewN | apply below_drew1 | refine below_set ?_ GE294.out | refine below_set ?_ GE298.out) | exact HB.out)) hb)
             clear HO_39; clear BK294; clear BK298; clear HB; have HO_39 := n0_; have BK294 := n1_; have BK298 := n2_; have HB := n3_; clear n0_ n1_ n2_ n3_; (try clear hb); (try clear hb2); (try clear hk); (try clear hi)
             refine hK.out _ _ ⟨(blk_cell BK294.out 0).trans rfl, (blk_cell BK294.out 1).trans rfl, (blk_cell BK294.out 2).trans rfl⟩ (fun hHeld => ?_)
             clear hK K
             refine norm_ (a' := ?_) ?_ ?_
             rotate_left
             ·
              show Act.put _ (some 69) _ = _
              simp only [Act.put, List.setIfInBounds_toArray, List.set_cons_zero, List.set_cons_succ, i64_w, i32_w]
              rfl
             refine pure_ (i := 7) (N := some 62) (v := ?_) (a' := ?_) #[T,T,T,T,T,T,T,T,F,F,F,F] rfl rfl (any_of HT_.out (by kernel_rfl)) (fun _ _ _ h => h) (Or.inl ⟨by rfl, ?_⟩) ?_ ?_
             rotate_left
             ·
              intro w'
              go_simp
              with_reducible rfl
             rotate_left
             ·
              simp only [Act.put, List.setIfInBounds_toArray, List.set_cons_zero, List.set_cons_succ, i64_w, i32_w]
              rfl
             refine pure_ (i := 8) (N := some 70) (v := ?_) (a' := ?_) #[T,T,T,T,T,T,T,T,T,F,F,F] rfl rfl (any_of HT_.out (by kernel_rfl)) (fun _ _ _ h => h) (Or.inl ⟨by rfl, ?_⟩) ?_ ?_
             rotate_left
             ·
              intro w'
              go_simp
              with_reducible rfl
             rotate_left
             ·
              simp only [Act.put, List.setIfInBounds_toArray, List.set_cons_zero, List.set_cons_succ, i64_w, i32_w]
              rfl
             refine pure_ (i := 9) (N := some 71) (v := ?_) (a' := ?_) #[T,T,T,T,T,T,T,T,T,T,F,F] rfl rfl (any_of HT_.out (by kernel_rfl)) (fun _ _ _ h => h) (Or.inl ⟨by rfl, ?_⟩) ?_ ?_
             rotate_left
             ·
              intro w'
              go_simp
              with_reducible rfl
             rotate_left
             ·
              simp only [Act.put, List.setIfInBounds_toArray, List.set_cons_zero, List.set_cons_succ, i64_w, i32_w]
              rfl
             refine pure_ (i := 10) (N := some 7) (v := ?_) (a' := ?_) #[T,T,T,T,T,T,T,T,T,T,T,F] rfl rfl (any_of HT_.out (by kernel_rfl)) (fun _ _ _ h => h) (Or.inl ⟨by rfl, ?_⟩) ?_ ?_
             rotate_left
             ·
              intro w'
              go_simp
              with_reducible rfl
             rotate_left
             ·
              simp only [Act.put, List.setIfInBounds_toArray, List.set_cons_zero, List.set_cons_succ, i64_w, i32_w]
              rfl
             refine pure_ (i := 11) (N := some 8) (v := ?_) (a' := ?_) #[T,T,T,T,T,T,T,T,T,T,T,T] rfl rfl (any_of HT_.out (by kernel_rfl)) (fun _ _ _ h => h) (Or.inl ⟨by rfl, ?_⟩) ?_ ?_
             rotate_left
             ·
              intro w'
              go_simp
              with_reducible rfl
             rotate_left
             ·
              simp only [Act.put, List.setIfInBounds_toArray, List.set_cons_zero, List.set_cons_succ, i64_w, i32_w]
              rfl
             refine done_ (done_of HT_.out (by kernel_rfl)) ?_
             have hcz35_0 : w34.cell? ⟨gb294, 0, none⟩ = some (.int .i64 ((rd_T45 y290 x41_1).f0)) := (blk_cell BK294.out 0).trans rfl
             have hcz35_1 : w34.cell? ⟨gb294, 1, none⟩ = some (.int .i64 ((rd_T45 y290 x41_1).f1)) := (blk_cell BK294.out 1).trans rfl
             have hcz35_2 : w34.cell? ⟨gb294, 2, none⟩ = some (.int .i64 ((rd_T45 y290 x41_1).f2)) := (blk_cell BK294.out 2).trans rfl
             have hfz35_0 := blk_frozen BK294.out 0
             have hfz35_1 := blk_frozen BK294.out 1
             have hfz35_2 := blk_frozen BK294.out 2
             try go_wp2
             go_roundg k1
             case measure => have := HK1.out; omega
             case rel => exact ⟨(wrap64 (x41_1 + 1)), (by first | rfl | (simp; done) | (simp [*]; done)), H', ⟨by have := HK1.out; omega⟩, ⟨by (with_reducible repeat (first | apply Kd.R_alloc | apply Kd.R_drewN | apply Kd.R_drew)); exact Kd.R_mono HO_39.out (fun _ hk => trivial)⟩, ⟨by repeat (first | (with_reducible first | exact HB.out | apply below_alloc | apply pw_below_drewN | apply below_drew1 | refine below_set ?_ GE294.out | refine below_set ?_ GE298.out) | exact HB.out)⟩⟩
            ·
             replace c20 := Bool.eq_false_iff.mpr c20
             subst c20
             have H1 : (some false) = some r := by rw [if_neg (show ¬ (false = true) by decide)] at H; exact H
             clear H; have H := H1; clear H1
             exact absurd ((Option.some.inj H).trans hr_.out) (by decide)
           ·
            rw [if_neg c19] at H
            have c19b0 : (t297 == 0) = false := beq_eq_false_iff_ne.mpr c19
            have c19b1 : (t297 != 0) = true := bne_iff_ne.mpr c19
            by_cases c36 : (!(t295 == 0) || (!(t296 == 0))) = true
            ·
             rw [if_pos c36] at H
             have c36b0 : (!(t295 == 0) || (!(t296 == 0))) = true := c36
             clear c36
             exact absurd ((Option.some.inj H).trans hr_.out) (by decide)
            ·
             rw [if_neg c36] at H
             have c36b0 : (!(t295 == 0) || (!(t296 == 0))) = false := by simpa using c36
             clear c36
             by_cases c37 : t301.toList = ([] : List UInt8)
             ·
              rw [if_pos c37] at H
              have c37b0 : (t301.toList == ([] : List UInt8)) = true := beq_iff_eq.mpr c37
              have c37b1 : (t301.toList != ([] : List UInt8)) = false := bne_eq_false_iff_eq.mpr c37
              clear c37
              by_cases c38 : t307 = true
              ·
               subst c38
               have H1 : (some false) = some r := by rw [if_pos rfl] at H; exact H
               clear H; have H := H1; clear H1
               exact absurd ((Option.some.inj H).trans hr_.out) (by decide)
              ·
               replace c38 := Bool.eq_false_iff.mpr c38
               subst c38
               have H1 : (turnoutlaw02_FieldNames.l0 k1 y290 (y290.length : Int) (wrap64 (x41_1 + 1))) = some r := by rw [if_neg (show ¬ (false = true) by decide)] at H; exact H
               clear H; have H := H1; clear H1
               have H' := Aside0.mk H
               clear H
               have p293 : 0 ≤ (x41_1 : Int) := of_decide_eq_true (by first | (with_reducible assumption) | assumption)
               have q293 : x41_1 < (y290.length : Int) := of_decide_eq_true (by first | (with_reducible assumption) | assumption)
               obtain ⟨ad293, e293, hx293_0, hx293_1, hx293_2⟩ := at_T45 (Kd.R_reads' HO_39.out).2.2 x41_1 p293 q293
               cases e293
               replace p293 := eq_true p293
               replace q293 := eq_true q293
               try go_wp2_with (first | ((with_reducible refine gate_dst (N := 2) rfl ?_); refine box_event ?hg (N := 2) ?hd (cs := #[.int .i64 0, .int .i64 0, .int .i64 0]) (t := 45) ?hr ?_; (case hd => rfl); (case hg => rfl); (case hr => first | (go_simp; done) | (go_simp; rfl)); intro gb294 hg w39 hbox hb; replace HO_39 := Aside0.mk (Kd.R_below (Kd.R_elderB (by (with_reducible repeat (first | apply Kd.R_alloc | apply Kd.R_drewN | apply Kd.R_drew)); exact HO_39.out) gb294 (Nat.le_of_eq hg.symm)) hb); have BK294 := Aside0.mk (hbox); have GW294 := Aside0.mk ((by rw [hg]; exact (below_size (by repeat (first | (with_reducible first | exact HB.out | apply below_alloc | apply pw_below_drewN | apply below_drew1) | exact HB.out))) : w.heap.size ≤ gb294)); have GE294 := Aside0.mk ((by rw [hg]; exact (below_size (by repeat (first | (with_reducible first | exact HB.out | apply below_alloc | apply pw_below_drewN | apply below_drew1) | exact HB.out))) : w.heap.size ≤ gb294)); replace HB := Aside0.mk (below_step (by repeat (first | (with_reducible first | exact HB.out | apply below_alloc | apply pw_below_drewN | apply below_drew1) | exact HB.out)) hb); clear hb hbox hg; have hcz40_0 : w39.cell? ⟨gb294, 0, none⟩ = some (.int .i64 0) := (blk_cell BK294.out 0).trans rfl; have hcz40_1 : w39.cell? ⟨gb294, 1, none⟩ = some (.int .i64 0) := (blk_cell BK294.out 1).trans rfl; have hcz40_2 : w39.cell? ⟨gb294, 2, none⟩ = some (.int .i64 0) := (blk_cell BK294.out 2).trans rfl; have hfz40_0 := blk_frozen BK294.out 0; have hfz40_1 := blk_frozen BK294.out 1; have hfz40_2 := blk_frozen BK294.out 2) | ((with_reducible refine gate_callee (f := 13) rfl ?_); refine goesL_ (some 50) rfl rfl Try.func13 (by kernel_rfl) rfl #[.string (⟨#[97, 98]⟩ : ByteArray), .int .i64 ((rd_T45 y290 x41_1).f0), .int .i64 ((rd_T45 y290 x41_1).f1)] rfl (by (try simp only [List.map_toArray, List.map_cons, List.map_nil]); first | done | rfl | (simp only [List.length_drop, List.length_take]; rfl)) ?_; (with_reducible refine (field_Get.calls k1 (⟨#[97, 98]⟩ : ByteArray) ((rd_T45 y290 x41_1).f0) ((rd_T45 y290 x41_1).f1) t295 t296 t297 _ A10.out).mono ?_); rintro e w41 ⟨rfl, hb⟩; refine ⟨_, rfl, ?_⟩; replace HO_39 := Aside0.mk (Kd.R_below (by (with_reducible repeat (first | apply Kd.R_alloc | apply Kd.R_drewN | apply Kd.R_drew)); exact (Kd.R_mono (Kd.R_far (p := ⟨gb294, 2, none⟩) (Kd.R_far (p := ⟨gb294, 1, none⟩) (Kd.R_far (p := ⟨gb294, 0, none⟩) (Kd.R_mono HO_39.out (fun k_ hk => (⟨hk, hk.2⟩ : _ ∧ k_ ≠ gb294))) (fun _ hk => hk.2) (.int .i64 ((rd_T45 y290 x41_1).f0))) (fun _ hk => hk.2) (.int .i64 ((rd_T45 y290 x41_1).f1))) (fun _ hk => hk.2) (.int .i64 ((rd_T45 y290 x41_1).f2))) (fun _ h_ => h_.1))) hb); replace BK294 := Aside0.mk (blk_below (g := gb294) (o := .cells #[.int .i64 ((rd_T45 y290 x41_1).f0), .int .i64 ((rd_T45 y290 x41_1).f1), .int .i64 ((rd_T45 y290 x41_1).f2)] 45 (0, 0)) (by (with_reducible repeat (first | refine blk_drewN ?_ _ | refine blk_drew ?_ | refine blk_alloc ?_ _)); refine blk_put (cs := #[.int .i64 ((rd_T45 y290 x41_1).f0), .int .i64 ((rd_T45 y290 x41_1).f1), .int .i64 0]) ?_ 2 _ rfl; (with_reducible repeat (first | refine blk_drewN ?_ _ | refine blk_drew ?_ | refine blk_alloc ?_ _)); refine blk_put (cs := #[.int .i64 ((rd_T45 y290 x41_1).f0), .int .i64 0, .int .i64 0]) ?_ 1 _ rfl; (with_reducible repeat (first | refine blk_drewN ?_ _ | refine blk_drew ?_ | refine blk_alloc ?_ _)); refine blk_put (cs := #[.int .i64 0, .int .i64 0, .int .i64 0]) ?_ 0 _ rfl; (with_reducible repeat (first | refine blk_drewN ?_ _ | refine blk_drew ?_ | refine blk_alloc ?_ _)); exact BK294.out) hb); replace HB := Aside0.mk (below_step (by repeat (first | (with_reducible first | exact HB.out | apply below_alloc | apply pw_below_drewN | apply below_drew1 | refine below_set ?_ GE294.out) | exact HB.out)) hb); (try clear hb); (try clear hb2); (try clear hk); (try clear hi)) | ((with_reducible refine gate_dst (N := 3) rfl ?_); refine box_event ?hg (N := 3) ?hd (cs := #[.int .u64 0, .int .u64 0]) (t := 25) ?hr ?_; (case hd => rfl); (case hg => rfl); (case hr => first | (go_simp; done) | (go_simp; rfl)); intro gb298 hg w42 hbox hb; replace HO_39 := Aside0.mk (Kd.R_below (by (with_reducible repeat (first | apply Kd.R_alloc | apply Kd.R_drewN | apply Kd.R_drew)); exact HO_39.out) hb); have BK298 := Aside0.mk (hbox); have GW298 := Aside0.mk ((by rw [hg]; exact (below_size (by repeat (first | (with_reducible first | exact HB.out | apply below_alloc | apply pw_below_drewN | apply below_drew1 | refine below_set ?_ GE294.out) | exact HB.out))) : w.heap.size ≤ gb298)); have GE298 := Aside0.mk ((by rw [hg]; exact (below_size (by repeat (first | (with_reducible first | exact HB.out | apply below_alloc | apply pw_below_drewN | apply below_drew1 | refine below_set ?_ GE294.out) | exact HB.out))) : w.heap.size ≤ gb298)); replace HB := Aside0.mk (below_step (by repeat (first | (with_reducible first | exact HB.out | apply below_alloc | apply pw_below_drewN | apply below_drew1 | refine below_set ?_ GE294.out) | exact HB.out)) hb); have NB294_298 := Aside0.mk ((by rw [hg]; exact Nat.ne_of_lt (blk_lt (bkA BK294.out)) : gb294 ≠ gb298)); have NB298_294 := Aside0.mk ((by rw [hg]; exact Nat.ne_of_gt (blk_lt (bkA BK294.out)) : gb298 ≠ gb294)); replace BK294 := Aside0.mk (blk_below (bkA BK294.out) hb); clear hb hbox hg; have hnb43 := NB298_294.out; have hnc43 := NB294_298.out; have hcz44_0 : w42.cell? ⟨gb298, 0, none⟩ = some (.int .u64 0) := (blk_cell BK298.out 0).trans rfl; have hcz44_1 : w42.cell? ⟨gb298, 1, none⟩ = some (.int .u64 0) := (blk_cell BK298.out 1).trans rfl; have hfz44_0 := blk_frozen BK298.out 0; have hfz44_1 := blk_frozen BK298.out 1))
               have n0_ : Aside0 (Kd.R k45 45 ((w42.setCell ⟨gb298, 0, none⟩ (.int .u64 t295)).setCell ⟨gb298, 1, none⟩ (.int .u64 t296)) w.heap.size (fun k_ => k_ ≠ gb294) (.slice (some ad293) y290.length co6) y290) := ⟨by (with_reducible repeat (first | apply Kd.R_alloc | apply Kd.R_drewN | apply Kd.R_drew)); exact Kd.R_mono (Kd.R_far (p := ⟨gb298, 1, none⟩) (Kd.R_far (p := ⟨gb298, 0, none⟩) (Kd.R_types HO_39.out BK298.out (by decide)) (fun _ hk => hk.2) (.int .u64 t295)) (fun _ hk => hk.2) (.int .u64 t296)) (fun _ hk => hk.1.2)⟩
               have n1_ : Aside0 (((w42.setCell ⟨gb298, 0, none⟩ (.int .u64 t295)).setCell ⟨gb298, 1, none⟩ (.int .u64 t296)).heap[gb294]? = some (.cells #[.int .i64 ((rd_T45 y290 x41_1).f0), .int .i64 ((rd_T45 y290 x41_1).f1), .int .i64 ((rd_T45 y290 x41_1).f2)] 45 (0, 0))) := ⟨by (with_reducible repeat (first | refine blk_drewN ?_ _ | refine blk_drew ?_ | refine blk_alloc ?_ _)); refine blk_far ?_ NB294_298.out _; (with_reducible repeat (first | refine blk_drewN ?_ _ | refine blk_drew ?_ | refine blk_alloc ?_ _)); refine blk_far ?_ NB294_298.out _; (with_reducible repeat (first | refine blk_drewN ?_ _ | refine blk_drew ?_ | refine blk_alloc ?_ _)); exact BK294.out⟩
               have n2_ : Aside0 (((w42.setCell ⟨gb298, 0, none⟩ (.int .u64 t295)).setCell ⟨gb298, 1, none⟩ (.int .u64 t296)).heap[gb298]? = some (.cells #[.int .u64 t295, .int .u64 t296] 25 (0, 0))) := ⟨by (with_reducible repeat (first | refine blk_drewN ?_ _ | refine blk_drew ?_ | refine blk_alloc ?_ _)); refine blk_put (cs := #[.int .u64 t295, .int .u64 0]) ?_ 1 _ rfl; (with_reducible repeat (first | refine blk_drewN ?_ _ | refine blk_drew ?_ | refine blk_alloc ?_ _)); refine blk_put (cs := #[.int .u64 0, .int .u64 0]) ?_ 0 _ rfl; (with_reducible repeat (first | refine blk_drewN ?_ _ | refine blk_drew ?_ | refine blk_alloc ?_ _)); exact BK298.out⟩
               have n3_ : Aside0 (Below w.heap.size w ((w42.setCell ⟨gb298, 0, none⟩ (.int .u64 t295)).setCell ⟨gb298, 1, none⟩ (.int .u64 t296))) := ⟨by repeat (first | (with_reducible first | exact HB.out | apply below_alloc | apply pw_below_drewN | apply below_drew1 | refine below_set ?_ GE294.out | refine below_set ?_ GE298.out) | exact HB.out)⟩
               (try clear HO_39); (try clear BK294); (try clear BK298); (try clear HB); generalize ((w42.setCell ⟨gb298, 0, none⟩ (.int .u64 t295)).setCell ⟨gb298, 1, none⟩ (.int .u64 t296)) = w45 at n0_ n1_ n2_ n3_ ⊢; have HO_39 := n0_; have BK294 := n1_; have BK298 := n2_; have HB := n3_; clear n0_ n1_ n2_ n3_; replace HO_39 := Aside0.mk (Kd.R_drew HO_39.out); replace BK294 := Aside0.mk (blk_drew BK294.out); replace BK298 := Aside0.mk (blk_drew BK298.out); replace HB := Aside0.mk (below_drew1 HB.out)
               refine start_ (n := 11) (S := fun w' => w'.cell? ⟨gb294, 0, none⟩ = some (.int .i64 ((rd_T45 y290 x41_1).f0)) ∧ w'.cell? ⟨gb294, 1, none⟩ = some (.int .i64 ((rd_T45 y290 x41_1).f1)) ∧ w'.cell? ⟨gb294, 2, none⟩ = some (.int .i64 ((rd_T45 y290 x41_1).f2))) (ds := []) #[F,F,F,F,F,F,F,F,F,F,F] (by kernel_rfl) rfl rfl ⟨(blk_cell BK294.out 0).trans rfl, (blk_cell BK294.out 1).trans rfl, (blk_cell BK294.out 2).trans rfl⟩ (fun hHeld => ?_); refine with_tabW turnoutlaw02_FieldNames.tab7 turnoutlaw02_FieldNames.bits7 (fun HT_ HW_ => ?_)
               generalize w45.drew = w46 at HO_39 BK294 BK298 HB hHeld ⊢
               refine pure_ (i := 0) (N := some 54) (v := ?_) (a' := ?_) #[T,F,F,F,F,F,F,F,F,F,F] rfl rfl (any_of HT_.out (by kernel_rfl)) (fun _ _ _ h => h) (Or.inl ⟨by rfl, ?_⟩) ?_ ?_
               rotate_left
               ·
                intro w'
                go_simp
                with_reducible rfl
               rotate_left
               ·
                simp only [Act.put, List.setIfInBounds_toArray, List.set_cons_zero, List.set_cons_succ, i64_w, i32_w]
                rfl
               refine pure_ (i := 2) (N := some 56) (v := ?_) (a' := ?_) #[T,F,T,F,F,F,F,F,F,F,F] rfl rfl (any_of HT_.out (by kernel_rfl)) (fun _ _ _ h => h) (Or.inl ⟨by rfl, ?_⟩) ?_ ?_
               rotate_left
               ·
                intro w'
                go_simp
                with_reducible rfl
               rotate_left
               ·
                simp only [Act.put, List.setIfInBounds_toArray, List.set_cons_zero, List.set_cons_succ, i64_w, i32_w]
                rfl
               refine take_ (i := 1) (N := some 55) (v := ?_) (a' := ?_) #[T,T,T,F,F,F,F,F,F,F,F] rfl rfl (take_ofW HT_.out HW_.out (by kernel_rfl)) (fun _ _ _ h => h) (Or.inl ⟨by rfl, ?_⟩) hHeld ?_ ?_
               rotate_left
               ·
                rintro w' ⟨s0, s1, s2⟩
                go_simp
                with_reducible rfl
               rotate_left
               ·
                simp only [Act.put, List.setIfInBounds_toArray, List.set_cons_zero, List.set_cons_succ, i64_w, i32_w]
                rfl
               refine take_ (i := 3) (N := some 57) (v := ?_) (a' := ?_) #[T,T,T,T,F,F,F,F,F,F,F] rfl rfl (take_ofW HT_.out HW_.out (by kernel_rfl)) (fun _ _ _ h => h) (Or.inl ⟨by rfl, ?_⟩) hHeld ?_ ?_
               rotate_left
               ·
                rintro w' ⟨s0, s1, s2⟩
                go_simp
                with_reducible rfl
               rotate_left
               ·
                simp only [Act.put, List.setIfInBounds_toArray, List.set_cons_zero, List.set_cons_succ, i64_w, i32_w]
                rfl
               refine one_ (i := 4) (N := some 58) #[T,T,T,T,T,F,F,F,F,F,F] rfl rfl (one_of HT_.out (by kernel_rfl)) (by decide) (fun K hK => ?_)
               refine goes_ Try.func28 (by kernel_rfl) rfl #[.int .u64 1] (by rfl) rfl rfl (by (try simp only [List.map_toArray, List.map_cons, List.map_nil]); first | done | rfl | (simp only [List.length_drop, List.length_take]; rfl)) ?_
               with_reducible refine (turnoutlaw02_low.calls 1 t299 t300 _ A11.out).mono ?_
               rintro e w47 ⟨rfl, hb⟩
               refine ⟨_, rfl, ?_⟩
               have n0_ := Aside0.mk (Kd.R_below (by (with_reducible repeat (first | apply Kd.R_alloc | apply Kd.R_drewN | apply Kd.R_drew)); exact HO_39.out) hb)
               have n1_ := Aside0.mk (blk_below (bkA BK294.out) hb); have n2_ := Aside0.mk (blk_below (bkA BK298.out) hb)
               have n3_ := Aside0.mk (below_step (by repeat (first | (with_reducible first | exact HB.out | apply below_alloc | apply pw_below_drewN | apply below_drew1 | refine below_set ?_ GE294.out | refine below_set ?_ GE298.out) | exact HB.out)) hb)
               clear HO_39; clear BK294; clear BK298; clear HB; have HO_39 := n0_; have BK294 := n1_; have BK298 := n2_; have HB := n3_; clear n0_ n1_ n2_ n3_; (try clear hb); (try clear hb2); (try clear hk); (try clear hi)
               refine hK.out _ _ ⟨(blk_cell BK294.out 0).trans rfl, (blk_cell BK294.out 1).trans rfl, (blk_cell BK294.out 2).trans rfl⟩ (fun hHeld => ?_)
               clear hK K
               refine norm_ (a' := ?_) ?_ ?_
               rotate_left
               ·
                show Act.put _ (some 58) _ = _
                simp only [Act.put, List.setIfInBounds_toArray, List.set_cons_zero, List.set_cons_succ, i64_w, i32_w]
                rfl
               refine one_ (i := 5) (N := some 59) #[T,T,T,T,T,T,F,F,F,F,F] rfl rfl (one_of HT_.out (by kernel_rfl)) (by decide) (fun K hK => ?_)
               refine goes_ Try.func15 (by kernel_rfl) rfl #[.string (⟨#[97, 98]⟩ : ByteArray), .int .i64 ((rd_T45 y290 x41_1).f0), .int .i64 ((rd_T45 y290 x41_1).f1), .agg #[.int .u64 t299, .int .u64 t300]] (by rfl) rfl rfl (by (try simp only [List.map_toArray, List.map_cons, List.map_nil]); first | done | rfl | (simp only [List.length_drop, List.length_take]; rfl)) ?_
               with_reducible refine (field_Put.calls k1 (⟨#[97, 98]⟩ : ByteArray) ((rd_T45 y290 x41_1).f0) ((rd_T45 y290 x41_1).f1) t299 t300 t301 t302 _ A12.out).mono ?_
               rintro e w48 ⟨rfl, hb⟩
               refine ⟨_, rfl, ?_⟩
               have n0_ := Aside0.mk (Kd.R_below (by (with_reducible repeat (first | apply Kd.R_alloc | apply Kd.R_drewN | apply Kd.R_drew)); exact HO_39.out) hb)
               have n1_ := Aside0.mk (blk_below (bkA BK294.out) hb); have n2_ := Aside0.mk (blk_below (bkA BK298.out) hb)
               have n3_ := Aside0.mk (below_step (by repeat (first | (with_reducible first | exact HB.out | apply below_alloc | apply pw_below_drewN | apply below_drew1 | refine below_set ?_ GE294.out | refine below_set ?_ GE298.out) | exact HB.out)) hb)
               clear HO_39; clear BK294; clear BK298; clear HB; have HO_39 := n0_; have BK294 := n1_; have BK298 := n2_; have HB := n3_; clear n0_ n1_ n2_ n3_; (try clear hb); (try clear hb2); (try clear hk); (try clear hi)
               refine hK.out _ _ ⟨(blk_cell BK294.out 0).trans rfl, (blk_cell BK294.out 1).trans rfl, (blk_cell BK294.out 2).trans rfl⟩ (fun hHeld => ?_)
               clear hK K
               refine norm_ (a' := ?_) ?_ ?_
               rotate_left
               ·
                show Act.put _ (some 59) _ = _
                simp only [Act.put, List.setIfInBounds_toArray, List.set_cons_zero, List.set_cons_succ, i64_w, i32_w]
                rfl
               refine pure_ (i := 6) (N := some 53) (v := ?_) (a' := ?_) #[T,T,T,T,T,T,T,F,F,F,F] rfl rfl (any_of HT_.out (by kernel_rfl)) (fun _ _ _ h => h) (Or.inl ⟨by rfl, ?_⟩) ?_ ?_
               rotate_left
               ·
                intro w'
                go_simp
                with_reducible rfl
               rotate_left
               ·
                simp only [Act.put, List.setIfInBounds_toArray, List.set_cons_zero, List.set_cons_succ, i64_w, i32_w]
                rfl
               refine pure_ (i := 7) (N := some 60) (v := ?_) (a' := ?_) #[T,T,T,T,T,T,T,T,F,F,F] rfl rfl (any_of HT_.out (by kernel_rfl)) (fun _ _ _ h => h) (Or.inl ⟨by rfl, ?_⟩) ?_ ?_
               rotate_left
               ·
                intro w'
                go_simp
                with_reducible rfl
               rotate_left
               ·
                simp only [Act.put, List.setIfInBounds_toArray, List.set_cons_zero, List.set_cons_succ, i64_w, i32_w]
                rfl
               refine pure_ (i := 8) (N := some 61) (v := ?_) (a' := ?_) #[T,T,T,T,T,T,T,T,T,F,F] rfl rfl (any_of HT_.out (by kernel_rfl)) (fun _ _ _ h => h) (Or.inl ⟨by rfl, ?_⟩) ?_ ?_
               rotate_left
               ·
                intro w'
                go_simp
                with_reducible rfl
               rotate_left
               ·
                simp only [Act.put, List.setIfInBounds_toArray, List.set_cons_zero, List.set_cons_succ, i64_w, i32_w]
                rfl
               refine pure_ (i := 9) (N := some 5) (v := ?_) (a' := ?_) #[T,T,T,T,T,T,T,T,T,T,F] rfl rfl (any_of HT_.out (by kernel_rfl)) (fun _ _ _ h => h) (Or.inl ⟨by rfl, ?_⟩) ?_ ?_
               rotate_left
               ·
                intro w'
                go_simp
                with_reducible rfl
               rotate_left
               ·
                simp only [Act.put, List.setIfInBounds_toArray, List.set_cons_zero, List.set_cons_succ, i64_w, i32_w]
                rfl
               refine pure_ (i := 10) (N := some 6) (v := ?_) (a' := ?_) #[T,T,T,T,T,T,T,T,T,T,T] rfl rfl (any_of HT_.out (by kernel_rfl)) (fun _ _ _ h => h) (Or.inl ⟨by rfl, ?_⟩) ?_ ?_
               rotate_left
               ·
                intro w'
                go_simp
                with_reducible rfl
               rotate_left
               ·
                simp only [Act.put, List.setIfInBounds_toArray, List.set_cons_zero, List.set_cons_succ, i64_w, i32_w]
                rfl
               refine done_ (done_of HT_.out (by kernel_rfl)) ?_
               try go_wp2
               replace HO_39 := Aside0.mk (Kd.R_drew HO_39.out); replace BK294 := Aside0.mk (blk_drew BK294.out); replace BK298 := Aside0.mk (blk_drew BK298.out); replace HB := Aside0.mk (below_drew1 HB.out)
               refine start_ (n := 12) (S := fun w' => w'.cell? ⟨gb294, 0, none⟩ = some (.int .i64 ((rd_T45 y290 x41_1).f0)) ∧ w'.cell? ⟨gb294, 1, none⟩ = some (.int .i64 ((rd_T45 y290 x41_1).f1)) ∧ w'.cell? ⟨gb294, 2, none⟩ = some (.int .i64 ((rd_T45 y290 x41_1).f2))) (ds := []) #[F,F,F,F,F,F,F,F,F,F,F,F] (by kernel_rfl) rfl rfl ⟨(blk_cell BK294.out 0).trans rfl, (blk_cell BK294.out 1).trans rfl, (blk_cell BK294.out 2).trans rfl⟩ (fun hHeld => ?_); refine with_tabW turnoutlaw02_FieldNames.tab8 turnoutlaw02_FieldNames.bits8 (fun HT_ HW_ => ?_)
               generalize w48.drew = w49 at HO_39 BK294 BK298 HB hHeld ⊢
               refine pure_ (i := 0) (N := some 63) (v := ?_) (a' := ?_) #[T,F,F,F,F,F,F,F,F,F,F,F] rfl rfl (any_of HT_.out (by kernel_rfl)) (fun _ _ _ h => h) (Or.inl ⟨by rfl, ?_⟩) ?_ ?_
               rotate_left
               ·
                intro w'
                go_simp
                with_reducible rfl
               rotate_left
               ·
                simp only [Act.put, List.setIfInBounds_toArray, List.set_cons_zero, List.set_cons_succ, i64_w, i32_w]
                rfl
               refine pure_ (i := 2) (N := some 65) (v := ?_) (a' := ?_) #[T,F,T,F,F,F,F,F,F,F,F,F] rfl rfl (any_of HT_.out (by kernel_rfl)) (fun _ _ _ h => h) (Or.inl ⟨by rfl, ?_⟩) ?_ ?_
               rotate_left
               ·
                intro w'
                go_simp
                with_reducible rfl
               rotate_left
               ·
                simp only [Act.put, List.setIfInBounds_toArray, List.set_cons_zero, List.set_cons_succ, i64_w, i32_w]
                rfl
               refine take_ (i := 1) (N := some 64) (v := ?_) (a' := ?_) #[T,T,T,F,F,F,F,F,F,F,F,F] rfl rfl (take_ofW HT_.out HW_.out (by kernel_rfl)) (fun _ _ _ h => h) (Or.inl ⟨by rfl, ?_⟩) hHeld ?_ ?_
               rotate_left
               ·
                rintro w' ⟨s0, s1, s2⟩
                go_simp
                with_reducible rfl
               rotate_left
               ·
                simp only [Act.put, List.setIfInBounds_toArray, List.set_cons_zero, List.set_cons_succ, i64_w, i32_w]
                rfl
               refine take_ (i := 3) (N := some 66) (v := ?_) (a' := ?_) #[T,T,T,T,F,F,F,F,F,F,F,F] rfl rfl (take_ofW HT_.out HW_.out (by kernel_rfl)) (fun _ _ _ h => h) (Or.inl ⟨by rfl, ?_⟩) hHeld ?_ ?_
               rotate_left
               ·
                rintro w' ⟨s0, s1, s2⟩
                go_simp
                with_reducible rfl
               rotate_left
               ·
                simp only [Act.put, List.setIfInBounds_toArray, List.set_cons_zero, List.set_cons_succ, i64_w, i32_w]
                rfl
               refine one_ (i := 4) (N := some 67) #[T,T,T,T,T,F,F,F,F,F,F,F] rfl rfl (one_of HT_.out (by kernel_rfl)) (by decide) (fun K hK => ?_)
               refine goes_ Try.func28 (by kernel_rfl) rfl #[.int .u64 0] (by rfl) rfl rfl (by (try simp only [List.map_toArray, List.map_cons, List.map_nil]); first | done | rfl | (simp only [List.length_drop, List.length_take]; rfl)) ?_
               with_reducible refine (turnoutlaw02_low.calls 0 t303 t304 _ A13.out).mono ?_
               rintro e w50 ⟨rfl, hb⟩
               refine ⟨_, rfl, ?_⟩
               have n0_ := Aside0.mk (Kd.R_below (by (with_reducible repeat (first | apply Kd.R_alloc | apply Kd.R_drewN | apply Kd.R_drew)); exact HO_39.out) hb)
               have n1_ := Aside0.mk (blk_below (bkA BK294.out) hb); have n2_ := Aside0.mk (blk_below (bkA BK298.out) hb)
               have n3_ := Aside0.mk (below_step (by repeat (first | (with_reducible first | exact HB.out | apply below_alloc | apply pw_below_drewN | apply below_drew1 | refine below_set ?_ GE294.out | refine below_set ?_ GE298.out) | exact HB.out)) hb)
               clear HO_39; clear BK294; clear BK298; clear HB; have HO_39 := n0_; have BK294 := n1_; have BK298 := n2_; have HB := n3_; clear n0_ n1_ n2_ n3_; (try clear hb); (try clear hb2); (try clear hk); (try clear hi)
               refine hK.out _ _ ⟨(blk_cell BK294.out 0).trans rfl, (blk_cell BK294.out 1).trans rfl, (blk_cell BK294.out 2).trans rfl⟩ (fun hHeld => ?_)
               clear hK K
               refine norm_ (a' := ?_) ?_ ?_
               rotate_left
               ·
                show Act.put _ (some 67) _ = _
                simp only [Act.put, List.setIfInBounds_toArray, List.set_cons_zero, List.set_cons_succ, i64_w, i32_w]
                rfl
               refine one_ (i := 5) (N := some 68) #[T,T,T,T,T,T,F,F,F,F,F,F] rfl rfl (one_of HT_.out (by kernel_rfl)) (by decide) (fun K hK => ?_)
               refine goes_ Try.func28 (by kernel_rfl) rfl #[.int .u64 0] (by rfl) rfl rfl (by (try simp only [List.map_toArray, List.map_cons, List.map_nil]); first | done | rfl | (simp only [List.length_drop, List.length_take]; rfl)) ?_
               with_reducible refine (turnoutlaw02_low.calls 0 t303 t304 _ A13.out).mono ?_
               rintro e w51 ⟨rfl, hb⟩
               refine ⟨_, rfl, ?_⟩
               have n0_ := Aside0.mk (Kd.R_below (by (with_reducible repeat (first | apply Kd.R_alloc | apply Kd.R_drewN | apply Kd.R_drew)); exact HO_39.out) hb)
               have n1_ := Aside0.mk (blk_below (bkA BK294.out) hb); have n2_ := Aside0.mk (blk_below (bkA BK298.out) hb)
               have n3_ := Aside0.mk (below_step (by repeat (first | (with_reducible first | exact HB.out | apply below_alloc | apply pw_below_drewN | apply below_drew1 | refine below_set ?_ GE294.out | refine below_set ?_ GE298.out) | exact HB.out)) hb)
               clear HO_39; clear BK294; clear BK298; clear HB; have HO_39 := n0_; have BK294 := n1_; have BK298 := n2_; have HB := n3_; clear n0_ n1_ n2_ n3_; (try clear hb); (try clear hb2); (try clear hk); (try clear hi)
               refine hK.out _ _ ⟨(blk_cell BK294.out 0).trans rfl, (blk_cell BK294.out 1).trans rfl, (blk_cell BK294.out 2).trans rfl⟩ (fun hHeld => ?_)
               clear hK K
               refine norm_ (a' := ?_) ?_ ?_
               rotate_left
               ·
                show Act.put _ (some 68) _ = _
                simp only [Act.put, List.setIfInBounds_toArray, List.set_cons_zero, List.set_cons_succ, i64_w, i32_w]
                rfl
               refine one_ (i := 6) (N := some 69) #[T,T,T,T,T,T,T,F,F,F,F,F] rfl rfl (one_of HT_.out (by kernel_rfl)) (by decide) (fun K hK => ?_)
               refine goes_ Try.func23 (by kernel_rfl) rfl #[.string (⟨#[97, 98]⟩ : ByteArray), .int .i64 ((rd_T45 y290 x41_1).f0), .int .i64 ((rd_T45 y290 x41_1).f1), .agg #[.int .u64 t303, .int .u64 t304], .agg #[.int .u64 t303, .int .u64 t304]] (by rfl) rfl rfl (by (try simp only [List.map_toArray, List.map_cons, List.map_nil]); first | done | rfl | (simp only [List.length_drop, List.length_take]; rfl)) ?_
               with_reducible refine (field_Match.calls k1 (⟨#[97, 98]⟩ : ByteArray) ((rd_T45 y290 x41_1).f0) ((rd_T45 y290 x41_1).f1) t303 t304 t303 t304 false t308 _ A15.out).mono ?_
               rintro e w52 ⟨rfl, hb⟩
               refine ⟨_, rfl, ?_⟩
               have n0_ := Aside0.mk (Kd.R_below (by (with_reducible repeat (first | apply Kd.R_alloc | apply Kd.R_drewN | apply Kd.R_drew)); exact HO_39.out) hb)
               have n1_ := Aside0.mk (blk_below (bkA BK294.out) hb); have n2_ := Aside0.mk (blk_below (bkA BK298.out) hb)
               have n3_ := Aside0.mk (below_step (by repeat (first | (with_reducible first | exact HB.out | apply below_alloc | apply pw_below_drewN | apply below_drew1 | refine below_set ?_ GE294.out | refine below_set ?_ GE298.out) | exact HB.out)) hb)
               clear HO_39; clear BK294; clear BK298; clear HB; have HO_39 := n0_; have BK294 := n1_; have BK298 := n2_; have HB := n3_; clear n0_ n1_ n2_ n3_; (try clear hb); (try clear hb2); (try clear hk); (try clear hi)
               refine hK.out _ _ ⟨(blk_cell BK294.out 0).trans rfl, (blk_cell BK294.out 1).trans rfl, (blk_cell BK294.out 2).trans rfl⟩ (fun hHeld => ?_)
               clear hK K
               refine norm_ (a' := ?_) ?_ ?_
               rotate_left
               ·
                show Act.put _ (some 69) _ = _
                simp only [Act.put, List.setIfInBounds_toArray, List.set_cons_zero, List.set_cons_succ, i64_w, i32_w]
                rfl
               refine pure_ (i := 7) (N := some 62) (v := ?_) (a' := ?_) #[T,T,T,T,T,T,T,T,F,F,F,F] rfl rfl (any_of HT_.out (by kernel_rfl)) (fun _ _ _ h => h) (Or.inl ⟨by rfl, ?_⟩) ?_ ?_
               rotate_left
               ·
                intro w'
                go_simp
                with_reducible rfl
               rotate_left
               ·
                simp only [Act.put, List.setIfInBounds_toArray, List.set_cons_zero, List.set_cons_succ, i64_w, i32_w]
                rfl
               refine pure_ (i := 8) (N := some 70) (v := ?_) (a' := ?_) #[T,T,T,T,T,T,T,T,T,F,F,F] rfl rfl (any_of HT_.out (by kernel_rfl)) (fun _ _ _ h => h) (Or.inl ⟨by rfl, ?_⟩) ?_ ?_
               rotate_left
               ·
                intro w'
                go_simp
                with_reducible rfl
               rotate_left
               ·
                simp only [Act.put, List.setIfInBounds_toArray, List.set_cons_zero, List.set_cons_succ, i64_w, i32_w]
                rfl
               refine pure_ (i := 9) (N := some 71) (v := ?_) (a' := ?_) #[T,T,T,T,T,T,T,T,T,T,F,F] rfl rfl (any_of HT_.out (by kernel_rfl)) (fun _ _ _ h => h) (Or.inl ⟨by rfl, ?_⟩) ?_ ?_
               rotate_left
               ·
                intro w'
                go_simp
                with_reducible rfl
               rotate_left
               ·
                simp only [Act.put, List.setIfInBounds_toArray, List.set_cons_zero, List.set_cons_succ, i64_w, i32_w]
                rfl
               refine pure_ (i := 10) (N := some 7) (v := ?_) (a' := ?_) #[T,T,T,T,T,T,T,T,T,T,T,F] rfl rfl (any_of HT_.out (by kernel_rfl)) (fun _ _ _ h => h) (Or.inl ⟨by rfl, ?_⟩) ?_ ?_
               rotate_left
               ·
                intro w'
                go_simp
                with_reducible rfl
               rotate_left
               ·
                simp only [Act.put, List.setIfInBounds_toArray, List.set_cons_zero, List.set_cons_succ, i64_w, i32_w]
                rfl
               refine pure_ (i := 11) (N := some 8) (v := ?_) (a' := ?_) #[T,T,T,T,T,T,T,T,T,T,T,T] rfl rfl (any_of HT_.out (by kernel_rfl)) (fun _ _ _ h => h) (Or.inl ⟨by rfl, ?_⟩) ?_ ?_
               rotate_left
               ·
                intro w'
                go_simp
                with_reducible rfl
               rotate_left
               ·
                simp only [Act.put, List.setIfInBounds_toArray, List.set_cons_zero, List.set_cons_succ, i64_w, i32_w]
                rfl
               refine done_ (done_of HT_.out (by kernel_rfl)) ?_
               have hcz53_0 : w52.cell? ⟨gb294, 0, none⟩ = some (.int .i64 ((rd_T45 y290 x41_1).f0)) := (blk_cell BK294.out 0).trans rfl
               have hcz53_1 : w52.cell? ⟨gb294, 1, none⟩ = some (.int .i64 ((rd_T45 y290 x41_1).f1)) := (blk_cell BK294.out 1).trans rfl
               have hcz53_2 : w52.cell? ⟨gb294, 2, none⟩ = some (.int .i64 ((rd_T45 y290 x41_1).f2)) := (blk_cell BK294.out 2).trans rfl
               have hfz53_0 := blk_frozen BK294.out 0
               have hfz53_1 := blk_frozen BK294.out 1
               have hfz53_2 := blk_frozen BK294.out 2
               have hcz54_0 : w52.cell? ⟨gb298, 0, none⟩ = some (.int .u64 t295) := (blk_cell BK298.out 0).trans rfl
               have hcz54_1 : w52.cell? ⟨gb298, 1, none⟩ = some (.int .u64 t296) := (blk_cell BK298.out 1).trans rfl
               have hfz54_0 := blk_frozen BK298.out 0
               have hfz54_1 := blk_frozen BK298.out 1
               try go_wp2
               go_roundg k1
               case measure => have := HK1.out; omega
               case rel => exact ⟨(wrap64 (x41_1 + 1)), (by first | rfl | (simp; done) | (simp [*]; done)), H', ⟨by have := HK1.out; omega⟩, ⟨by (with_reducible repeat (first | apply Kd.R_alloc | apply Kd.R_drewN | apply Kd.R_drew)); exact Kd.R_mono HO_39.out (fun _ hk => trivial)⟩, ⟨by repeat (first | (with_reducible first | exact HB.out | apply below_alloc | apply pw_below_drewN | apply below_drew1 | refine below_set ?_ GE294.out | refine below_set ?_ GE298.out) | exact HB.out)⟩⟩
             ·
              rw [if_neg c37] at H
              have c37b0 : (t301.toList == ([] : List UInt8)) = false := beq_eq_false_iff_ne.mpr c37
              have c37b1 : (t301.toList != ([] : List UInt8)) = true := bne_iff_ne.mpr c37
              exact absurd ((Option.some.inj H).trans hr_.out) (by decide)
          ·
           rw [if_neg c18] at H
           have c18b0 : (t308 == ((rd_T45 y290 x41_1).f2)) = false := beq_eq_false_iff_ne.mpr c18
           have c18b1 : (t308 != ((rd_T45 y290 x41_1).f2)) = true := bne_iff_ne.mpr c18
           exact absurd ((Option.some.inj H).trans hr_.out) (by decide)
         ·
          rw [if_neg c17] at H
          have c17b0 : (t302 == ((rd_T45 y290 x41_1).f2)) = false := beq_eq_false_iff_ne.mpr c17
          have c17b1 : (t302 != ((rd_T45 y290 x41_1).f2)) = true := bne_iff_ne.mpr c17
          exact absurd ((Option.some.inj H).trans hr_.out) (by decide)
        ·
         rw [if_neg c16] at H
         have c16b0 : (t297 == ((rd_T45 y290 x41_1).f2)) = false := beq_eq_false_iff_ne.mpr c16
         have c16b1 : (t297 != ((rd_T45 y290 x41_1).f2)) = true := bne_iff_ne.mpr c16
         exact absurd ((Option.some.inj H).trans hr_.out) (by decide)
       ·
        rw [if_neg c9] at H
        exact absurd H (by simp)
      ·
       rw [if_neg c8] at H
       exact absurd H (by simp)
     ·
      rw [if_neg c7] at H
      have c7b0 : decide (x41_1 < (y290.length : Int)) = false := decide_eq_false c7
      clear c7
      replace H := Option.bind_eq_some_iff.mp H
      obtain ⟨⟨t309, t310, t311⟩, A550, H⟩ := H
      replace H : ((field_Text.f t309 t310 128).bind fun bt313 => ((field_Text.f t309 t310 129).bind fun bt315 => ((field_Text.f t309 t310 0).bind fun bt317 => ((field_Put.f k1 (⟨#[128, 0, 0, 0, 0, 0, 0, 1, 255, 0, 0, 0, 0, 0, 0, 2]⟩ : ByteArray) 0 128 1 2).bind fun bt319 => (if t311 = 0 then (if (t309 == 9223372036854775809 && (t310 == 18374686479671623682)) = true then (if bt313.2 = 0 then (if bt313.1.toList = ([128, 0, 0, 0, 0, 0, 0, 1, 255, 0, 0, 0, 0, 0, 0, 2] : List UInt8) then (if bt315.2 = 1 then (if bt317.2 = 1 then (if bt319.2 = 0 then (if bt319.1.toList = ([0, 0, 0, 0, 0, 0, 0, 1, 0, 0, 0, 0, 0, 0, 0, 2] : List UInt8) then ((field_Bytes.f 0).bind fun t321 => (if t321 = 0 then ((field_Bytes.f 1).bind fun t322 => (if t322 = 1 then ((field_Bytes.f 8).bind fun t323 => (if t323 = 1 then ((field_Bytes.f 9).bind fun t324 => (if t324 = 2 then ((field_Bytes.f 128).bind fun t325 => (if t325 = 16 then ((field_Bytes.f 129).bind fun t326 => (if t326 = 0 then ((field_Bytes.f (-8)).bind fun t327 => (if t327 = 0 then ((field_Prefix.f k1 (⟨#[]⟩ : ByteArray) (⟨#[97]⟩ : ByteArray)).bind fun t328 => (if t328 = 0 then ((field_Prefix.f k1 (⟨#[97, 98]⟩ : ByteArray) (⟨#[97, 98, 99]⟩ : ByteArray)).bind fun t329 => (some (t329 == 16))) else (some false))) else (some false))) else (some false))) else (some false))) else (some false))) else (some false))) else (some false))) else (some false))) else (some false)) else (some false)) else (some false)) else (some false)) else (some false)) else (some false)) else (some false)) else (some false)))))) = some r := H
      have A55 := Aside0.mk A550
      clear A550
      replace H := Option.bind_eq_some_iff.mp H
      obtain ⟨⟨t313, t314⟩, A560, H⟩ := H
      replace H : ((field_Text.f t309 t310 129).bind fun bt315 => ((field_Text.f t309 t310 0).bind fun bt317 => ((field_Put.f k1 (⟨#[128, 0, 0, 0, 0, 0, 0, 1, 255, 0, 0, 0, 0, 0, 0, 2]⟩ : ByteArray) 0 128 1 2).bind fun bt319 => (if t311 = 0 then (if (t309 == 9223372036854775809 && (t310 == 18374686479671623682)) = true then (if t314 = 0 then (if t313.toList = ([128, 0, 0, 0, 0, 0, 0, 1, 255, 0, 0, 0, 0, 0, 0, 2] : List UInt8) then (if bt315.2 = 1 then (if bt317.2 = 1 then (if bt319.2 = 0 then (if bt319.1.toList = ([0, 0, 0, 0, 0, 0, 0, 1, 0, 0, 0, 0, 0, 0, 0, 2] : List UInt8) then ((field_Bytes.f 0).bind fun t321 => (if t321 = 0 then ((field_Bytes.f 1).bind fun t322 => (if t322 = 1 then ((field_Bytes.f 8).bind fun t323 => (if t323 = 1 then ((field_Bytes.f 9).bind fun t324 => (if t324 = 2 then ((field_Bytes.f 128).bind fun t325 => (if t325 = 16 then ((field_Bytes.f 129).bind fun t326 => (if t326 = 0 then ((field_Bytes.f (-8)).bind fun t327 => (if t327 = 0 then ((field_Prefix.f k1 (⟨#[]⟩ : ByteArray) (⟨#[97]⟩ : ByteArray)).bind fun t328 => (if t328 = 0 then ((field_Prefix.f k1 (⟨#[97, 98]⟩ : ByteArray) (⟨#[97, 98, 99]⟩ : ByteArray)).bind fun t329 => (some (t329 == 16))) else (some false))) else (some false))) else (some false))) else (some false))) else (some false))) else (some false))) else (some false))) else (some false))) else (some false)) else (some false)) else (some false)) else (some false)) else (some false)) else (some false)) else (some false)) else (some false))))) = some r := H
      have A56 := Aside0.mk A560
      clear A560
      replace H := Option.bind_eq_some_iff.mp H
      obtain ⟨⟨t315, t316⟩, A570, H⟩ := H
      replace H : ((field_Text.f t309 t310 0).bind fun bt317 => ((field_Put.f k1 (⟨#[128, 0, 0, 0, 0, 0, 0, 1, 255, 0, 0, 0, 0, 0, 0, 2]⟩ : ByteArray) 0 128 1 2).bind fun bt319 => (if t311 = 0 then (if (t309 == 9223372036854775809 && (t310 == 18374686479671623682)) = true then (if t314 = 0 then (if t313.toList = ([128, 0, 0, 0, 0, 0, 0, 1, 255, 0, 0, 0, 0, 0, 0, 2] : List UInt8) then (if t316 = 1 then (if bt317.2 = 1 then (if bt319.2 = 0 then (if bt319.1.toList = ([0, 0, 0, 0, 0, 0, 0, 1, 0, 0, 0, 0, 0, 0, 0, 2] : List UInt8) then ((field_Bytes.f 0).bind fun t321 => (if t321 = 0 then ((field_Bytes.f 1).bind fun t322 => (if t322 = 1 then ((field_Bytes.f 8).bind fun t323 => (if t323 = 1 then ((field_Bytes.f 9).bind fun t324 => (if t324 = 2 then ((field_Bytes.f 128).bind fun t325 => (if t325 = 16 then ((field_Bytes.f 129).bind fun t326 => (if t326 = 0 then ((field_Bytes.f (-8)).bind fun t327 => (if t327 = 0 then ((field_Prefix.f k1 (⟨#[]⟩ : ByteArray) (⟨#[97]⟩ : ByteArray)).bind fun t328 => (if t328 = 0 then ((field_Prefix.f k1 (⟨#[97, 98]⟩ : ByteArray) (⟨#[97, 98, 99]⟩ : ByteArray)).bind fun t329 => (some (t329 == 16))) else (some false))) else (some false))) else (some false))) else (some false))) else (some false))) else (some false))) else (some false))) else (some false))) else (some false)) else (some false)) else (some false)) else (some false)) else (some false)) else (some false)) else (some false)) else (some false)))) = some r := H
      have A57 := Aside0.mk A570
      clear A570
      replace H := Option.bind_eq_some_iff.mp H
      obtain ⟨⟨t317, t318⟩, A580, H⟩ := H
      replace H : ((field_Put.f k1 (⟨#[128, 0, 0, 0, 0, 0, 0, 1, 255, 0, 0, 0, 0, 0, 0, 2]⟩ : ByteArray) 0 128 1 2).bind fun bt319 => (if t311 = 0 then (if (t309 == 9223372036854775809 && (t310 == 18374686479671623682)) = true then (if t314 = 0 then (if t313.toList = ([128, 0, 0, 0, 0, 0, 0, 1, 255, 0, 0, 0, 0, 0, 0, 2] : List UInt8) then (if t316 = 1 then (if t318 = 1 then (if bt319.2 = 0 then (if bt319.1.toList = ([0, 0, 0, 0, 0, 0, 0, 1, 0, 0, 0, 0, 0, 0, 0, 2] : List UInt8) then ((field_Bytes.f 0).bind fun t321 => (if t321 = 0 then ((field_Bytes.f 1).bind fun t322 => (if t322 = 1 then ((field_Bytes.f 8).bind fun t323 => (if t323 = 1 then ((field_Bytes.f 9).bind fun t324 => (if t324 = 2 then ((field_Bytes.f 128).bind fun t325 => (if t325 = 16 then ((field_Bytes.f 129).bind fun t326 => (if t326 = 0 then ((field_Bytes.f (-8)).bind fun t327 => (if t327 = 0 then ((field_Prefix.f k1 (⟨#[]⟩ : ByteArray) (⟨#[97]⟩ : ByteArray)).bind fun t328 => (if t328 = 0 then ((field_Prefix.f k1 (⟨#[97, 98]⟩ : ByteArray) (⟨#[97, 98, 99]⟩ : ByteArray)).bind fun t329 => (some (t329 == 16))) else (some false))) else (some false))) else (some false))) else (some false))) else (some false))) else (some false))) else (some false))) else (some false))) else (some false)) else (some false)) else (some false)) else (some false)) else (some false)) else (some false)) else (some false)) else (some false))) = some r := H
      have A58 := Aside0.mk A580
      clear A580
      replace H := Option.bind_eq_some_iff.mp H
      obtain ⟨⟨t319, t320⟩, A590, H⟩ := H
      replace H : (if t311 = 0 then (if (t309 == 9223372036854775809 && (t310 == 18374686479671623682)) = true then (if t314 = 0 then (if t313.toList = ([128, 0, 0, 0, 0, 0, 0, 1, 255, 0, 0, 0, 0, 0, 0, 2] : List UInt8) then (if t316 = 1 then (if t318 = 1 then (if t320 = 0 then (if t319.toList = ([0, 0, 0, 0, 0, 0, 0, 1, 0, 0, 0, 0, 0, 0, 0, 2] : List UInt8) then ((field_Bytes.f 0).bind fun t321 => (if t321 = 0 then ((field_Bytes.f 1).bind fun t322 => (if t322 = 1 then ((field_Bytes.f 8).bind fun t323 => (if t323 = 1 then ((field_Bytes.f 9).bind fun t324 => (if t324 = 2 then ((field_Bytes.f 128).bind fun t325 => (if t325 = 16 then ((field_Bytes.f 129).bind fun t326 => (if t326 = 0 then ((field_Bytes.f (-8)).bind fun t327 => (if t327 = 0 then ((field_Prefix.f k1 (⟨#[]⟩ : ByteArray) (⟨#[97]⟩ : ByteArray)).bind fun t328 => (if t328 = 0 then ((field_Prefix.f k1 (⟨#[97, 98]⟩ : ByteArray) (⟨#[97, 98, 99]⟩ : ByteArray)).bind fun t329 => (some (t329 == 16))) else (some false))) else (some false))) else (some false))) else (some false))) else (some false))) else (some false))) else (some false))) else (some false))) else (some false)) else (some false)) else (some false)) else (some false)) else (some false)) else (some false)) else (some false)) else (some false)) = some r := H
      have A59 := Aside0.mk A590
      clear A590
      by_cases c60 : t311 = 0
      ·
       rw [if_pos c60] at H
       have c60b0 : (t311 == 0) = true := beq_iff_eq.mpr c60
       have c60b1 : (t311 != 0) = false := bne_eq_false_iff_eq.mpr c60
       clear c60
       by_cases c61 : (t309 == 9223372036854775809 && (t310 == 18374686479671623682)) = true
       ·
        rw [if_pos c61] at H
        have c61b0 : (t309 == 9223372036854775809 && (t310 == 18374686479671623682)) = true := c61
        (try (have c61b1 : decide (t309 = 9223372036854775809 && (t310 == 18374686479671623682)) = true := by simpa using c61))
        (try (have c61b2 : (t309 == 9223372036854775809 && (t310 == 18374686479671623682)) = true := by simpa using c61))
        clear c61
        by_cases c62 : t314 = 0
        ·
         rw [if_pos c62] at H
         have c62b0 : (t314 == 0) = true := beq_iff_eq.mpr c62
         have c62b1 : (t314 != 0) = false := bne_eq_false_iff_eq.mpr c62
         clear c62
         by_cases c63 : t313.toList = ([128, 0, 0, 0, 0, 0, 0, 1, 255, 0, 0, 0, 0, 0, 0, 2] : List UInt8)
         ·
          rw [if_pos c63] at H
          have c63b0 : (t313.toList == ([128, 0, 0, 0, 0, 0, 0, 1, 255, 0, 0, 0, 0, 0, 0, 2] : List UInt8)) = true := beq_iff_eq.mpr c63
          have c63b1 : (t313.toList != ([128, 0, 0, 0, 0, 0, 0, 1, 255, 0, 0, 0, 0, 0, 0, 2] : List UInt8)) = false := bne_eq_false_iff_eq.mpr c63
          clear c63
          by_cases c64 : t316 = 1
          ·
           rw [if_pos c64] at H
           have c64b0 : (t316 == 1) = true := beq_iff_eq.mpr c64
           have c64b1 : (t316 != 1) = false := bne_eq_false_iff_eq.mpr c64
           clear c64
           by_cases c65 : t318 = 1
           ·
            rw [if_pos c65] at H
            have c65b0 : (t318 == 1) = true := beq_iff_eq.mpr c65
            have c65b1 : (t318 != 1) = false := bne_eq_false_iff_eq.mpr c65
            clear c65
            by_cases c66 : t320 = 0
            ·
             rw [if_pos c66] at H
             have c66b0 : (t320 == 0) = true := beq_iff_eq.mpr c66
             have c66b1 : (t320 != 0) = false := bne_eq_false_iff_eq.mpr c66
             clear c66
             by_cases c67 : t319.toList = ([0, 0, 0, 0, 0, 0, 0, 1, 0, 0, 0, 0, 0, 0, 0, 2] : List UInt8)
             ·
              rw [if_pos c67] at H
              have c67b0 : (t319.toList == ([0, 0, 0, 0, 0, 0, 0, 1, 0, 0, 0, 0, 0, 0, 0, 2] : List UInt8)) = true := beq_iff_eq.mpr c67
              have c67b1 : (t319.toList != ([0, 0, 0, 0, 0, 0, 0, 1, 0, 0, 0, 0, 0, 0, 0, 2] : List UInt8)) = false := bne_eq_false_iff_eq.mpr c67
              clear c67
              replace H := Option.bind_eq_some_iff.mp H
              obtain ⟨t321, A680, H⟩ := H
              replace H : (if t321 = 0 then ((field_Bytes.f 1).bind fun t322 => (if t322 = 1 then ((field_Bytes.f 8).bind fun t323 => (if t323 = 1 then ((field_Bytes.f 9).bind fun t324 => (if t324 = 2 then ((field_Bytes.f 128).bind fun t325 => (if t325 = 16 then ((field_Bytes.f 129).bind fun t326 => (if t326 = 0 then ((field_Bytes.f (-8)).bind fun t327 => (if t327 = 0 then ((field_Prefix.f k1 (⟨#[]⟩ : ByteArray) (⟨#[97]⟩ : ByteArray)).bind fun t328 => (if t328 = 0 then ((field_Prefix.f k1 (⟨#[97, 98]⟩ : ByteArray) (⟨#[97, 98, 99]⟩ : ByteArray)).bind fun t329 => (some (t329 == 16))) else (some false))) else (some false))) else (some false))) else (some false))) else (some false))) else (some false))) else (some false))) else (some false)) = some r := H
              have A68 := Aside0.mk A680
              clear A680
              by_cases c69 : t321 = 0
              ·
               rw [if_pos c69] at H
               have c69b0 : (t321 == 0) = true := beq_iff_eq.mpr c69
               have c69b1 : (t321 != 0) = false := bne_eq_false_iff_eq.mpr c69
               clear c69
               replace H := Option.bind_eq_some_iff.mp H
               obtain ⟨t322, A700, H⟩ := H
               replace H : (if t322 = 1 then ((field_Bytes.f 8).bind fun t323 => (if t323 = 1 then ((field_Bytes.f 9).bind fun t324 => (if t324 = 2 then ((field_Bytes.f 128).bind fun t325 => (if t325 = 16 then ((field_Bytes.f 129).bind fun t326 => (if t326 = 0 then ((field_Bytes.f (-8)).bind fun t327 => (if t327 = 0 then ((field_Prefix.f k1 (⟨#[]⟩ : ByteArray) (⟨#[97]⟩ : ByteArray)).bind fun t328 => (if t328 = 0 then ((field_Prefix.f k1 (⟨#[97, 98]⟩ : ByteArray) (⟨#[97, 98, 99]⟩ : ByteArray)).bind fun t329 => (some (t329 == 16))) else (some false))) else (some false))) else (some false))) else (some false))) else (some false))) else (some false))) else (some false)) = some r := H
               have A70 := Aside0.mk A700
               clear A700
               by_cases c71 : t322 = 1
               ·
                rw [if_pos c71] at H
                have c71b0 : (t322 == 1) = true := beq_iff_eq.mpr c71
                have c71b1 : (t322 != 1) = false := bne_eq_false_iff_eq.mpr c71
                clear c71
                replace H := Option.bind_eq_some_iff.mp H
                obtain ⟨t323, A720, H⟩ := H
                replace H : (if t323 = 1 then ((field_Bytes.f 9).bind fun t324 => (if t324 = 2 then ((field_Bytes.f 128).bind fun t325 => (if t325 = 16 then ((field_Bytes.f 129).bind fun t326 => (if t326 = 0 then ((field_Bytes.f (-8)).bind fun t327 => (if t327 = 0 then ((field_Prefix.f k1 (⟨#[]⟩ : ByteArray) (⟨#[97]⟩ : ByteArray)).bind fun t328 => (if t328 = 0 then ((field_Prefix.f k1 (⟨#[97, 98]⟩ : ByteArray) (⟨#[97, 98, 99]⟩ : ByteArray)).bind fun t329 => (some (t329 == 16))) else (some false))) else (some false))) else (some false))) else (some false))) else (some false))) else (some false)) = some r := H
                have A72 := Aside0.mk A720
                clear A720
                by_cases c73 : t323 = 1
                ·
                 rw [if_pos c73] at H
                 have c73b0 : (t323 == 1) = true := beq_iff_eq.mpr c73
                 have c73b1 : (t323 != 1) = false := bne_eq_false_iff_eq.mpr c73
                 clear c73
                 replace H := Option.bind_eq_some_iff.mp H
                 obtain ⟨t324, A740, H⟩ := H
                 replace H : (if t324 = 2 then ((field_Bytes.f 128).bind fun t325 => (if t325 = 16 then ((field_Bytes.f 129).bind fun t326 => (if t326 = 0 then ((field_Bytes.f (-8)).bind fun t327 => (if t327 = 0 then ((field_Prefix.f k1 (⟨#[]⟩ : ByteArray) (⟨#[97]⟩ : ByteArray)).bind fun t328 => (if t328 = 0 then ((field_Prefix.f k1 (⟨#[97, 98]⟩ : ByteArray) (⟨#[97, 98, 99]⟩ : ByteArray)).bind fun t329 => (some (t329 == 16))) else (some false))) else (some false))) else (some false))) else (some false))) else (some false)) = some r := H
                 have A74 := Aside0.mk A740
                 clear A740
                 by_cases c75 : t324 = 2
                 ·
                  rw [if_pos c75] at H
                  have c75b0 : (t324 == 2) = true := beq_iff_eq.mpr c75
                  have c75b1 : (t324 != 2) = false := bne_eq_false_iff_eq.mpr c75
                  clear c75
                  replace H := Option.bind_eq_some_iff.mp H
                  obtain ⟨t325, A760, H⟩ := H
                  replace H : (if t325 = 16 then ((field_Bytes.f 129).bind fun t326 => (if t326 = 0 then ((field_Bytes.f (-8)).bind fun t327 => (if t327 = 0 then ((field_Prefix.f k1 (⟨#[]⟩ : ByteArray) (⟨#[97]⟩ : ByteArray)).bind fun t328 => (if t328 = 0 then ((field_Prefix.f k1 (⟨#[97, 98]⟩ : ByteArray) (⟨#[97, 98, 99]⟩ : ByteArray)).bind fun t329 => (some (t329 == 16))) else (some false))) else (some false))) else (some false))) else (some false)) = some r := H
                  have A76 := Aside0.mk A760
                  clear A760
                  by_cases c77 : t325 = 16
                  ·
                   rw [if_pos c77] at H
                   have c77b0 : (t325 == 16) = true := beq_iff_eq.mpr c77
                   have c77b1 : (t325 != 16) = false := bne_eq_false_iff_eq.mpr c77
                   clear c77
                   replace H := Option.bind_eq_some_iff.mp H
                   obtain ⟨t326, A780, H⟩ := H
                   replace H : (if t326 = 0 then ((field_Bytes.f (-8)).bind fun t327 => (if t327 = 0 then ((field_Prefix.f k1 (⟨#[]⟩ : ByteArray) (⟨#[97]⟩ : ByteArray)).bind fun t328 => (if t328 = 0 then ((field_Prefix.f k1 (⟨#[97, 98]⟩ : ByteArray) (⟨#[97, 98, 99]⟩ : ByteArray)).bind fun t329 => (some (t329 == 16))) else (some false))) else (some false))) else (some false)) = some r := H
                   have A78 := Aside0.mk A780
                   clear A780
                   by_cases c79 : t326 = 0
                   ·
                    rw [if_pos c79] at H
                    have c79b0 : (t326 == 0) = true := beq_iff_eq.mpr c79
                    have c79b1 : (t326 != 0) = false := bne_eq_false_iff_eq.mpr c79
                    clear c79
                    replace H := Option.bind_eq_some_iff.mp H
                    obtain ⟨t327, A800, H⟩ := H
                    replace H : (if t327 = 0 then ((field_Prefix.f k1 (⟨#[]⟩ : ByteArray) (⟨#[97]⟩ : ByteArray)).bind fun t328 => (if t328 = 0 then ((field_Prefix.f k1 (⟨#[97, 98]⟩ : ByteArray) (⟨#[97, 98, 99]⟩ : ByteArray)).bind fun t329 => (some (t329 == 16))) else (some false))) else (some false)) = some r := H
                    have A80 := Aside0.mk A800
                    clear A800
                    by_cases c81 : t327 = 0
                    ·
                     rw [if_pos c81] at H
                     have c81b0 : (t327 == 0) = true := beq_iff_eq.mpr c81
                     have c81b1 : (t327 != 0) = false := bne_eq_false_iff_eq.mpr c81
                     clear c81
                     replace H := Option.bind_eq_some_iff.mp H
                     obtain ⟨t328, A820, H⟩ := H
                     replace H : (if t328 = 0 then ((field_Prefix.f k1 (⟨#[97, 98]⟩ : ByteArray) (⟨#[97, 98, 99]⟩ : ByteArray)).bind fun t329 => (some (t329 == 16))) else (some false)) = some r := H
                     have A82 := Aside0.mk A820
                     clear A820
                     by_cases c83 : t328 = 0
                     ·
                      rw [if_pos c83] at H
                      have c83b0 : (t328 == 0) = true := beq_iff_eq.mpr c83
                      have c83b1 : (t328 != 0) = false := bne_eq_false_iff_eq.mpr c83
                      clear c83
                      replace H := Option.bind_eq_some_iff.mp H
                      obtain ⟨t329, A840, H⟩ := H
                      replace H : (some (t329 == 16)) = some r := H
                      have A84 := Aside0.mk A840
                      clear A840
                      obtain rfl := Option.some.inj H
                      go_wp2_with (first | ((with_reducible refine gate_callee (f := 13) rfl ?_); refine goesL_ (some 115) rfl rfl Try.func13 (by kernel_rfl) rfl #[.string (⟨#[128, 0, 0, 0, 0, 0, 0, 1, 255, 0, 0, 0, 0, 0, 0, 2]⟩ : ByteArray), .int .i64 0, .int .i64 128] rfl (by (try simp only [List.map_toArray, List.map_cons, List.map_nil]); first | done | rfl | (simp only [List.length_drop, List.length_take]; rfl)) ?_; (with_reducible refine (field_Get.calls k1 (⟨#[128, 0, 0, 0, 0, 0, 0, 1, 255, 0, 0, 0, 0, 0, 0, 2]⟩ : ByteArray) 0 128 t309 t310 t311 _ A55.out).mono ?_); rintro e w85 ⟨rfl, hb⟩; refine ⟨_, rfl, ?_⟩; replace HO_39 := Aside0.mk (Kd.R_below (by (with_reducible repeat (first | apply Kd.R_alloc | apply Kd.R_drewN | apply Kd.R_drew)); exact HO_39.out) hb); replace HB := Aside0.mk (below_step (by repeat (first | (with_reducible first | exact HB.out | apply below_alloc | apply pw_below_drewN | apply below_drew1) | exact HB.out)) hb); (try clear hb); (try clear hb2); (try clear hk); (try clear hi)) | ((with_reducible refine gate_dst (N := 10) rfl ?_); refine box_event ?hg (N := 10) ?hd (cs := #[.int .u64 0, .int .u64 0]) (t := 25) ?hr ?_; (case hd => rfl); (case hg => rfl); (case hr => first | (go_simp; done) | (go_simp; rfl)); intro gb312 hg w86 hbox hb; replace HO_39 := Aside0.mk (Kd.R_below (by (with_reducible repeat (first | apply Kd.R_alloc | apply Kd.R_drewN | apply Kd.R_drew)); exact HO_39.out) hb); have BK312 := Aside0.mk (hbox); have GW312 := Aside0.mk ((by rw [hg]; exact (below_size (by repeat (first | (with_reducible first | exact HB.out | apply below_alloc | apply pw_below_drewN | apply below_drew1) | exact HB.out))) : w.heap.size ≤ gb312)); have GE312 := Aside0.mk ((by rw [hg]; exact (below_size (by repeat (first | (with_reducible first | exact HB.out | apply below_alloc | apply pw_below_drewN | apply below_drew1) | exact HB.out))) : w.heap.size ≤ gb312)); replace HB := Aside0.mk (below_step (by repeat (first | (with_reducible first | exact HB.out | apply below_alloc | apply pw_below_drewN | apply below_drew1) | exact HB.out)) hb); clear hb hbox hg; have hcz87_0 : w86.cell? ⟨gb312, 0, none⟩ = some (.int .u64 0) := (blk_cell BK312.out 0).trans rfl; have hcz87_1 : w86.cell? ⟨gb312, 1, none⟩ = some (.int .u64 0) := (blk_cell BK312.out 1).trans rfl; have hfz87_0 := blk_frozen BK312.out 0; have hfz87_1 := blk_frozen BK312.out 1) | ((with_reducible refine gate_callee (f := 21) rfl ?_); refine goesL_ (some 120) rfl rfl Try.func21 (by kernel_rfl) rfl #[.agg #[.int .u64 t309, .int .u64 t310], .int .i64 128] rfl (by (try simp only [List.map_toArray, List.map_cons, List.map_nil]); first | done | rfl | (simp only [List.length_drop, List.length_take]; rfl)) ?_; (with_reducible refine (field_Text.calls t309 t310 128 t313 t314 _ A56.out).mono ?_); rintro e w88 ⟨rfl, hb⟩; refine ⟨_, rfl, ?_⟩; replace HO_39 := Aside0.mk (Kd.R_below (by (with_reducible repeat (first | apply Kd.R_alloc | apply Kd.R_drewN | apply Kd.R_drew)); exact (Kd.R_mono (Kd.R_far (p := ⟨gb312, 1, none⟩) (Kd.R_far (p := ⟨gb312, 0, none⟩) (Kd.R_types HO_39.out BK312.out (by decide)) (fun _ hk => hk.2) (.int .u64 t309)) (fun _ hk => hk.2) (.int .u64 t310)) (fun _ h_ => h_.1))) hb); replace BK312 := Aside0.mk (blk_below (g := gb312) (o := .cells #[.int .u64 t309, .int .u64 t310] 25 (0, 0)) (by (with_reducible repeat (first | refine blk_drewN ?_ _ | refine blk_drew ?_ | refine blk_alloc ?_ _)); refine blk_put (cs := #[.int .u64 t309, .int .u64 0]) ?_ 1 _ rfl; (with_reducible repeat (first | refine blk_drewN ?_ _ | refine blk_drew ?_ | refine blk_alloc ?_ _)); refine blk_put (cs := #[.int .u64 0, .int .u64 0]) ?_ 0 _ rfl; (with_reducible repeat (first | refine blk_drewN ?_ _ | refine blk_drew ?_ | refine blk_alloc ?_ _)); exact BK312.out) hb); replace HB := Aside0.mk (below_step (by repeat (first | (with_reducible first | exact HB.out | apply below_alloc | apply pw_below_drewN | apply below_drew1 | refine below_set ?_ GE312.out) | exact HB.out)) hb); (try clear hb); (try clear hb2); (try clear hk); (try clear hi); have hcz89_0 : w88.cell? ⟨gb312, 0, none⟩ = some (.int .u64 t309) := (blk_cell BK312.out 0).trans rfl; have hcz89_1 : w88.cell? ⟨gb312, 1, none⟩ = some (.int .u64 t310) := (blk_cell BK312.out 1).trans rfl; have hfz89_0 := blk_frozen BK312.out 0; have hfz89_1 := blk_frozen BK312.out 1) | ((with_reducible refine gate_callee (f := 21) rfl ?_); refine goesL_ (some 125) rfl rfl Try.func21 (by kernel_rfl) rfl #[.agg #[.int .u64 t309, .int .u64 t310], .int .i64 129] rfl (by (try simp only [List.map_toArray, List.map_cons, List.map_nil]); first | done | rfl | (simp only [List.length_drop, List.length_take]; rfl)) ?_; (with_reducible refine (field_Text.calls t309 t310 129 t315 t316 _ A57.out).mono ?_); rintro e w90 ⟨rfl, hb⟩; refine ⟨_, rfl, ?_⟩; replace HO_39 := Aside0.mk (Kd.R_below (by (with_reducible repeat (first | apply Kd.R_alloc | apply Kd.R_drewN | apply Kd.R_drew)); exact HO_39.out) hb); replace BK312 := Aside0.mk (blk_below (bkA BK312.out) hb); replace HB := Aside0.mk (below_step (by repeat (first | (with_reducible first | exact HB.out | apply below_alloc | apply pw_below_drewN | apply below_drew1 | refine below_set ?_ GE312.out) | exact HB.out)) hb); (try clear hb); (try clear hb2); (try clear hk); (try clear hi); have hcz91_0 : w90.cell? ⟨gb312, 0, none⟩ = some (.int .u64 t309) := (blk_cell BK312.out 0).trans rfl; have hcz91_1 : w90.cell? ⟨gb312, 1, none⟩ = some (.int .u64 t310) := (blk_cell BK312.out 1).trans rfl; have hfz91_0 := blk_frozen BK312.out 0; have hfz91_1 := blk_frozen BK312.out 1) | ((with_reducible refine gate_callee (f := 21) rfl ?_); refine goesL_ (some 130) rfl rfl Try.func21 (by kernel_rfl) rfl #[.agg #[.int .u64 t309, .int .u64 t310], .int .i64 0] rfl (by (try simp only [List.map_toArray, List.map_cons, List.map_nil]); first | done | rfl | (simp only [List.length_drop, List.length_take]; rfl)) ?_; (with_reducible refine (field_Text.calls t309 t310 0 t317 t318 _ A58.out).mono ?_); rintro e w92 ⟨rfl, hb⟩; refine ⟨_, rfl, ?_⟩; replace HO_39 := Aside0.mk (Kd.R_below (by (with_reducible repeat (first | apply Kd.R_alloc | apply Kd.R_drewN | apply Kd.R_drew)); exact HO_39.out) hb); replace BK312 := Aside0.mk (blk_below (bkA BK312.out) hb); replace HB := Aside0.mk (below_step (by repeat (first | (with_reducible first | exact HB.out | apply below_alloc | apply pw_below_drewN | apply below_drew1 | refine below_set ?_ GE312.out) | exact HB.out)) hb); (try clear hb); (try clear hb2); (try clear hk); (try clear hi)) | ((with_reducible refine gate_callee (f := 15) rfl ?_); refine goesL_ (some 136) rfl rfl Try.func15 (by kernel_rfl) rfl #[.string (⟨#[128, 0, 0, 0, 0, 0, 0, 1, 255, 0, 0, 0, 0, 0, 0, 2]⟩ : ByteArray), .int .i64 0, .int .i64 128, .agg #[.int .u64 1, .int .u64 2]] rfl (by (try simp only [List.map_toArray, List.map_cons, List.map_nil]); first | done | rfl | (simp only [List.length_drop, List.length_take]; rfl)) ?_; (with_reducible refine (field_Put.calls k1 (⟨#[128, 0, 0, 0, 0, 0, 0, 1, 255, 0, 0, 0, 0, 0, 0, 2]⟩ : ByteArray) 0 128 1 2 t319 t320 _ A59.out).mono ?_); rintro e w93 ⟨rfl, hb⟩; refine ⟨_, rfl, ?_⟩; replace HO_39 := Aside0.mk (Kd.R_below (by (with_reducible repeat (first | apply Kd.R_alloc | apply Kd.R_drewN | apply Kd.R_drew)); exact HO_39.out) hb); replace BK312 := Aside0.mk (blk_below (bkA BK312.out) hb); replace HB := Aside0.mk (below_step (by repeat (first | (with_reducible first | exact HB.out | apply below_alloc | apply pw_below_drewN | apply below_drew1 | refine below_set ?_ GE312.out) | exact HB.out)) hb); (try clear hb); (try clear hb2); (try clear hk); (try clear hi); have hcz94_0 : w93.cell? ⟨gb312, 0, none⟩ = some (.int .u64 t309) := (blk_cell BK312.out 0).trans rfl; have hcz94_1 : w93.cell? ⟨gb312, 1, none⟩ = some (.int .u64 t310) := (blk_cell BK312.out 1).trans rfl; have hfz94_0 := blk_frozen BK312.out 0; have hfz94_1 := blk_frozen BK312.out 1) | (go_at_call 25; (with_reducible refine (field_Bytes.calls 0 t321 _ A68.out).mono ?_); rintro e w' ⟨rfl, ⟨nd, rfl⟩⟩) | (go_at_call 25; (with_reducible refine (field_Bytes.calls 1 t322 _ A70.out).mono ?_); rintro e w' ⟨rfl, ⟨nd, rfl⟩⟩) | (go_at_call 25; (with_reducible refine (field_Bytes.calls 8 t323 _ A72.out).mono ?_); rintro e w' ⟨rfl, ⟨nd, rfl⟩⟩) | (go_at_call 25; (with_reducible refine (field_Bytes.calls 9 t324 _ A74.out).mono ?_); rintro e w' ⟨rfl, ⟨nd, rfl⟩⟩) | (go_at_call 25; (with_reducible refine (field_Bytes.calls 128 t325 _ A76.out).mono ?_); rintro e w' ⟨rfl, ⟨nd, rfl⟩⟩) | (go_at_call 25; (with_reducible refine (field_Bytes.calls 129 t326 _ A78.out).mono ?_); rintro e w' ⟨rfl, ⟨nd, rfl⟩⟩) | (go_at_call 25; (with_reducible refine (field_Bytes.calls (-8) t327 _ A80.out).mono ?_); rintro e w' ⟨rfl, ⟨nd, rfl⟩⟩) | (go_at_call 20; (with_reducible refine (field_Prefix.calls k1 (⟨#[]⟩ : ByteArray) (⟨#[97]⟩ : ByteArray) t328 _ A82.out).mono ?_); rintro e w' ⟨rfl, ⟨nd, rfl⟩⟩) | (go_at_call 20; (with_reducible refine (field_Prefix.calls k1 (⟨#[97, 98]⟩ : ByteArray) (⟨#[97, 98, 99]⟩ : ByteArray) t329 _ A84.out).mono ?_); rintro e w' ⟨rfl, ⟨nd, rfl⟩⟩))
                      go_ret
                      exact ⟨by first | rfl | (simp [errW_none, errW_some] <;> rfl) | (simp [*, errW_none, errW_some] <;> rfl), by repeat (first | (with_reducible first | exact HB.out | apply below_alloc | apply pw_below_drewN | apply below_drew1 | refine below_set ?_ GE312.out) | exact HB.out)⟩
                     ·
                      rw [if_neg c83] at H
                      have c83b0 : (t328 == 0) = false := beq_eq_false_iff_ne.mpr c83
                      have c83b1 : (t328 != 0) = true := bne_iff_ne.mpr c83
                      exact absurd ((Option.some.inj H).trans hr_.out) (by decide)
                    ·
                     rw [if_neg c81] at H
                     have c81b0 : (t327 == 0) = false := beq_eq_false_iff_ne.mpr c81
                     have c81b1 : (t327 != 0) = true := bne_iff_ne.mpr c81
                     exact absurd ((Option.some.inj H).trans hr_.out) (by decide)
                   ·
                    rw [if_neg c79] at H
                    have c79b0 : (t326 == 0) = false := beq_eq_false_iff_ne.mpr c79
                    have c79b1 : (t326 != 0) = true := bne_iff_ne.mpr c79
                    exact absurd ((Option.some.inj H).trans hr_.out) (by decide)
                  ·
                   rw [if_neg c77] at H
                   have c77b0 : (t325 == 16) = false := beq_eq_false_iff_ne.mpr c77
                   have c77b1 : (t325 != 16) = true := bne_iff_ne.mpr c77
                   exact absurd ((Option.some.inj H).trans hr_.out) (by decide)
                 ·
                  rw [if_neg c75] at H
                  have c75b0 : (t324 == 2) = false := beq_eq_false_iff_ne.mpr c75
                  have c75b1 : (t324 != 2) = true := bne_iff_ne.mpr c75
                  exact absurd ((Option.some.inj H).trans hr_.out) (by decide)
                ·
                 rw [if_neg c73] at H
                 have c73b0 : (t323 == 1) = false := beq_eq_false_iff_ne.mpr c73
                 have c73b1 : (t323 != 1) = true := bne_iff_ne.mpr c73
                 exact absurd ((Option.some.inj H).trans hr_.out) (by decide)
               ·
                rw [if_neg c71] at H
                have c71b0 : (t322 == 1) = false := beq_eq_false_iff_ne.mpr c71
                have c71b1 : (t322 != 1) = true := bne_iff_ne.mpr c71
                exact absurd ((Option.some.inj H).trans hr_.out) (by decide)
              ·
               rw [if_neg c69] at H
               have c69b0 : (t321 == 0) = false := beq_eq_false_iff_ne.mpr c69
               have c69b1 : (t321 != 0) = true := bne_iff_ne.mpr c69
               exact absurd ((Option.some.inj H).trans hr_.out) (by decide)
             ·
              rw [if_neg c67] at H
              have c67b0 : (t319.toList == ([0, 0, 0, 0, 0, 0, 0, 1, 0, 0, 0, 0, 0, 0, 0, 2] : List UInt8)) = false := beq_eq_false_iff_ne.mpr c67
              have c67b1 : (t319.toList != ([0, 0, 0, 0, 0, 0, 0, 1, 0, 0, 0, 0, 0, 0, 0, 2] : List UInt8)) = true := bne_iff_ne.mpr c67
              exact absurd ((Option.some.inj H).trans hr_.out) (by decide)
            ·
             rw [if_neg c66] at H
             have c66b0 : (t320 == 0) = false := beq_eq_false_iff_ne.mpr c66
             have c66b1 : (t320 != 0) = true := bne_iff_ne.mpr c66
             exact absurd ((Option.some.inj H).trans hr_.out) (by decide)
           ·
            rw [if_neg c65] at H
            have c65b0 : (t318 == 1) = false := beq_eq_false_iff_ne.mpr c65
            have c65b1 : (t318 != 1) = true := bne_iff_ne.mpr c65
            exact absurd ((Option.some.inj H).trans hr_.out) (by decide)
          ·
           rw [if_neg c64] at H
           have c64b0 : (t316 == 1) = false := beq_eq_false_iff_ne.mpr c64
           have c64b1 : (t316 != 1) = true := bne_iff_ne.mpr c64
           exact absurd ((Option.some.inj H).trans hr_.out) (by decide)
         ·
          rw [if_neg c63] at H
          have c63b0 : (t313.toList == ([128, 0, 0, 0, 0, 0, 0, 1, 255, 0, 0, 0, 0, 0, 0, 2] : List UInt8)) = false := beq_eq_false_iff_ne.mpr c63
          have c63b1 : (t313.toList != ([128, 0, 0, 0, 0, 0, 0, 1, 255, 0, 0, 0, 0, 0, 0, 2] : List UInt8)) = true := bne_iff_ne.mpr c63
          exact absurd ((Option.some.inj H).trans hr_.out) (by decide)
        ·
         rw [if_neg c62] at H
         have c62b0 : (t314 == 0) = false := beq_eq_false_iff_ne.mpr c62
         have c62b1 : (t314 != 0) = true := bne_iff_ne.mpr c62
         exact absurd ((Option.some.inj H).trans hr_.out) (by decide)
       ·
        rw [if_neg c61] at H
        have c61b0 : (t309 == 9223372036854775809 && (t310 == 18374686479671623682)) = false := by simpa using c61
        (try (have c61b1 : decide (t309 = 9223372036854775809 && (t310 == 18374686479671623682)) = false := by simpa using c61))
        (try (have c61b2 : (t309 == 9223372036854775809 && (t310 == 18374686479671623682)) = false := by simpa using c61))
        (try (have c61b3 : ¬ (t309 = 9223372036854775809 && (t310 == 18374686479671623682)) := by simpa using c61))
        clear c61
        exact absurd ((Option.some.inj H).trans hr_.out) (by decide)
      ·
       rw [if_neg c60] at H
       have c60b0 : (t311 == 0) = false := beq_eq_false_iff_ne.mpr c60
       have c60b1 : (t311 != 0) = true := bne_iff_ne.mpr c60
       exact absurd ((Option.some.inj H).trans hr_.out) (by decide)
  ·
   replace c2 := Bool.eq_false_iff.mpr c2
   subst c2
   have H1 : (some false) = some r := by rw [if_neg (show ¬ (false = true) by decide)] at H; exact H
   clear H; have H := H1; clear H1
   exact absurd ((Option.some.inj H).trans hr_.out) (by decide)

/-- THE ONE PURE STATEMENT of turnoutlaw02_FieldNames: yours. -/
def turnoutlaw02_FieldNames.Pure : Prop := (∃ k, turnoutlaw02_FieldNames.f k  = some true) ∧ (∀ k r, turnoutlaw02_awake.f k = some r → r = true)
theorem turnoutlaw02_FieldNames.walk (P : turnoutlaw02_FieldNames.Pure)  (w : World)  :
   Calls Try.prog 9 #[] w fun e w' => e = .returned (.bool true) ∧ Below w.heap.size w w' := by
  obtain ⟨k, h⟩ := P.1  
  refine (turnoutlaw02_FieldNames.calls k  true w h ⟨rfl⟩ ⟨P.2⟩).mono ?_
  rintro e w' ⟨rfl, hd⟩
  exact ⟨rfl, hd⟩

end Go.Proofs.Ytgpahhobifdapaa.PField
