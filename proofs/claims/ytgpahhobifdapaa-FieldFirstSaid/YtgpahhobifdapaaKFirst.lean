/- The walk of the law FieldFirst, by hand over the contracts of what it calls. -/
import Derived.Test.YtgpahhobifdapaaPFieldx4
import Derived.Test.YtgpahhobifdapaaPFieldx5
import Derived.Test.YtgpahhobifdapaaMTell
import Derived.WalkLawsBesides
import Derived.WalkSpells
namespace Go.Proofs.Ytgpahhobifdapaa.PField
open Go.RowKit Go.Proofs.YtgpahhobifdapaaW.PrintWords Go.Proofs.YtgpahhobifdapaaW.PrintLast Go.Proofs.YtgpahhobifdapaaW.PrintMore
set_option linter.unusedVariables false
set_option linter.unusedSimpArgs false
theorem min2_at (a b n : Nat) (h : n = min a b) (ats : Array TypeId) (ty : TypeId) : Builtin.min_ ats ty #[.int .i64 (a : Int), .int .i64 (b : Int)] = pure (.int .i64 (n : Int)) := by
  have e1 : (if (b : Int) < (a : Int) then (b : Int) else (a : Int)) = (n : Int) := by split <;> omega
  simp only [min_two, min2_int, gt_iff_lt, pure_bind, e1, bind_pure]
attribute [local go_sem high] eqA25
set_option maxHeartbeats 4000000 in
set_option maxRecDepth 100000 in
theorem first_bigs (s t : ByteArray) (N : Int) (w : World) (k : Nat) (hz : s.size ≤ 140737488351232) (hy : t.size ≤ 140737488351232) (hs : 2000 < s.size)
    (HAW : Aside0 (turnoutlaw02_awake.f k = some true)) :
    Calls Try.prog 7 #[.string s, .string t, .int .i64 N] w fun e w' => e = .returned (.bool true) ∧ Below w.heap.size w w' := by
  have hd1 : decide ((s.size : Int) > 2000) = true := decide_eq_true (by omega)
  go_enter Try.func7, Try.ntmps7
  go_wp2_with fail
  go_at_call 12
  (with_reducible refine (turnoutlaw02_awake.calls k true _ HAW.out ⟨rfl⟩).mono ?_)
  rintro e w1 ⟨rfl, hb⟩
  have HBw1 := Aside0.mk hb
  clear hb
  go_wp2_with fail
  go_ret
  exact ⟨rfl, below_step (Below.refl _ _) HBw1.out⟩
set_option maxHeartbeats 4000000 in
set_option maxRecDepth 100000 in
theorem first_bigt (s t : ByteArray) (N : Int) (w : World) (k : Nat) (hz : s.size ≤ 140737488351232) (hy : t.size ≤ 140737488351232) (hs : s.size ≤ 2000) (ht : 2000 < t.size)
    (HAW : Aside0 (turnoutlaw02_awake.f k = some true)) :
    Calls Try.prog 7 #[.string s, .string t, .int .i64 N] w fun e w' => e = .returned (.bool true) ∧ Below w.heap.size w w' := by
  have hd1 : decide ((s.size : Int) > 2000) = false := decide_eq_false (by omega)
  have hd2 : decide ((t.size : Int) > 2000) = true := decide_eq_true (by omega)
  go_enter Try.func7, Try.ntmps7
  go_wp2_with fail
  go_at_call 12
  (with_reducible refine (turnoutlaw02_awake.calls k true _ HAW.out ⟨rfl⟩).mono ?_)
  rintro e w1 ⟨rfl, hb⟩
  have HBw1 := Aside0.mk hb
  clear hb
  go_wp2_with fail
  go_ret
  exact ⟨rfl, below_step (Below.refl _ _) HBw1.out⟩
set_option maxHeartbeats 4000000 in
set_option maxRecDepth 100000 in
theorem first_A_both (s t : ByteArray) (N : Int) (r m n : Nat) (w : World) (k : Nat) (a0 a1 b0 b1 c0 c1 d0 d1 f : Int) (z : Bool)
    (hs : s.size ≤ 2000) (ht : t.size ≤ 2000) (hm : m = min s.size t.size) (hr : r < 8 * m)
    (hN : wrap64 (1 + wrap64 ((IntKind.u64.wrap N).tmod 128)) = (n : Int)) (hn : n ≤ 128)
    (H1 : Aside0 (field_Prefix.f k s t = some (r : Int)))
    (H2 : Aside0 (field_Prefix.f k t s = some (r : Int)))
    (HA : Aside0 (field_Get.f k s r 1 = some (a0, a1, 0)))
    (HBB : Aside0 (field_Get.f k t r 1 = some (b0, b1, 0)))
    (hab : (a0 == b0 && (a1 == b1)) = false)
    (HC : Aside0 (field_Get.f k s 0 n = some (c0, c1, 0)))
    (HD : Aside0 (field_Get.f k t 0 n = some (d0, d1, 0)))
    (hcd : (c0 == d0 && (c1 == d1)) = z) (hkn : decide (n ≤ r) = z)
    (HAW : Aside0 (turnoutlaw02_awake.f k = some true)) :
    Calls Try.prog 7 #[.string s, .string t, .int .i64 N] w fun e w' => e = .returned (.bool true) ∧ Below w.heap.size w w' := by
  have hu25 := Try.underlying25
  have hmin := min2_at s.size t.size m hm
  have hd1 : decide ((s.size : Int) > 2000) = false := decide_eq_false (by omega)
  have hd2 : decide ((t.size : Int) > 2000) = false := decide_eq_false (by omega)
  have hk1 : m ≤ 2000 := by omega
  have HM := Aside0.mk hm
  have HN := Aside0.mk hN
  clear hm hN
  have hkn2 : decide ((r : Int) ≥ (n : Int)) = z := by rw [← hkn, decide_eq_decide]; omega
  go_enter Try.func7, Try.ntmps7
  go_wp2_with fail
  go_at_call 12
  (with_reducible refine (turnoutlaw02_awake.calls k true _ HAW.out ⟨rfl⟩).mono ?_)
  rintro e w1 ⟨rfl, hb⟩
  have HBw1 := Aside0.mk hb
  clear hb
  go_wp2_with fail
  go_at_call 20
  (with_reducible refine (field_Prefix.calls k s t r _ H1.out).mono ?_)
  rintro e w2 ⟨rfl, ⟨n1, rfl⟩⟩
  go_wp2_with fail
  go_at_call 20
  (with_reducible refine (field_Prefix.calls k t s r _ H2.out).mono ?_)
  rintro e w3 ⟨rfl, ⟨n2, rfl⟩⟩
  go_wp2_with fail
  go_at_call 13
  (with_reducible refine (field_Get.calls k s r 1 a0 a1 0 _ HA.out).mono ?_)
  rintro e w4 ⟨rfl, hb⟩
  have HBw4 := Aside0.mk hb
  clear hb
  go_wp2_with fail
  go_at_call 13
  (with_reducible refine (field_Get.calls k t r 1 b0 b1 0 _ HBB.out).mono ?_)
  rintro e w5 ⟨rfl, hb⟩
  have HBw5 := Aside0.mk hb
  clear hb
  have HQ0 := Aside0.mk (blk_below (blk_new w4 (Obj.cells #[.int .u64 a0, .int .u64 a1] 25)) HBw5.out)
  have hq1 : w5.cell? ⟨w4.heap.size, 0, none⟩ = some (.int .u64 a0) := (blk_cell HQ0.out 0).trans rfl
  have hq2 : w5.cell? ⟨w4.heap.size, 1, none⟩ = some (.int .u64 a1) := (blk_cell HQ0.out 1).trans rfl
  have hlt : w4.heap.size < w5.heap.size := blk_lt HQ0.out
  go_wp2_with fail
  rw [HN.out]
  go_at_call 13
  (with_reducible refine (field_Get.calls k s 0 n c0 c1 0 _ HC.out).mono ?_)
  rintro e w6 ⟨rfl, hb⟩
  have HBw6 := Aside0.mk hb
  clear hb
  clear hq1 hq2 hlt
  go_wp2_with fail
  go_at_call 13
  (with_reducible refine (field_Get.calls k t 0 n d0 d1 0 _ HD.out).mono ?_)
  rintro e w7 ⟨rfl, hb⟩
  have HBw7 := Aside0.mk hb
  clear hb
  have HQ9 := Aside0.mk (blk_below (blk_new w6 (Obj.cells #[.int .u64 c0, .int .u64 c1] 25)) HBw7.out)
  have hq1 : w7.cell? ⟨w6.heap.size, 0, none⟩ = some (.int .u64 c0) := (blk_cell HQ9.out 0).trans rfl
  have hq2 : w7.cell? ⟨w6.heap.size, 1, none⟩ = some (.int .u64 c1) := (blk_cell HQ9.out 1).trans rfl
  have hlt : w6.heap.size < w7.heap.size := blk_lt HQ9.out
  go_wp2_with fail
  go_ret
  exact ⟨rfl, below_alloc (below_step (below_alloc (below_step (below_alloc (below_step (below_alloc (below_step (pw_below_drewN (below_step (Below.refl _ _) HBw1.out) _) HBw4.out) _) HBw5.out) _) HBw6.out) _) HBw7.out) _⟩
set_option maxHeartbeats 4000000 in
set_option maxRecDepth 100000 in
theorem first_A_e (s t : ByteArray) (N : Int) (r m n : Nat) (w : World) (k : Nat) (a0 a1 b0 b1 c0 c1 d0 d1 f : Int) (z : Bool)
    (hs : s.size ≤ 2000) (ht : t.size ≤ 2000) (hm : m = min s.size t.size) (hr : r < 8 * m)
    (hN : wrap64 (1 + wrap64 ((IntKind.u64.wrap N).tmod 128)) = (n : Int)) (hn : n ≤ 128)
    (H1 : Aside0 (field_Prefix.f k s t = some (r : Int)))
    (H2 : Aside0 (field_Prefix.f k t s = some (r : Int)))
    (HA : Aside0 (field_Get.f k s r 1 = some (a0, a1, 0)))
    (HBB : Aside0 (field_Get.f k t r 1 = some (b0, b1, 0)))
    (hab : (a0 == b0 && (a1 == b1)) = false)
    (HC : Aside0 (field_Get.f k s 0 n = some (c0, c1, 4)))
    (HD : Aside0 (field_Get.f k t 0 n = some (d0, d1, f)))
    (HAW : Aside0 (turnoutlaw02_awake.f k = some true)) :
    Calls Try.prog 7 #[.string s, .string t, .int .i64 N] w fun e w' => e = .returned (.bool true) ∧ Below w.heap.size w w' := by
  have hu25 := Try.underlying25
  have hmin := min2_at s.size t.size m hm
  have hd1 : decide ((s.size : Int) > 2000) = false := decide_eq_false (by omega)
  have hd2 : decide ((t.size : Int) > 2000) = false := decide_eq_false (by omega)
  have hk1 : m ≤ 2000 := by omega
  have HM := Aside0.mk hm
  have HN := Aside0.mk hN
  clear hm hN
  go_enter Try.func7, Try.ntmps7
  go_wp2_with fail
  go_at_call 12
  (with_reducible refine (turnoutlaw02_awake.calls k true _ HAW.out ⟨rfl⟩).mono ?_)
  rintro e w1 ⟨rfl, hb⟩
  have HBw1 := Aside0.mk hb
  clear hb
  go_wp2_with fail
  go_at_call 20
  (with_reducible refine (field_Prefix.calls k s t r _ H1.out).mono ?_)
  rintro e w2 ⟨rfl, ⟨n1, rfl⟩⟩
  go_wp2_with fail
  go_at_call 20
  (with_reducible refine (field_Prefix.calls k t s r _ H2.out).mono ?_)
  rintro e w3 ⟨rfl, ⟨n2, rfl⟩⟩
  go_wp2_with fail
  go_at_call 13
  (with_reducible refine (field_Get.calls k s r 1 a0 a1 0 _ HA.out).mono ?_)
  rintro e w4 ⟨rfl, hb⟩
  have HBw4 := Aside0.mk hb
  clear hb
  go_wp2_with fail
  go_at_call 13
  (with_reducible refine (field_Get.calls k t r 1 b0 b1 0 _ HBB.out).mono ?_)
  rintro e w5 ⟨rfl, hb⟩
  have HBw5 := Aside0.mk hb
  clear hb
  have HQ0 := Aside0.mk (blk_below (blk_new w4 (Obj.cells #[.int .u64 a0, .int .u64 a1] 25)) HBw5.out)
  have hq1 : w5.cell? ⟨w4.heap.size, 0, none⟩ = some (.int .u64 a0) := (blk_cell HQ0.out 0).trans rfl
  have hq2 : w5.cell? ⟨w4.heap.size, 1, none⟩ = some (.int .u64 a1) := (blk_cell HQ0.out 1).trans rfl
  have hlt : w4.heap.size < w5.heap.size := blk_lt HQ0.out
  go_wp2_with fail
  rw [HN.out]
  go_at_call 13
  (with_reducible refine (field_Get.calls k s 0 n c0 c1 4 _ HC.out).mono ?_)
  rintro e w6 ⟨rfl, hb⟩
  have HBw6 := Aside0.mk hb
  clear hb
  clear hq1 hq2 hlt
  go_wp2_with fail
  go_at_call 13
  (with_reducible refine (field_Get.calls k t 0 n d0 d1 f _ HD.out).mono ?_)
  rintro e w7 ⟨rfl, hb⟩
  have HBw7 := Aside0.mk hb
  clear hb
  have HQ9 := Aside0.mk (blk_below (blk_new w6 (Obj.cells #[.int .u64 c0, .int .u64 c1] 25)) HBw7.out)
  have hq1 : w7.cell? ⟨w6.heap.size, 0, none⟩ = some (.int .u64 c0) := (blk_cell HQ9.out 0).trans rfl
  have hq2 : w7.cell? ⟨w6.heap.size, 1, none⟩ = some (.int .u64 c1) := (blk_cell HQ9.out 1).trans rfl
  have hlt : w6.heap.size < w7.heap.size := blk_lt HQ9.out
  go_wp2_with fail
  go_ret
  exact ⟨rfl, below_alloc (below_step (below_alloc (below_step (below_alloc (below_step (below_alloc (below_step (pw_below_drewN (below_step (Below.refl _ _) HBw1.out) _) HBw4.out) _) HBw5.out) _) HBw6.out) _) HBw7.out) _⟩
set_option maxHeartbeats 4000000 in
set_option maxRecDepth 100000 in
theorem first_A_f (s t : ByteArray) (N : Int) (r m n : Nat) (w : World) (k : Nat) (a0 a1 b0 b1 c0 c1 d0 d1 f : Int) (z : Bool)
    (hs : s.size ≤ 2000) (ht : t.size ≤ 2000) (hm : m = min s.size t.size) (hr : r < 8 * m)
    (hN : wrap64 (1 + wrap64 ((IntKind.u64.wrap N).tmod 128)) = (n : Int)) (hn : n ≤ 128)
    (H1 : Aside0 (field_Prefix.f k s t = some (r : Int)))
    (H2 : Aside0 (field_Prefix.f k t s = some (r : Int)))
    (HA : Aside0 (field_Get.f k s r 1 = some (a0, a1, 0)))
    (HBB : Aside0 (field_Get.f k t r 1 = some (b0, b1, 0)))
    (hab : (a0 == b0 && (a1 == b1)) = false)
    (HC : Aside0 (field_Get.f k s 0 n = some (c0, c1, 0)))
    (HD : Aside0 (field_Get.f k t 0 n = some (d0, d1, 4)))
    (HAW : Aside0 (turnoutlaw02_awake.f k = some true)) :
    Calls Try.prog 7 #[.string s, .string t, .int .i64 N] w fun e w' => e = .returned (.bool true) ∧ Below w.heap.size w w' := by
  have hu25 := Try.underlying25
  have hmin := min2_at s.size t.size m hm
  have hd1 : decide ((s.size : Int) > 2000) = false := decide_eq_false (by omega)
  have hd2 : decide ((t.size : Int) > 2000) = false := decide_eq_false (by omega)
  have hk1 : m ≤ 2000 := by omega
  have HM := Aside0.mk hm
  have HN := Aside0.mk hN
  clear hm hN
  go_enter Try.func7, Try.ntmps7
  go_wp2_with fail
  go_at_call 12
  (with_reducible refine (turnoutlaw02_awake.calls k true _ HAW.out ⟨rfl⟩).mono ?_)
  rintro e w1 ⟨rfl, hb⟩
  have HBw1 := Aside0.mk hb
  clear hb
  go_wp2_with fail
  go_at_call 20
  (with_reducible refine (field_Prefix.calls k s t r _ H1.out).mono ?_)
  rintro e w2 ⟨rfl, ⟨n1, rfl⟩⟩
  go_wp2_with fail
  go_at_call 20
  (with_reducible refine (field_Prefix.calls k t s r _ H2.out).mono ?_)
  rintro e w3 ⟨rfl, ⟨n2, rfl⟩⟩
  go_wp2_with fail
  go_at_call 13
  (with_reducible refine (field_Get.calls k s r 1 a0 a1 0 _ HA.out).mono ?_)
  rintro e w4 ⟨rfl, hb⟩
  have HBw4 := Aside0.mk hb
  clear hb
  go_wp2_with fail
  go_at_call 13
  (with_reducible refine (field_Get.calls k t r 1 b0 b1 0 _ HBB.out).mono ?_)
  rintro e w5 ⟨rfl, hb⟩
  have HBw5 := Aside0.mk hb
  clear hb
  have HQ0 := Aside0.mk (blk_below (blk_new w4 (Obj.cells #[.int .u64 a0, .int .u64 a1] 25)) HBw5.out)
  have hq1 : w5.cell? ⟨w4.heap.size, 0, none⟩ = some (.int .u64 a0) := (blk_cell HQ0.out 0).trans rfl
  have hq2 : w5.cell? ⟨w4.heap.size, 1, none⟩ = some (.int .u64 a1) := (blk_cell HQ0.out 1).trans rfl
  have hlt : w4.heap.size < w5.heap.size := blk_lt HQ0.out
  go_wp2_with fail
  rw [HN.out]
  go_at_call 13
  (with_reducible refine (field_Get.calls k s 0 n c0 c1 0 _ HC.out).mono ?_)
  rintro e w6 ⟨rfl, hb⟩
  have HBw6 := Aside0.mk hb
  clear hb
  clear hq1 hq2 hlt
  go_wp2_with fail
  go_at_call 13
  (with_reducible refine (field_Get.calls k t 0 n d0 d1 4 _ HD.out).mono ?_)
  rintro e w7 ⟨rfl, hb⟩
  have HBw7 := Aside0.mk hb
  clear hb
  have HQ9 := Aside0.mk (blk_below (blk_new w6 (Obj.cells #[.int .u64 c0, .int .u64 c1] 25)) HBw7.out)
  have hq1 : w7.cell? ⟨w6.heap.size, 0, none⟩ = some (.int .u64 c0) := (blk_cell HQ9.out 0).trans rfl
  have hq2 : w7.cell? ⟨w6.heap.size, 1, none⟩ = some (.int .u64 c1) := (blk_cell HQ9.out 1).trans rfl
  have hlt : w6.heap.size < w7.heap.size := blk_lt HQ9.out
  go_wp2_with fail
  go_ret
  exact ⟨rfl, below_alloc (below_step (below_alloc (below_step (below_alloc (below_step (below_alloc (below_step (pw_below_drewN (below_step (Below.refl _ _) HBw1.out) _) HBw4.out) _) HBw5.out) _) HBw6.out) _) HBw7.out) _⟩
set_option maxHeartbeats 4000000 in
set_option maxRecDepth 100000 in
theorem first_B_both (s t : ByteArray) (N : Int) (r m n : Nat) (w : World) (k : Nat) (a0 a1 b0 b1 c0 c1 d0 d1 f : Int) (z : Bool)
    (hs : s.size ≤ 2000) (ht : t.size ≤ 2000) (hm : m = min s.size t.size) (hr : r = 8 * m)
    (hN : wrap64 (1 + wrap64 ((IntKind.u64.wrap N).tmod 128)) = (n : Int)) (hn : n ≤ 128)
    (H1 : Aside0 (field_Prefix.f k s t = some (r : Int)))
    (H2 : Aside0 (field_Prefix.f k t s = some (r : Int)))
    (HC : Aside0 (field_Get.f k s 0 n = some (c0, c1, 0)))
    (HD : Aside0 (field_Get.f k t 0 n = some (d0, d1, 0)))
    (hcd : (c0 == d0 && (c1 == d1)) = z) (hkn : decide (n ≤ r) = z)
    (HAW : Aside0 (turnoutlaw02_awake.f k = some true)) :
    Calls Try.prog 7 #[.string s, .string t, .int .i64 N] w fun e w' => e = .returned (.bool true) ∧ Below w.heap.size w w' := by
  have hu25 := Try.underlying25
  have hmin := min2_at s.size t.size m hm
  have hd1 : decide ((s.size : Int) > 2000) = false := decide_eq_false (by omega)
  have hd2 : decide ((t.size : Int) > 2000) = false := decide_eq_false (by omega)
  have hk1 : m ≤ 2000 := by omega
  have HM := Aside0.mk hm
  have HN := Aside0.mk hN
  clear hm hN
  have hr1 : ¬ (r < 8 * m) := by omega
  have hr2 : r ≤ 8 * m := by omega
  clear hr
  have hkn2 : decide ((r : Int) ≥ (n : Int)) = z := by rw [← hkn, decide_eq_decide]; omega
  go_enter Try.func7, Try.ntmps7
  go_wp2_with fail
  go_at_call 12
  (with_reducible refine (turnoutlaw02_awake.calls k true _ HAW.out ⟨rfl⟩).mono ?_)
  rintro e w1 ⟨rfl, hb⟩
  have HBw1 := Aside0.mk hb
  clear hb
  go_wp2_with fail
  go_at_call 20
  (with_reducible refine (field_Prefix.calls k s t r _ H1.out).mono ?_)
  rintro e w2 ⟨rfl, ⟨n1, rfl⟩⟩
  go_wp2_with fail
  go_at_call 20
  (with_reducible refine (field_Prefix.calls k t s r _ H2.out).mono ?_)
  rintro e w3 ⟨rfl, ⟨n2, rfl⟩⟩
  go_wp2_with fail
  rw [HN.out]
  go_at_call 13
  (with_reducible refine (field_Get.calls k s 0 n c0 c1 0 _ HC.out).mono ?_)
  rintro e w6 ⟨rfl, hb⟩
  have HBw6 := Aside0.mk hb
  clear hb
  go_wp2_with fail
  go_at_call 13
  (with_reducible refine (field_Get.calls k t 0 n d0 d1 0 _ HD.out).mono ?_)
  rintro e w7 ⟨rfl, hb⟩
  have HBw7 := Aside0.mk hb
  clear hb
  have HQ9 := Aside0.mk (blk_below (blk_new w6 (Obj.cells #[.int .u64 c0, .int .u64 c1] 25)) HBw7.out)
  have hq1 : w7.cell? ⟨w6.heap.size, 0, none⟩ = some (.int .u64 c0) := (blk_cell HQ9.out 0).trans rfl
  have hq2 : w7.cell? ⟨w6.heap.size, 1, none⟩ = some (.int .u64 c1) := (blk_cell HQ9.out 1).trans rfl
  have hlt : w6.heap.size < w7.heap.size := blk_lt HQ9.out
  go_wp2_with fail
  go_ret
  exact ⟨rfl, below_alloc (below_step (below_alloc (below_step (pw_below_drewN (below_step (Below.refl _ _) HBw1.out) _) HBw6.out) _) HBw7.out) _⟩
set_option maxHeartbeats 4000000 in
set_option maxRecDepth 100000 in
theorem first_B_e (s t : ByteArray) (N : Int) (r m n : Nat) (w : World) (k : Nat) (a0 a1 b0 b1 c0 c1 d0 d1 f : Int) (z : Bool)
    (hs : s.size ≤ 2000) (ht : t.size ≤ 2000) (hm : m = min s.size t.size) (hr : r = 8 * m)
    (hN : wrap64 (1 + wrap64 ((IntKind.u64.wrap N).tmod 128)) = (n : Int)) (hn : n ≤ 128)
    (H1 : Aside0 (field_Prefix.f k s t = some (r : Int)))
    (H2 : Aside0 (field_Prefix.f k t s = some (r : Int)))
    (HC : Aside0 (field_Get.f k s 0 n = some (c0, c1, 4)))
    (HD : Aside0 (field_Get.f k t 0 n = some (d0, d1, f)))
    (HAW : Aside0 (turnoutlaw02_awake.f k = some true)) :
    Calls Try.prog 7 #[.string s, .string t, .int .i64 N] w fun e w' => e = .returned (.bool true) ∧ Below w.heap.size w w' := by
  have hu25 := Try.underlying25
  have hmin := min2_at s.size t.size m hm
  have hd1 : decide ((s.size : Int) > 2000) = false := decide_eq_false (by omega)
  have hd2 : decide ((t.size : Int) > 2000) = false := decide_eq_false (by omega)
  have hk1 : m ≤ 2000 := by omega
  have HM := Aside0.mk hm
  have HN := Aside0.mk hN
  clear hm hN
  have hr1 : ¬ (r < 8 * m) := by omega
  have hr2 : r ≤ 8 * m := by omega
  clear hr
  go_enter Try.func7, Try.ntmps7
  go_wp2_with fail
  go_at_call 12
  (with_reducible refine (turnoutlaw02_awake.calls k true _ HAW.out ⟨rfl⟩).mono ?_)
  rintro e w1 ⟨rfl, hb⟩
  have HBw1 := Aside0.mk hb
  clear hb
  go_wp2_with fail
  go_at_call 20
  (with_reducible refine (field_Prefix.calls k s t r _ H1.out).mono ?_)
  rintro e w2 ⟨rfl, ⟨n1, rfl⟩⟩
  go_wp2_with fail
  go_at_call 20
  (with_reducible refine (field_Prefix.calls k t s r _ H2.out).mono ?_)
  rintro e w3 ⟨rfl, ⟨n2, rfl⟩⟩
  go_wp2_with fail
  rw [HN.out]
  go_at_call 13
  (with_reducible refine (field_Get.calls k s 0 n c0 c1 4 _ HC.out).mono ?_)
  rintro e w6 ⟨rfl, hb⟩
  have HBw6 := Aside0.mk hb
  clear hb
  go_wp2_with fail
  go_at_call 13
  (with_reducible refine (field_Get.calls k t 0 n d0 d1 f _ HD.out).mono ?_)
  rintro e w7 ⟨rfl, hb⟩
  have HBw7 := Aside0.mk hb
  clear hb
  have HQ9 := Aside0.mk (blk_below (blk_new w6 (Obj.cells #[.int .u64 c0, .int .u64 c1] 25)) HBw7.out)
  have hq1 : w7.cell? ⟨w6.heap.size, 0, none⟩ = some (.int .u64 c0) := (blk_cell HQ9.out 0).trans rfl
  have hq2 : w7.cell? ⟨w6.heap.size, 1, none⟩ = some (.int .u64 c1) := (blk_cell HQ9.out 1).trans rfl
  have hlt : w6.heap.size < w7.heap.size := blk_lt HQ9.out
  go_wp2_with fail
  go_ret
  exact ⟨rfl, below_alloc (below_step (below_alloc (below_step (pw_below_drewN (below_step (Below.refl _ _) HBw1.out) _) HBw6.out) _) HBw7.out) _⟩
set_option maxHeartbeats 4000000 in
set_option maxRecDepth 100000 in
theorem first_B_f (s t : ByteArray) (N : Int) (r m n : Nat) (w : World) (k : Nat) (a0 a1 b0 b1 c0 c1 d0 d1 f : Int) (z : Bool)
    (hs : s.size ≤ 2000) (ht : t.size ≤ 2000) (hm : m = min s.size t.size) (hr : r = 8 * m)
    (hN : wrap64 (1 + wrap64 ((IntKind.u64.wrap N).tmod 128)) = (n : Int)) (hn : n ≤ 128)
    (H1 : Aside0 (field_Prefix.f k s t = some (r : Int)))
    (H2 : Aside0 (field_Prefix.f k t s = some (r : Int)))
    (HC : Aside0 (field_Get.f k s 0 n = some (c0, c1, 0)))
    (HD : Aside0 (field_Get.f k t 0 n = some (d0, d1, 4)))
    (HAW : Aside0 (turnoutlaw02_awake.f k = some true)) :
    Calls Try.prog 7 #[.string s, .string t, .int .i64 N] w fun e w' => e = .returned (.bool true) ∧ Below w.heap.size w w' := by
  have hu25 := Try.underlying25
  have hmin := min2_at s.size t.size m hm
  have hd1 : decide ((s.size : Int) > 2000) = false := decide_eq_false (by omega)
  have hd2 : decide ((t.size : Int) > 2000) = false := decide_eq_false (by omega)
  have hk1 : m ≤ 2000 := by omega
  have HM := Aside0.mk hm
  have HN := Aside0.mk hN
  clear hm hN
  have hr1 : ¬ (r < 8 * m) := by omega
  have hr2 : r ≤ 8 * m := by omega
  clear hr
  go_enter Try.func7, Try.ntmps7
  go_wp2_with fail
  go_at_call 12
  (with_reducible refine (turnoutlaw02_awake.calls k true _ HAW.out ⟨rfl⟩).mono ?_)
  rintro e w1 ⟨rfl, hb⟩
  have HBw1 := Aside0.mk hb
  clear hb
  go_wp2_with fail
  go_at_call 20
  (with_reducible refine (field_Prefix.calls k s t r _ H1.out).mono ?_)
  rintro e w2 ⟨rfl, ⟨n1, rfl⟩⟩
  go_wp2_with fail
  go_at_call 20
  (with_reducible refine (field_Prefix.calls k t s r _ H2.out).mono ?_)
  rintro e w3 ⟨rfl, ⟨n2, rfl⟩⟩
  go_wp2_with fail
  rw [HN.out]
  go_at_call 13
  (with_reducible refine (field_Get.calls k s 0 n c0 c1 0 _ HC.out).mono ?_)
  rintro e w6 ⟨rfl, hb⟩
  have HBw6 := Aside0.mk hb
  clear hb
  go_wp2_with fail
  go_at_call 13
  (with_reducible refine (field_Get.calls k t 0 n d0 d1 4 _ HD.out).mono ?_)
  rintro e w7 ⟨rfl, hb⟩
  have HBw7 := Aside0.mk hb
  clear hb
  have HQ9 := Aside0.mk (blk_below (blk_new w6 (Obj.cells #[.int .u64 c0, .int .u64 c1] 25)) HBw7.out)
  have hq1 : w7.cell? ⟨w6.heap.size, 0, none⟩ = some (.int .u64 c0) := (blk_cell HQ9.out 0).trans rfl
  have hq2 : w7.cell? ⟨w6.heap.size, 1, none⟩ = some (.int .u64 c1) := (blk_cell HQ9.out 1).trans rfl
  have hlt : w6.heap.size < w7.heap.size := blk_lt HQ9.out
  go_wp2_with fail
  go_ret
  exact ⟨rfl, below_alloc (below_step (below_alloc (below_step (pw_below_drewN (below_step (Below.refl _ _) HBw1.out) _) HBw6.out) _) HBw7.out) _⟩
end Go.Proofs.Ytgpahhobifdapaa.PField
