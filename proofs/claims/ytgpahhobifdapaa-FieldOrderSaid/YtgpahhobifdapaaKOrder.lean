/- Compare's contract, and the walk of the law FieldOrder, by hand over the contracts of what it calls. -/
import Derived.Test.YtgpahhobifdapaaPFieldx4
import Derived.Test.YtgpahhobifdapaaPFieldx5
import Derived.Test.YtgpahhobifdapaaMTell
import Derived.WalkLawsBesides
import Derived.WalkSpells
import Derived.Outline
namespace Go.Proofs.Ytgpahhobifdapaa.PField
open Go.RowKit Go.Proofs.YtgpahhobifdapaaW.PrintWords Go.Proofs.YtgpahhobifdapaaW.PrintLast Go.Proofs.YtgpahhobifdapaaW.PrintMore
set_option linter.unusedVariables false
set_option linter.unusedSimpArgs false

def word_Compare.f (a0_0 : Int) (a0_1 : Int) (a1_0 : Int) (a1_1 : Int) : Option Int := some (if a0_0 = a1_0 ∧ a0_1 = a1_1 then 0 else if a0_0 < a1_0 ∨ a0_0 = a1_0 ∧ a0_1 < a1_1 then -1 else 1)
theorem word_Compare.same (a b : Int) (w : World) : Calls Try.prog 31 #[.agg #[.int .u64 a, .int .u64 b], .agg #[.int .u64 a, .int .u64 b]] w fun e w' => e = .returned (.int .i64 0) ∧ Below w.heap.size w w' := by
  go_enter Try.func31, Try.ntmps31
  go_wp2
  go_ret
  exact ⟨rfl, ((Below.refl _ _).alloc (Nat.le_refl _) _).alloc (by simp) _⟩
theorem word_Compare.less1 (a b c d : Int) (h : a < c) (w : World) : Calls Try.prog 31 #[.agg #[.int .u64 a, .int .u64 b], .agg #[.int .u64 c, .int .u64 d]] w fun e w' => e = .returned (.int .i64 (-1)) ∧ Below w.heap.size w w' := by
  have h1 : (a == c) = false := by simp; omega
  have h2 : decide (a < c) = true := by simpa using h
  clear h
  go_enter Try.func31, Try.ntmps31
  go_wp2
  go_ret
  exact ⟨rfl, ((Below.refl _ _).alloc (Nat.le_refl _) _).alloc (by simp) _⟩
theorem word_Compare.less2 (a b d : Int) (h : b < d) (w : World) : Calls Try.prog 31 #[.agg #[.int .u64 a, .int .u64 b], .agg #[.int .u64 a, .int .u64 d]] w fun e w' => e = .returned (.int .i64 (-1)) ∧ Below w.heap.size w w' := by
  have h1 : (b == d) = false := by simp; omega
  have h2 : decide (b < d) = true := by simpa using h
  clear h
  go_enter Try.func31, Try.ntmps31
  go_wp2
  go_ret
  exact ⟨rfl, ((Below.refl _ _).alloc (Nat.le_refl _) _).alloc (by simp) _⟩
theorem word_Compare.more1 (a b c d : Int) (h : c < a) (w : World) : Calls Try.prog 31 #[.agg #[.int .u64 a, .int .u64 b], .agg #[.int .u64 c, .int .u64 d]] w fun e w' => e = .returned (.int .i64 1) ∧ Below w.heap.size w w' := by
  have h1 : (a == c) = false := by simp; omega
  have h2 : decide (a < c) = false := by simp; omega
  clear h
  go_enter Try.func31, Try.ntmps31
  go_wp2
  go_ret
  exact ⟨rfl, ((Below.refl _ _).alloc (Nat.le_refl _) _).alloc (by simp) _⟩
theorem word_Compare.more2 (a b d : Int) (h : d < b) (w : World) : Calls Try.prog 31 #[.agg #[.int .u64 a, .int .u64 b], .agg #[.int .u64 a, .int .u64 d]] w fun e w' => e = .returned (.int .i64 1) ∧ Below w.heap.size w w' := by
  have h1 : (b == d) = false := by simp; omega
  have h2 : decide (b < d) = false := by simp; omega
  clear h
  go_enter Try.func31, Try.ntmps31
  go_wp2
  go_ret
  exact ⟨rfl, ((Below.refl _ _).alloc (Nat.le_refl _) _).alloc (by simp) _⟩
theorem word_Compare.calls (a0_0 : Int) (a0_1 : Int) (a1_0 : Int) (a1_1 : Int) (r : Int) (w : World) (h : word_Compare.f a0_0 a0_1 a1_0 a1_1 = some r) :
    Calls Try.prog 31 #[.agg #[.int .u64 a0_0, .int .u64 a0_1], .agg #[.int .u64 a1_0, .int .u64 a1_1]] w fun e w' => e = .returned (.int .i64 r) ∧ Below w.heap.size w w' := by
  unfold word_Compare.f at h
  obtain rfl := Option.some.inj h
  rcases Int.lt_trichotomy a0_0 a1_0 with h1 | rfl | h1
  · rw [if_neg (by omega), if_pos (by omega)]; exact word_Compare.less1 _ _ _ _ h1 w
  · rcases Int.lt_trichotomy a0_1 a1_1 with h2 | rfl | h2
    · rw [if_neg (by omega), if_pos (by omega)]; exact word_Compare.less2 _ _ _ h2 w
    · rw [if_pos ⟨rfl, rfl⟩]; exact word_Compare.same _ _ w
    · rw [if_neg (by omega), if_neg (by omega)]; exact word_Compare.more2 _ _ _ h2 w
  · rw [if_neg (by omega), if_neg (by omega)]; exact word_Compare.more1 _ _ _ _ h1 w

theorem min_at (a b n : Nat) (h : n = min (min a b) 16) (ats : Array TypeId) (ty : TypeId) : Builtin.min_ ats ty #[.int .i64 (a : Int), .int .i64 (b : Int), .int .i64 16] = pure (.int .i64 (n : Int)) := by
  have e1 : (if (b : Int) < (a : Int) then (b : Int) else (a : Int)) = ((min a b : Nat) : Int) := by split <;> omega
  have e2 : (if (16 : Int) < ((min a b : Nat) : Int) then (16 : Int) else ((min a b : Nat) : Int)) = (n : Int) := by split <;> omega
  simp only [min_three, min2_int, gt_iff_lt, pure_bind, e1, e2, bind_pure]
attribute [local go_sem high] eqA25
set_option maxHeartbeats 4000000 in
set_option maxRecDepth 100000 in
theorem order_walk (s t : ByteArray) (n : Nat) (w : World) (k : Nat) (a0 a1 b0 b1 : Int) (c : Int) (q z : Bool)
    (hs : s.size ≤ 140737488351232) (ht : t.size ≤ 140737488351232) (hn : n = min (min s.size t.size) 16) (hn0 : 1 ≤ n)
    (HA : Aside0 (field_Get.f k (s.extract 0 n) 0 (8 * n) = some (a0, a1, 0)))
    (HBB : Aside0 (field_Get.f k (t.extract 0 n) 0 (8 * n) = some (b0, b1, 0)))
    (HU : Aside0 (field_Text.f a0 a1 (8 * n) = some (s.extract 0 n, 0)))
    (HC : Aside0 (word_Compare.f a0 a1 b0 b1 = some c))
    (hc : decide (c < 0) = q) (hl : Op.bytesLess (s.extract 0 n).toList (t.extract 0 n).toList = q) (hab : (a0 == b0 && (a1 == b1)) = z) (hst : ((s.extract 0 n).toList == (t.extract 0 n).toList) = z)
    (HAW : Aside0 (turnoutlaw02_awake.f k = some true)) :
    Calls Try.prog 11 #[.string s, .string t] w fun e w' => e = .returned (.bool true) ∧ Below w.heap.size w w' := by
  have hu25 := Try.underlying25
  have h1 : n ≤ s.size := by omega
  have h2 : n ≤ t.size := by omega
  have h16 : n ≤ 16 := by omega
  have hmin := min_at s.size t.size n hn
  have HN := Aside0.mk hn
  clear hn
  go_enter Try.func11, Try.ntmps11
  have g1 : (n : Int) ≤ (s.size : Int) := by omega
  have g2 : (n : Int) ≤ (t.size : Int) := by omega
  have g3 : ((n : Int) == 0) = false := by simp; omega
  go_wp2_with fail
  go_quiet (fail)
  go_wp2_with (go_at_call 13; (with_reducible refine (field_Get.calls k (s.extract 0 n) 0 (8 * n) a0 a1 0 _ HA.out).mono ?_); rintro e w1 ⟨rfl, hb⟩; have HB1 := Aside0.mk hb; clear hb)
  go_at_call 13
  with_reducible refine (field_Get.calls k (t.extract 0 n) 0 (8 * n) b0 b1 0 _ HBB.out).mono ?_
  rintro e w2 ⟨rfl, hb⟩
  have HB2 := Aside0.mk hb
  clear hb
  have HQ0 := Aside0.mk (blk_below (blk_new w1 (Obj.cells #[.int .u64 a0, .int .u64 a1] 25)) HB2.out)
  have hq1 : w2.cell? ⟨w1.heap.size, 0, none⟩ = some (.int .u64 a0) := (blk_cell HQ0.out 0).trans rfl
  have hq2 : w2.cell? ⟨w1.heap.size, 1, none⟩ = some (.int .u64 a1) := (blk_cell HQ0.out 1).trans rfl
  have hlt12 : w1.heap.size < w2.heap.size := blk_lt HQ0.out
  go_wp2_with fail
  go_at_call 21
  with_reducible refine (field_Text.calls a0 a1 (8 * n) (s.extract 0 n) 0 _ HU.out).mono ?_
  rintro e w3 ⟨rfl, hb⟩
  have HB3 := Aside0.mk hb
  clear hb hq1 hq2
  have HQ1 := Aside0.mk (blk_below (blk_alloc HQ0.out (Obj.cells #[.int .u64 b0, .int .u64 b1] 25)) HB3.out)
  have HQ2 := Aside0.mk (blk_below (blk_new w2 (Obj.cells #[.int .u64 b0, .int .u64 b1] 25)) HB3.out)
  have hq1 : w3.cell? ⟨w1.heap.size, 0, none⟩ = some (.int .u64 a0) := (blk_cell HQ1.out 0).trans rfl
  have hq2 : w3.cell? ⟨w1.heap.size, 1, none⟩ = some (.int .u64 a1) := (blk_cell HQ1.out 1).trans rfl
  have hq3 : w3.cell? ⟨w2.heap.size, 0, none⟩ = some (.int .u64 b0) := (blk_cell HQ2.out 0).trans rfl
  have hq4 : w3.cell? ⟨w2.heap.size, 1, none⟩ = some (.int .u64 b1) := (blk_cell HQ2.out 1).trans rfl
  go_wp2_with fail
  go_at_call 31
  with_reducible refine (word_Compare.calls a0 a1 b0 b1 c _ HC.out).mono ?_
  rintro e w4 ⟨rfl, hb⟩
  have HB4 := Aside0.mk hb
  clear hb hq1 hq2 hq3 hq4
  have HQ3 := Aside0.mk (blk_below HQ1.out HB4.out)
  have HQ4 := Aside0.mk (blk_below HQ2.out HB4.out)
  have hq1 : w4.cell? ⟨w1.heap.size, 0, none⟩ = some (.int .u64 a0) := (blk_cell HQ3.out 0).trans rfl
  have hq2 : w4.cell? ⟨w1.heap.size, 1, none⟩ = some (.int .u64 a1) := (blk_cell HQ3.out 1).trans rfl
  have hq3 : w4.cell? ⟨w2.heap.size, 0, none⟩ = some (.int .u64 b0) := (blk_cell HQ4.out 0).trans rfl
  have hq4 : w4.cell? ⟨w2.heap.size, 1, none⟩ = some (.int .u64 b1) := (blk_cell HQ4.out 1).trans rfl
  go_wp2_with fail
  go_at_call 12
  with_reducible refine (turnoutlaw02_awake.calls k true _ HAW.out ⟨rfl⟩).mono ?_
  rintro e w5 ⟨rfl, hb⟩
  have HB5 := Aside0.mk hb
  clear hb hq1 hq2 hq3 hq4
  go_wp2_with fail
  go_ret
  exact ⟨rfl, below_step (below_step (below_step (below_alloc (below_step (below_alloc (below_step (pw_below_drewN (Below.refl _ _) _) HB1.out) _) HB2.out) _) HB3.out) HB4.out) HB5.out⟩
set_option maxHeartbeats 4000000 in
set_option maxRecDepth 100000 in
theorem order_none (s t : ByteArray) (w : World) (k : Nat) (hs : s.size ≤ 140737488351232) (ht : t.size ≤ 140737488351232) (hn : 0 = min (min s.size t.size) 16)
    (HAW : Aside0 (turnoutlaw02_awake.f k = some true)) :
    Calls Try.prog 11 #[.string s, .string t] w fun e w' => e = .returned (.bool true) ∧ Below w.heap.size w w' := by
  have hmin : ∀ (ats : Array TypeId) (ty : TypeId), Builtin.min_ ats ty #[.int .i64 (s.size : Int), .int .i64 (t.size : Int), .int .i64 16] = pure (.int .i64 0) := min_at s.size t.size 0 hn
  have g1 : (0 : Int) ≤ (s.size : Int) := by omega
  have g2 : (0 : Int) ≤ (t.size : Int) := by omega
  clear hn
  go_enter Try.func11, Try.ntmps11
  go_wp2_with fail
  go_quiet (fail)
  go_wp2_with fail
  go_at_call 12
  with_reducible refine (turnoutlaw02_awake.calls k true _ HAW.out ⟨rfl⟩).mono ?_
  rintro e w5 ⟨rfl, hb⟩
  have HB5 := Aside0.mk hb
  clear hb
  go_wp2_with fail
  go_ret
  exact ⟨rfl, below_step (pw_below_drewN (Below.refl _ _) _) HB5.out⟩
end Go.Proofs.Ytgpahhobifdapaa.PField
