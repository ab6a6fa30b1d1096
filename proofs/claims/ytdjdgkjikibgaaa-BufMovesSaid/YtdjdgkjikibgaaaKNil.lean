/- What the functions of package buf do with a buffer of nil. -/
import Derived.Test.YtdjdgkjikibgaaaKVal
namespace Go.Proofs.Ytdjdgkjikibgaaa.PBuf
open Go.RowKit Go.Proofs.YtdjdgkjikibgaaaW.PrintWords Go.Proofs.YtdjdgkjikibgaaaW.PrintLast Go.Proofs.YtdjdgkjikibgaaaW.PrintMore
set_option linter.unusedVariables false
set_option linter.unusedSimpArgs false
set_option maxHeartbeats 4000000
set_option maxRecDepth 100000
theorem off_nil (a n : Int) (w : World) : Calls Try.prog 29 #[.pointer none, .int .i64 a, .int .i64 n] w fun e w' => e = .returned (.int .i64 2) ∧ w = w' := by
  go_enter Try.func29, Try.ntmps29
  go_wp2_with fail
  go_ret
  exact ⟨rfl, rfl⟩
theorem len_nil (w : World) : Calls Try.prog 15 #[.pointer none] w fun e w' => e = .returned (.int .i64 0) ∧ w = w' := by
  go_enter Try.func15, Try.ntmps15
  go_wp2_with fail
  go_ret
  exact ⟨rfl, rfl⟩
theorem text_nil (w : World) : Calls Try.prog 17 #[.pointer none] w fun e w' => e = .returned (.string ⟨#[]⟩) ∧ w = w' := by
  go_enter Try.func17, Try.ntmps17
  go_wp2_with fail
  go_ret
  exact ⟨rfl, rfl⟩
theorem copy_nil (w : World) : Calls Try.prog 25 #[.pointer none] w fun e w' => e = .returned (.pointer none) ∧ w = w' := by
  go_enter Try.func25, Try.ntmps25
  go_wp2_with fail
  go_ret
  exact ⟨rfl, rfl⟩
theorem ins_nil (a n m : Int) (hm : Builtin.min_ #[3, 3] 3 #[.int .i64 n, .int .i64 0] = pure (.int .i64 m)) (w : World) : Calls Try.prog 14 #[.pointer none, .int .i64 a, .int .i64 n] w fun e w' => e = .returned (.int .i64 2) ∧ w = w' := by
  go_enter Try.func14, Try.ntmps14
  go_wp2_with fail
  go_at_call 29
  (with_reducible refine (off_nil a m _).mono ?_)
  rintro e u1 ⟨rfl, rfl⟩
  go_wp2_with fail
  go_ret
  exact ⟨rfl, rfl⟩
theorem del_nil (a n : Int) (w : World) : Calls Try.prog 16 #[.pointer none, .int .i64 a, .int .i64 n] w fun e w' => e = .returned (.int .i64 2) ∧ w = w' := by
  go_enter Try.func16, Try.ntmps16
  go_wp2_with fail
  go_at_call 29
  (with_reducible refine (off_nil a n _).mono ?_)
  rintro e u1 ⟨rfl, rfl⟩
  go_wp2_with fail
  go_ret
  exact ⟨rfl, rfl⟩
theorem sum_nil (a n : Int) (w : World) : Calls Try.prog 21 #[.pointer none, .int .i64 a, .int .i64 n] w fun e w' => e = .returned (.tuple #[.int .u16 0, .int .i64 2]) ∧ w = w' := by
  go_enter Try.func21, Try.ntmps21
  go_wp2_with fail
  go_at_call 29
  (with_reducible refine (off_nil a n _).mono ?_)
  rintro e u1 ⟨rfl, rfl⟩
  go_wp2_with fail
  go_ret2
  exact ⟨rfl, rfl⟩
theorem put_nil (a n x y : Int) (w : World) : Calls Try.prog 19 #[.pointer none, .int .i64 a, .int .i64 n, .agg #[.int .u64 x, .int .u64 y]] w fun e w' => e = .returned (.int .i64 2) ∧ Below w.heap.size w w' := by
  have hu32 := Try.underlying32
  go_enter Try.func19, Try.ntmps19
  go_wp2_with fail
  go_ret
  exact ⟨rfl, below_alloc (Below.refl _ _) _⟩
theorem get_nil (a n : Int) (w : World) : Calls Try.prog 18 #[.pointer none, .int .i64 a, .int .i64 n] w fun e w' => e = .returned (.tuple #[.agg #[.int .u64 0, .int .u64 0], .int .i64 2]) ∧ Below w.heap.size w w' := by
  have hu32 := Try.underlying32
  have hz0 : (w.alloc (.cells #[.int .u64 0, .int .u64 0] 32)).cell? ⟨w.heap.size, 0, none⟩ = some (.int .u64 0) := (blk_cell (blk_new w _) 0).trans rfl
  have hz1 : (w.alloc (.cells #[.int .u64 0, .int .u64 0] 32)).cell? ⟨w.heap.size, 1, none⟩ = some (.int .u64 0) := (blk_cell (blk_new w _) 1).trans rfl
  have hf0 := blk_frozen (blk_new w (.cells #[.int .u64 0, .int .u64 0] 32)) 0
  have hf1 := blk_frozen (blk_new w (.cells #[.int .u64 0, .int .u64 0] 32)) 1
  go_enter Try.func18, Try.ntmps18
  go_wp2_with fail
  refine bodyPost_ret (results_ct rfl _ _ w.heap.size 32 #[.int .u64 0, .int .u64 0] (0, 0) _ rfl (blk_new w _) Try.underlying32 rfl (by kernel_rfl)) rfl ?_
  exact ⟨rfl, below_alloc (Below.refl _ _) _⟩
end Go.Proofs.Ytdjdgkjikibgaaa.PBuf
