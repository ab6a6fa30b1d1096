-- Written by wip/turnprint.py, a program of this session (the kit's print, turned).
import Derived.Test.YtpchlnbnpgaocaaPTriex0
namespace Go.Proofs.Ytpchlnbnpgaocaa.PTrie
open Go.RowKit Go.Proofs.YtpchlnbnpgaocaaW.PrintWords Go.Proofs.YtpchlnbnpgaocaaW.PrintLast Go.Proofs.YtpchlnbnpgaocaaW.PrintMore
attribute [local go_sem] max2_int min2_int max_two min_two max_three min_three max_four min_four   -- for this text's walks alone
set_option linter.unusedVariables false
set_option linter.unusedSimpArgs false

attribute [local go_sem high] xorA_u8 xorA_u16 xorA_u32 xorA_u64 gtr_str
theorem eqA69 (d : Nat) (w : World) (x0 y0 : Int) (x1 y1 : Int) :
    (Op.equalIn (d + 2) 69 (.agg #[.int .u64 x0, .int .u64 x1]) (.agg #[.int .u64 y0, .int .u64 y1])).run Try.prog w = .ok (x0 == y0 && (x1 == y1)) w := by
  refine eqA_of Try.underlying69 (by kernel_rfl) ?_
  refine eqf_cons (by rfl) (by go_simp; rfl) (by go_simp; rfl) (by go_simp) ?_
  exact eqf_last (by rfl) (by go_simp; rfl) (by go_simp; rfl) (by go_simp)
end Go.Proofs.Ytpchlnbnpgaocaa.PTrie
