/- WordBits: what comes of any two words, bit by bit, and of any word shifted by any number, is the document's. No condition. -/
import Derived.Test.YtmplgmlfpfopbaaMRefK
import Derived.Test.YtmplgmlfpfopbaaPWordKx7
set_option linter.unusedVariables false
set_option linter.unusedSimpArgs false
namespace Go.Proofs.Ytmplgmlfpfopbaa.Pure
open Go.RowKit Go.Proofs.Ytmplgmlfpfopbaa.PWordK Go.Proofs.Ytmplgmlfpfopbaa.MBits Go.Proofs.Ytmplgmlfpfopbaa.MTab Go.Proofs.Ytmplgmlfpfopbaa.MWordK Go.Proofs.YtmplgmlfpfopbaaW.PrintWords Go.Proofs.YtmplgmlfpfopbaaW.PrintLast Go.Proofs.YtmplgmlfpfopbaaW.PrintMore

theorem same (x : W) : ((hi x == hi x) && (lo x == lo x)) = true := by simp
theorem xor_ev (x y : W) : word_Xor.f (hi x) (lo x) (hi y) (lo y) = some (hi (x ^^^ y), lo (x ^^^ y)) := by
  unfold word_Xor.f; rw [xor_hi, xor_lo]
theorem WordBits : turnoutlaw01_WordBits.Pure := by
  refine ⟨fun a0 a1 b0 b1 n ha0 ha1 hb0 hb1 hn => ?_, awake_only⟩
  obtain ⟨x, rfl, rfl⟩ := halves _ _ (bounds_u64 ha0) (bounds_u64 ha1)
  obtain ⟨y, rfl, rfl⟩ := halves _ _ (bounds_u64 hb0) (bounds_u64 hb1)
  have bn := bounds_i64 hn
  apply Ev.rounds
  unfold turnoutlaw01_WordBits.f
  refine Ev.pb (and_ev x y) ?_
  refine Ev.bind (rand_ev x y) ?_
  refine Ev.ip (same _) ?_
  refine Ev.pb (or_ev x y) ?_
  refine Ev.bind (ror_ev x y) ?_
  refine Ev.ip (same _) ?_
  refine Ev.pb (xor_ev x y) ?_
  refine Ev.bind (rxor_ev x y) ?_
  refine Ev.ip (same _) ?_
  refine Ev.pb (not_ev x) ?_
  refine Ev.bind (rnot_ev x) ?_
  refine Ev.ip (same _) ?_
  refine Ev.pb (left_ev x n bn.1 bn.2) ?_
  refine Ev.bind (rleft_ev x n bn.1 bn.2) ?_
  refine Ev.ip (same _) ?_
  refine Ev.pb (right_ev x n bn.1 bn.2) ?_
  refine Ev.bind (rright_ev x n bn.1 bn.2) ?_
  refine Ev.ip (same _) ?_
  exact Ev.bind awake_ev (Ev.now _)
end Go.Proofs.Ytmplgmlfpfopbaa.Pure
