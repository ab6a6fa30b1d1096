-- Written by wip/turnprint.py, a program of this session (the kit's print, turned).
import Derived.Test.YtmplgmlfpfopbaaPWordx0
import Derived.Test.YtmplgmlfpfopbaaPWordx1
import Derived.Test.YtmplgmlfpfopbaaPWordx2
import Derived.Test.YtmplgmlfpfopbaaPWordx3
import Derived.Test.YtmplgmlfpfopbaaPWordx4
import Derived.Test.YtmplgmlfpfopbaaPWordx5
import Derived.Test.YtmplgmlfpfopbaaPWordx8
namespace Go.Proofs.Ytmplgmlfpfopbaa.PWord
open Go.RowKit Go.Proofs.YtmplgmlfpfopbaaW.PrintWords Go.Proofs.YtmplgmlfpfopbaaW.PrintLast Go.Proofs.YtmplgmlfpfopbaaW.PrintMore
attribute [local go_sem] max2_int min2_int max_two min_two max_three min_three max_four min_four   -- for this text's walks alone
set_option linter.unusedVariables false
set_option linter.unusedSimpArgs false

attribute [local go_sem high] eqA24
attribute [local go_sem high] xorA_u8 xorA_u16 xorA_u32 xorA_u64
/-! ### turnoutlaw01_WordShifts: function 6 -/
def turnoutlaw01_WordShifts.f (k : Nat) (a0_0 : Int) (a0_1 : Int) (a1 : Int) (a2 : Int) : Option (Bool) := (turnoutlaw01_awake.f k).bind fun t296 => (if t296 = true then ((word_Left.f a0_0 a0_1 (wrap64 (Int.tmod (IntKind.u64.wrap (a1)) 130))).bind fun bt297 => ((word_Left.f bt297.1 bt297.2 (wrap64 (Int.tmod (IntKind.u64.wrap (a2)) 130))).bind fun bt299 => ((word_Left.f a0_0 a0_1 (wrap64 ((wrap64 (Int.tmod (IntKind.u64.wrap (a1)) 130)) + (wrap64 (Int.tmod (IntKind.u64.wrap (a2)) 130))))).bind fun bt301 => (if (bt299.1 == bt301.1 && (bt299.2 == bt301.2)) = true then ((word_Right.f a0_0 a0_1 (wrap64 (Int.tmod (IntKind.u64.wrap (a1)) 130))).bind fun bt303 => ((word_Right.f bt303.1 bt303.2 (wrap64 (Int.tmod (IntKind.u64.wrap (a2)) 130))).bind fun bt305 => ((word_Right.f a0_0 a0_1 (wrap64 ((wrap64 (Int.tmod (IntKind.u64.wrap (a1)) 130)) + (wrap64 (Int.tmod (IntKind.u64.wrap (a2)) 130))))).bind fun bt307 => (if (bt305.1 == bt307.1 && (bt305.2 == bt307.2)) = true then ((word_Left.f a0_0 a0_1 1).bind fun bt309 => ((word_Add.f a0_0 a0_1 a0_0 a0_1).bind fun bt311 => (if (bt309.1 == bt311.1 && (bt309.2 == bt311.2)) = true then ((word_Left.f a0_0 a0_1 (wrap64 (Int.tmod (IntKind.u64.wrap (a1)) 130))).bind fun bt313 => ((word_Right.f bt313.1 bt313.2 (wrap64 (Int.tmod (IntKind.u64.wrap (a1)) 130))).bind fun bt315 => ((word_Cut.f a0_0 a0_1 (wrap64 (128 - (wrap64 (Int.tmod (IntKind.u64.wrap (a1)) 130))))).bind fun bt317 => (if (bt315.1 == bt317.1 && (bt315.2 == bt317.2)) = true then ((word_Right.f a0_0 a0_1 (wrap64 (Int.tmod (IntKind.u64.wrap (a1)) 130))).bind fun bt319 => ((word_Left.f bt319.1 bt319.2 (wrap64 (Int.tmod (IntKind.u64.wrap (a1)) 130))).bind fun bt321 => ((word_Cut.f a0_0 a0_1 (wrap64 (Int.tmod (IntKind.u64.wrap (a1)) 130))).bind fun bt323 => ((word_Sub.f a0_0 a0_1 bt323.1 bt323.2).bind fun bt325 => (if (bt321.1 == bt325.1 && (bt321.2 == bt325.2)) = true then ((word_Left.f a0_0 a0_1 (wrap64 (-(wrap64 (Int.tmod (IntKind.u64.wrap (a2)) 130))))).bind fun bt327 => (if (bt327.1 == a0_0 && (bt327.2 == a0_1)) = true then ((word_Right.f a0_0 a0_1 (wrap64 (-(wrap64 (Int.tmod (IntKind.u64.wrap (a2)) 130))))).bind fun bt329 => (some (bt329.1 == a0_0 && (bt329.2 == a0_1)))) else (some false))) else (some false)))))) else (some false))))) else (some false)))) else (some false))))) else (some false))))) else (some false))
theorem turnoutlaw01_WordShifts.mono : ∀ a0 a1 a2 a3 k, LeO (turnoutlaw01_WordShifts.f k a0 a1 a2 a3) (turnoutlaw01_WordShifts.f (k + 1) a0 a1 a2 a3) := by
  intro a0 a1 a2 a3 k
  unfold turnoutlaw01_WordShifts.f
  repeat' first
      | (with_reducible exact turnoutlaw01_awake.mono _)
      | (with_reducible exact LeO.refl _)
      | (with_reducible exact LeO.none _)
      | (with_reducible refine LeO.ite ?_ ?_)
      | (with_reducible refine LeO.bind ?_ (fun _ => ?_))
      | exact turnoutlaw01_awake.mono _
      | exact LeO.none _
      | refine LeO.ite ?_ ?_
      | refine LeO.bind ?_ (fun _ => ?_)
def turnoutlaw01_WordShifts.T3 : Bool × List (List Nat × List Nat) := (true, [([], []), ([0, 0], [0]), ([1], [1]), ([1], [1]), ([2, 3, 1, 1], [1, 2, 3]), ([1], [1]), ([4, 5, 4, 1], [1, 4, 5]), ([1], [1]), ([1], [1]), ([1], [1]), ([8, 9, 1], [1, 8, 9]), ([7, 10, 6, 1], [1, 7, 10]), ([6, 11, 1], [1, 6, 11]), ([1, 12], [1, 12]), ([13, 11], [13]), ([14], [14]), ([14], [14]), ([15, 16, 14, 14], [14, 15, 16]), ([14], [14]), ([17, 18, 17, 14], [14, 17, 18]), ([14], [14]), ([14], [14]), ([14], [14]), ([21, 22, 14], [14, 21, 22]), ([20, 23, 19, 14], [14, 20, 23]), ([19, 24, 14], [14, 19, 24]), ([14, 25], [14, 25]), ([26, 24], [26]), ([27], [27]), ([28, 27, 27], [27, 28]), ([27], [27]), ([27], [27]), ([30, 31, 29, 27], [27, 30, 31]), ([29, 32, 27], [27, 29, 32]), ([27, 33], [27, 33]), ([34, 32], [34]), ([35], [35]), ([35], [35]), ([36, 37, 35, 35], [35, 36, 37]), ([35], [35]), ([38, 39, 38, 35], [35, 38, 39]), ([35], [35]), ([35], [35]), ([42, 35], [35, 42]), ([41, 43, 40, 35], [35, 41, 43]), ([40, 44, 35], [35, 40, 44]), ([35, 45], [35, 45]), ([46, 44], [46]), ([47], [47]), ([47], [47]), ([48, 49, 47, 47], [47, 48, 49]), ([47], [47]), ([50, 51, 50, 47], [47, 50, 51]), ([47], [47]), ([47], [47]), ([47], [47]), ([54, 55, 52, 47], [47, 54, 55]), ([53, 56, 56, 47], [47, 53, 56]), ([52, 57, 47], [47, 52, 57]), ([47, 58], [47, 58]), ([59, 57], [59]), ([60], [60]), ([60], [60]), ([62, 60], [60, 62]), ([61, 63, 60, 60], [60, 61, 63]), ([60], [60]), ([64, 65, 60], [60, 64, 65]), ([60, 66], [60, 66]), ([67, 64], [67]), ([68], [68]), ([68], [68]), ([70, 68], [68, 70]), ([69, 71, 68, 68], [68, 69, 71]), ([68], [68]), ([72, 73, 68], [68, 72, 73]), ([68, 74], [68, 74]), ([75, 72, 0, 1, 2, 3, 4, 5, 6, 7, 8, 9, 10, 11, 12, 13, 14, 15, 16, 17, 18, 19, 20, 21, 22, 23, 24, 25, 26, 27, 28, 29, 30, 31, 32, 33, 34, 35, 36, 37, 38, 39, 40, 41, 42, 43, 44, 45, 46, 47, 48, 49, 50, 51, 52, 53, 54, 55, 56, 57, 58, 59, 60, 61, 62, 63, 64, 65, 66, 67, 68, 69, 70, 71, 72, 73, 74, 75], [75])])
def turnoutlaw01_WordShifts.B3 : List Nat := [0, 1, 3, 3, 15, 3, 63, 3, 3, 3, 771, 2047, 4095, 8191, 16383, 32767, 32767, 131071, 32767, 524287, 32767, 32767, 32767, 6324223, 16777215, 33554431, 67108863, 134217727, 268435455, 536870911, 268435455, 268435455, 4294967295, 8589934591, 17179869183, 34359738367, 68719476735, 68719476735, 274877906943, 68719476735, 1099511627775, 68719476735, 68719476735, 4466765987839, 17592186044415, 35184372088831, 70368744177663, 140737488355327, 281474976710655, 281474976710655, 1125899906842623, 281474976710655, 4503599627370495, 281474976710655, 281474976710655, 281474976710655, 63050394783186943, 144115188075855871, 288230376151711743, 576460752303423487, 1152921504606846975, 2305843009213693951, 2305843009213693951, 6917529027641081855, 18446744073709551615, 2305843009213693951, 73786976294838206463, 147573952589676412927, 295147905179352825855, 590295810358705651711, 590295810358705651711, 1770887431076116955135, 4722366482869645213695, 590295810358705651711, 18889465931478580854783, 37778931862957161709567, 75557863725914323419135]
theorem turnoutlaw01_WordShifts.tab3 : rtab .any (opsOf Try.f6 3) = turnoutlaw01_WordShifts.T3 := by kernel_rfl
theorem turnoutlaw01_WordShifts.bits3 : waitsOk turnoutlaw01_WordShifts.T3.2 turnoutlaw01_WordShifts.B3 = true := by kernel_rfl
set_option maxHeartbeats 8000000 in
set_option maxRecDepth 100000 in
theorem turnoutlaw01_WordShifts.calls (k : Nat) (a0_0 : Int) (a0_1 : Int) (a1 : Int) (a2 : Int) (r : Bool) (w : World) (h : turnoutlaw01_WordShifts.f k a0_0 a0_1 a1 a2 = some r) (hr_ : Aside0 (r = true)) (HAW20 : Aside0 (∀ k r, turnoutlaw01_awake.f k = some r → r = true)) :
    Calls Try.prog 6 #[.agg #[.int .u64 a0_0, .int .u64 a0_1], .int .i64 a1, .int .i64 a2] w fun e w' => e = .returned (.bool r) ∧ Below w.heap.size w w' := by
  have hu24 := Try.underlying24
  have HB := Aside0.mk (Below.refl w.heap.size w)
  have H : ((turnoutlaw01_awake.f k).bind fun t296 => (if t296 = true then ((word_Left.f a0_0 a0_1 (wrap64 (Int.tmod (IntKind.u64.wrap (a1)) 130))).bind fun bt297 => ((word_Left.f bt297.1 bt297.2 (wrap64 (Int.tmod (IntKind.u64.wrap (a2)) 130))).bind fun bt299 => ((word_Left.f a0_0 a0_1 (wrap64 ((wrap64 (Int.tmod (IntKind.u64.wrap (a1)) 130)) + (wrap64 (Int.tmod (IntKind.u64.wrap (a2)) 130))))).bind fun bt301 => (if (bt299.1 == bt301.1 && (bt299.2 == bt301.2)) = true then ((word_Right.f a0_0 a0_1 (wrap64 (Int.tmod (IntKind.u64.wrap (a1)) 130))).bind fun bt303 => ((word_Right.f bt303.1 bt303.2 (wrap64 (Int.tmod (IntKind.u64.wrap (a2)) 130))).bind fun bt305 => ((word_Right.f a0_0 a0_1 (wrap64 ((wrap64 (Int.tmod (IntKind.u64.wrap (a1)) 130)) + (wrap64 (Int.tmod (IntKind.u64.wrap (a2)) 130))))).bind fun bt307 => (if (bt305.1 == bt307.1 && (bt305.2 == bt307.2)) = true then ((word_Left.f a0_0 a0_1 1).bind fun bt309 => ((word_Add.f a0_0 a0_1 a0_0 a0_1).bind fun bt311 => (if (bt309.1 == bt311.1 && (bt309.2 == bt311.2)) = true then ((word_Left.f a0_0 a0_1 (wrap64 (Int.tmod (IntKind.u64.wrap (a1)) 130))).bind fun bt313 => ((word_Right.f bt313.1 bt313.2 (wrap64 (Int.tmod (IntKind.u64.wrap (a1)) 130))).bind fun bt315 => ((word_Cut.f a0_0 a0_1 (wrap64 (128 - (wrap64 (Int.tmod (IntKind.u64.wrap (a1)) 130))))).bind fun bt317 => (if (bt315.1 == bt317.1 && (bt315.2 == bt317.2)) = true then ((word_Right.f a0_0 a0_1 (wrap64 (Int.tmod (IntKind.u64.wrap (a1)) 130))).bind fun bt319 => ((word_Left.f bt319.1 bt319.2 (wrap64 (Int.tmod (IntKind.u64.wrap (a1)) 130))).bind fun bt321 => ((word_Cut.f a0_0 a0_1 (wrap64 (Int.tmod (IntKind.u64.wrap (a1)) 130))).bind fun bt323 => ((word_Sub.f a0_0 a0_1 bt323.1 bt323.2).bind fun bt325 => (if (bt321.1 == bt325.1 && (bt321.2 == bt325.2)) = true then ((word_Left.f a0_0 a0_1 (wrap64 (-(wrap64 (Int.tmod (IntKind.u64.wrap (a2)) 130))))).bind fun bt327 => (if (bt327.1 == a0_0 && (bt327.2 == a0_1)) = true then ((word_Right.f a0_0 a0_1 (wrap64 (-(wrap64 (Int.tmod (IntKind.u64.wrap (a2)) 130))))).bind fun bt329 => (some (bt329.1 == a0_0 && (bt329.2 == a0_1)))) else (some false))) else (some false)))))) else (some false))))) else (some false)))) else (some false))))) else (some false))))) else (some false))) = some r := h
  clear h
  replace H := Option.bind_eq_some_iff.mp H
  obtain ⟨t296, A40, H⟩ := H
  replace H : (if t296 = true then ((word_Left.f a0_0 a0_1 (wrap64 (Int.tmod (IntKind.u64.wrap (a1)) 130))).bind fun bt297 => ((word_Left.f bt297.1 bt297.2 (wrap64 (Int.tmod (IntKind.u64.wrap (a2)) 130))).bind fun bt299 => ((word_Left.f a0_0 a0_1 (wrap64 ((wrap64 (Int.tmod (IntKind.u64.wrap (a1)) 130)) + (wrap64 (Int.tmod (IntKind.u64.wrap (a2)) 130))))).bind fun bt301 => (if (bt299.1 == bt301.1 && (bt299.2 == bt301.2)) = true then ((word_Right.f a0_0 a0_1 (wrap64 (Int.tmod (IntKind.u64.wrap (a1)) 130))).bind fun bt303 => ((word_Right.f bt303.1 bt303.2 (wrap64 (Int.tmod (IntKind.u64.wrap (a2)) 130))).bind fun bt305 => ((word_Right.f a0_0 a0_1 (wrap64 ((wrap64 (Int.tmod (IntKind.u64.wrap (a1)) 130)) + (wrap64 (Int.tmod (IntKind.u64.wrap (a2)) 130))))).bind fun bt307 => (if (bt305.1 == bt307.1 && (bt305.2 == bt307.2)) = true then ((word_Left.f a0_0 a0_1 1).bind fun bt309 => ((word_Add.f a0_0 a0_1 a0_0 a0_1).bind fun bt311 => (if (bt309.1 == bt311.1 && (bt309.2 == bt311.2)) = true then ((word_Left.f a0_0 a0_1 (wrap64 (Int.tmod (IntKind.u64.wrap (a1)) 130))).bind fun bt313 => ((word_Right.f bt313.1 bt313.2 (wrap64 (Int.tmod (IntKind.u64.wrap (a1)) 130))).bind fun bt315 => ((word_Cut.f a0_0 a0_1 (wrap64 (128 - (wrap64 (Int.tmod (IntKind.u64.wrap (a1)) 130))))).bind fun bt317 => (if (bt315.1 == bt317.1 && (bt315.2 == bt317.2)) = true then ((word_Right.f a0_0 a0_1 (wrap64 (Int.tmod (IntKind.u64.wrap (a1)) 130))).bind fun bt319 => ((word_Left.f bt319.1 bt319.2 (wrap64 (Int.tmod (IntKind.u64.wrap (a1)) 130))).bind fun bt321 => ((word_Cut.f a0_0 a0_1 (wrap64 (Int.tmod (IntKind.u64.wrap (a1)) 130))).bind fun bt323 => ((word_Sub.f a0_0 a0_1 bt323.1 bt323.2).bind fun bt325 => (if (bt321.1 == bt325.1 && (bt321.2 == bt325.2)) = true then ((word_Left.f a0_0 a0_1 (wrap64 (-(wrap64 (Int.tmod (IntKind.u64.wrap (a2)) 130))))).bind fun bt327 => (if (bt327.1 == a0_0 && (bt327.2 == a0_1)) = true then ((word_Right.f a0_0 a0_1 (wrap64 (-(wrap64 (Int.tmod (IntKind.u64.wrap (a2)) 130))))).bind fun bt329 => (some (bt329.1 == a0_0 && (bt329.2 == a0_1)))) else (some false))) else (some false)))))) else (some false))))) else (some false)))) else (some false))))) else (some false))))) else (some false)) = some r := H
  have A4 := Aside0.mk A40
  clear A40
  by_cases c5 : t296 = true
  · subst c5
    have H1 : ((word_Left.f a0_0 a0_1 (wrap64 (Int.tmod (IntKind.u64.wrap (a1)) 130))).bind fun bt297 => ((word_Left.f bt297.1 bt297.2 (wrap64 (Int.tmod (IntKind.u64.wrap (a2)) 130))).bind fun bt299 => ((word_Left.f a0_0 a0_1 (wrap64 ((wrap64 (Int.tmod (IntKind.u64.wrap (a1)) 130)) + (wrap64 (Int.tmod (IntKind.u64.wrap (a2)) 130))))).bind fun bt301 => (if (bt299.1 == bt301.1 && (bt299.2 == bt301.2)) = true then ((word_Right.f a0_0 a0_1 (wrap64 (Int.tmod (IntKind.u64.wrap (a1)) 130))).bind fun bt303 => ((word_Right.f bt303.1 bt303.2 (wrap64 (Int.tmod (IntKind.u64.wrap (a2)) 130))).bind fun bt305 => ((word_Right.f a0_0 a0_1 (wrap64 ((wrap64 (Int.tmod (IntKind.u64.wrap (a1)) 130)) + (wrap64 (Int.tmod (IntKind.u64.wrap (a2)) 130))))).bind fun bt307 => (if (bt305.1 == bt307.1 && (bt305.2 == bt307.2)) = true then ((word_Left.f a0_0 a0_1 1).bind fun bt309 => ((word_Add.f a0_0 a0_1 a0_0 a0_1).bind fun bt311 => (if (bt309.1 == bt311.1 && (bt309.2 == bt311.2)) = true then ((word_Left.f a0_0 a0_1 (wrap64 (Int.tmod (IntKind.u64.wrap (a1)) 130))).bind fun bt313 => ((word_Right.f bt313.1 bt313.2 (wrap64 (Int.tmod (IntKind.u64.wrap (a1)) 130))).bind fun bt315 => ((word_Cut.f a0_0 a0_1 (wrap64 (128 - (wrap64 (Int.tmod (IntKind.u64.wrap (a1)) 130))))).bind fun bt317 => (if (bt315.1 == bt317.1 && (bt315.2 == bt317.2)) = true then ((word_Right.f a0_0 a0_1 (wrap64 (Int.tmod (IntKind.u64.wrap (a1)) 130))).bind fun bt319 => ((word_Left.f bt319.1 bt319.2 (wrap64 (Int.tmod (IntKind.u64.wrap (a1)) 130))).bind fun bt321 => ((word_Cut.f a0_0 a0_1 (wrap64 (Int.tmod (IntKind.u64.wrap (a1)) 130))).bind fun bt323 => ((word_Sub.f a0_0 a0_1 bt323.1 bt323.2).bind fun bt325 => (if (bt321.1 == bt325.1 && (bt321.2 == bt325.2)) = true then ((word_Left.f a0_0 a0_1 (wrap64 (-(wrap64 (Int.tmod (IntKind.u64.wrap (a2)) 130))))).bind fun bt327 => (if (bt327.1 == a0_0 && (bt327.2 == a0_1)) = true then ((word_Right.f a0_0 a0_1 (wrap64 (-(wrap64 (Int.tmod (IntKind.u64.wrap (a2)) 130))))).bind fun bt329 => (some (bt329.1 == a0_0 && (bt329.2 == a0_1)))) else (some false))) else (some false)))))) else (some false))))) else (some false)))) else (some false))))) else (some false))))) = some r := by rw [if_pos rfl] at H; exact H
    clear H; have H := H1; clear H1
    replace H := Option.bind_eq_some_iff.mp H
    obtain ⟨⟨t297, t298⟩, A60, H⟩ := H
    replace H : ((word_Left.f t297 t298 (wrap64 (Int.tmod (IntKind.u64.wrap (a2)) 130))).bind fun bt299 => ((word_Left.f a0_0 a0_1 (wrap64 ((wrap64 (Int.tmod (IntKind.u64.wrap (a1)) 130)) + (wrap64 (Int.tmod (IntKind.u64.wrap (a2)) 130))))).bind fun bt301 => (if (bt299.1 == bt301.1 && (bt299.2 == bt301.2)) = true then ((word_Right.f a0_0 a0_1 (wrap64 (Int.tmod (IntKind.u64.wrap (a1)) 130))).bind fun bt303 => ((word_Right.f bt303.1 bt303.2 (wrap64 (Int.tmod (IntKind.u64.wrap (a2)) 130))).bind fun bt305 => ((word_Right.f a0_0 a0_1 (wrap64 ((wrap64 (Int.tmod (IntKind.u64.wrap (a1)) 130)) + (wrap64 (Int.tmod (IntKind.u64.wrap (a2)) 130))))).bind fun bt307 => (if (bt305.1 == bt307.1 && (bt305.2 == bt307.2)) = true then ((word_Left.f a0_0 a0_1 1).bind fun bt309 => ((word_Add.f a0_0 a0_1 a0_0 a0_1).bind fun bt311 => (if (bt309.1 == bt311.1 && (bt309.2 == bt311.2)) = true then ((word_Left.f a0_0 a0_1 (wrap64 (Int.tmod (IntKind.u64.wrap (a1)) 130))).bind fun bt313 => ((word_Right.f bt313.1 bt313.2 (wrap64 (Int.tmod (IntKind.u64.wrap (a1)) 130))).bind fun bt315 => ((word_Cut.f a0_0 a0_1 (wrap64 (128 - (wrap64 (Int.tmod (IntKind.u64.wrap (a1)) 130))))).bind fun bt317 => (if (bt315.1 == bt317.1 && (bt315.2 == bt317.2)) = true then ((word_Right.f a0_0 a0_1 (wrap64 (Int.tmod (IntKind.u64.wrap (a1)) 130))).bind fun bt319 => ((word_Left.f bt319.1 bt319.2 (wrap64 (Int.tmod (IntKind.u64.wrap (a1)) 130))).bind fun bt321 => ((word_Cut.f a0_0 a0_1 (wrap64 (Int.tmod (IntKind.u64.wrap (a1)) 130))).bind fun bt323 => ((word_Sub.f a0_0 a0_1 bt323.1 bt323.2).bind fun bt325 => (if (bt321.1 == bt325.1 && (bt321.2 == bt325.2)) = true then ((word_Left.f a0_0 a0_1 (wrap64 (-(wrap64 (Int.tmod (IntKind.u64.wrap (a2)) 130))))).bind fun bt327 => (if (bt327.1 == a0_0 && (bt327.2 == a0_1)) = true then ((word_Right.f a0_0 a0_1 (wrap64 (-(wrap64 (Int.tmod (IntKind.u64.wrap (a2)) 130))))).bind fun bt329 => (some (bt329.1 == a0_0 && (bt329.2 == a0_1)))) else (some false))) else (some false)))))) else (some false))))) else (some false)))) else (some false))))) else (some false)))) = some r := H
    have A6 := Aside0.mk A60
    clear A60
    replace H := Option.bind_eq_some_iff.mp H
    obtain ⟨⟨t299, t300⟩, A70, H⟩ := H
    replace H : ((word_Left.f a0_0 a0_1 (wrap64 ((wrap64 (Int.tmod (IntKind.u64.wrap (a1)) 130)) + (wrap64 (Int.tmod (IntKind.u64.wrap (a2)) 130))))).bind fun bt301 => (if (t299 == bt301.1 && (t300 == bt301.2)) = true then ((word_Right.f a0_0 a0_1 (wrap64 (Int.tmod (IntKind.u64.wrap (a1)) 130))).bind fun bt303 => ((word_Right.f bt303.1 bt303.2 (wrap64 (Int.tmod (IntKind.u64.wrap (a2)) 130))).bind fun bt305 => ((word_Right.f a0_0 a0_1 (wrap64 ((wrap64 (Int.tmod (IntKind.u64.wrap (a1)) 130)) + (wrap64 (Int.tmod (IntKind.u64.wrap (a2)) 130))))).bind fun bt307 => (if (bt305.1 == bt307.1 && (bt305.2 == bt307.2)) = true then ((word_Left.f a0_0 a0_1 1).bind fun bt309 => ((word_Add.f a0_0 a0_1 a0_0 a0_1).bind fun bt311 => (if (bt309.1 == bt311.1 && (bt309.2 == bt311.2)) = true then ((word_Left.f a0_0 a0_1 (wrap64 (Int.tmod (IntKind.u64.wrap (a1)) 130))).bind fun bt313 => ((word_Right.f bt313.1 bt313.2 (wrap64 (Int.tmod (IntKind.u64.wrap (a1)) 130))).bind fun bt315 => ((word_Cut.f a0_0 a0_1 (wrap64 (128 - (wrap64 (Int.tmod (IntKind.u64.wrap (a1)) 130))))).bind fun bt317 => (if (bt315.1 == bt317.1 && (bt315.2 == bt317.2)) = true then ((word_Right.f a0_0 a0_1 (wrap64 (Int.tmod (IntKind.u64.wrap (a1)) 130))).bind fun bt319 => ((word_Left.f bt319.1 bt319.2 (wrap64 (Int.tmod (IntKind.u64.wrap (a1)) 130))).bind fun bt321 => ((word_Cut.f a0_0 a0_1 (wrap64 (Int.tmod (IntKind.u64.wrap (a1)) 130))).bind fun bt323 => ((word_Sub.f a0_0 a0_1 bt323.1 bt323.2).bind fun bt325 => (if (bt321.1 == bt325.1 && (bt321.2 == bt325.2)) = true then ((word_Left.f a0_0 a0_1 (wrap64 (-(wrap64 (Int.tmod (IntKind.u64.wrap (a2)) 130))))).bind fun bt327 => (if (bt327.1 == a0_0 && (bt327.2 == a0_1)) = true then ((word_Right.f a0_0 a0_1 (wrap64 (-(wrap64 (Int.tmod (IntKind.u64.wrap (a2)) 130))))).bind fun bt329 => (some (bt329.1 == a0_0 && (bt329.2 == a0_1)))) else (some false))) else (some false)))))) else (some false))))) else (some false)))) else (some false))))) else (some false))) = some r := H
    have A7 := Aside0.mk A70
    clear A70
    replace H := Option.bind_eq_some_iff.mp H
    obtain ⟨⟨t301, t302⟩, A80, H⟩ := H
    replace H : (if (t299 == t301 && (t300 == t302)) = true then ((word_Right.f a0_0 a0_1 (wrap64 (Int.tmod (IntKind.u64.wrap (a1)) 130))).bind fun bt303 => ((word_Right.f bt303.1 bt303.2 (wrap64 (Int.tmod (IntKind.u64.wrap (a2)) 130))).bind fun bt305 => ((word_Right.f a0_0 a0_1 (wrap64 ((wrap64 (Int.tmod (IntKind.u64.wrap (a1)) 130)) + (wrap64 (Int.tmod (IntKind.u64.wrap (a2)) 130))))).bind fun bt307 => (if (bt305.1 == bt307.1 && (bt305.2 == bt307.2)) = true then ((word_Left.f a0_0 a0_1 1).bind fun bt309 => ((word_Add.f a0_0 a0_1 a0_0 a0_1).bind fun bt311 => (if (bt309.1 == bt311.1 && (bt309.2 == bt311.2)) = true then ((word_Left.f a0_0 a0_1 (wrap64 (Int.tmod (IntKind.u64.wrap (a1)) 130))).bind fun bt313 => ((word_Right.f bt313.1 bt313.2 (wrap64 (Int.tmod (IntKind.u64.wrap (a1)) 130))).bind fun bt315 => ((word_Cut.f a0_0 a0_1 (wrap64 (128 - (wrap64 (Int.tmod (IntKind.u64.wrap (a1)) 130))))).bind fun bt317 => (if (bt315.1 == bt317.1 && (bt315.2 == bt317.2)) = true then ((word_Right.f a0_0 a0_1 (wrap64 (Int.tmod (IntKind.u64.wrap (a1)) 130))).bind fun bt319 => ((word_Left.f bt319.1 bt319.2 (wrap64 (Int.tmod (IntKind.u64.wrap (a1)) 130))).bind fun bt321 => ((word_Cut.f a0_0 a0_1 (wrap64 (Int.tmod (IntKind.u64.wrap (a1)) 130))).bind fun bt323 => ((word_Sub.f a0_0 a0_1 bt323.1 bt323.2).bind fun bt325 => (if (bt321.1 == bt325.1 && (bt321.2 == bt325.2)) = true then ((word_Left.f a0_0 a0_1 (wrap64 (-(wrap64 (Int.tmod (IntKind.u64.wrap (a2)) 130))))).bind fun bt327 => (if (bt327.1 == a0_0 && (bt327.2 == a0_1)) = true then ((word_Right.f a0_0 a0_1 (wrap64 (-(wrap64 (Int.tmod (IntKind.u64.wrap (a2)) 130))))).bind fun bt329 => (some (bt329.1 == a0_0 && (bt329.2 == a0_1)))) else (some false))) else (some false)))))) else (some false))))) else (some false)))) else (some false))))) else (some false)) = some r := H
    have A8 := Aside0.mk A80
    clear A80
    by_cases c9 : (t299 == t301 && (t300 == t302)) = true
    · rw [if_pos c9] at H
      have c9b0 : (t299 == t301 && (t300 == t302)) = true := c9
      (try (have c9b1 : decide (t299 = t301 && (t300 == t302)) = true := by simpa using c9))
      (try (have c9b2 : (t299 == t301 && (t300 == t302)) = true := by simpa using c9))
      clear c9
      replace H := Option.bind_eq_some_iff.mp H
      obtain ⟨⟨t303, t304⟩, A100, H⟩ := H
      replace H : ((word_Right.f t303 t304 (wrap64 (Int.tmod (IntKind.u64.wrap (a2)) 130))).bind fun bt305 => ((word_Right.f a0_0 a0_1 (wrap64 ((wrap64 (Int.tmod (IntKind.u64.wrap (a1)) 130)) + (wrap64 (Int.tmod (IntKind.u64.wrap (a2)) 130))))).bind fun bt307 => (if (bt305.1 == bt307.1 && (bt305.2 == bt307.2)) = true then ((word_Left.f a0_0 a0_1 1).bind fun bt309 => ((word_Add.f a0_0 a0_1 a0_0 a0_1).bind fun bt311 => (if (bt309.1 == bt311.1 && (bt309.2 == bt311.2)) = true then ((word_Left.f a0_0 a0_1 (wrap64 (Int.tmod (IntKind.u64.wrap (a1)) 130))).bind fun bt313 => ((word_Right.f bt313.1 bt313.2 (wrap64 (Int.tmod (IntKind.u64.wrap (a1)) 130))).bind fun bt315 => ((word_Cut.f a0_0 a0_1 (wrap64 (128 - (wrap64 (Int.tmod (IntKind.u64.wrap (a1)) 130))))).bind fun bt317 => (if (bt315.1 == bt317.1 && (bt315.2 == bt317.2)) = true then ((word_Right.f a0_0 a0_1 (wrap64 (Int.tmod (IntKind.u64.wrap (a1)) 130))).bind fun bt319 => ((word_Left.f bt319.1 bt319.2 (wrap64 (Int.tmod (IntKind.u64.wrap (a1)) 130))).bind fun bt321 => ((word_Cut.f a0_0 a0_1 (wrap64 (Int.tmod (IntKind.u64.wrap (a1)) 130))).bind fun bt323 => ((word_Sub.f a0_0 a0_1 bt323.1 bt323.2).bind fun bt325 => (if (bt321.1 == bt325.1 && (bt321.2 == bt325.2)) = true then ((word_Left.f a0_0 a0_1 (wrap64 (-(wrap64 (Int.tmod (IntKind.u64.wrap (a2)) 130))))).bind fun bt327 => (if (bt327.1 == a0_0 && (bt327.2 == a0_1)) = true then ((word_Right.f a0_0 a0_1 (wrap64 (-(wrap64 (Int.tmod (IntKind.u64.wrap (a2)) 130))))).bind fun bt329 => (some (bt329.1 == a0_0 && (bt329.2 == a0_1)))) else (some false))) else (some false)))))) else (some false))))) else (some false)))) else (some false)))) = some r := H
      have A10 := Aside0.mk A100
      clear A100
      replace H := Option.bind_eq_some_iff.mp H
      obtain ⟨⟨t305, t306⟩, A110, H⟩ := H
      replace H : ((word_Right.f a0_0 a0_1 (wrap64 ((wrap64 (Int.tmod (IntKind.u64.wrap (a1)) 130)) + (wrap64 (Int.tmod (IntKind.u64.wrap (a2)) 130))))).bind fun bt307 => (if (t305 == bt307.1 && (t306 == bt307.2)) = true then ((word_Left.f a0_0 a0_1 1).bind fun bt309 => ((word_Add.f a0_0 a0_1 a0_0 a0_1).bind fun bt311 => (if (bt309.1 == bt311.1 && (bt309.2 == bt311.2)) = true then ((word_Left.f a0_0 a0_1 (wrap64 (Int.tmod (IntKind.u64.wrap (a1)) 130))).bind fun bt313 => ((word_Right.f bt313.1 bt313.2 (wrap64 (Int.tmod (IntKind.u64.wrap (a1)) 130))).bind fun bt315 => ((word_Cut.f a0_0 a0_1 (wrap64 (128 - (wrap64 (Int.tmod (IntKind.u64.wrap (a1)) 130))))).bind fun bt317 => (if (bt315.1 == bt317.1 && (bt315.2 == bt317.2)) = true then ((word_Right.f a0_0 a0_1 (wrap64 (Int.tmod (IntKind.u64.wrap (a1)) 130))).bind fun bt319 => ((word_Left.f bt319.1 bt319.2 (wrap64 (Int.tmod (IntKind.u64.wrap (a1)) 130))).bind fun bt321 => ((word_Cut.f a0_0 a0_1 (wrap64 (Int.tmod (IntKind.u64.wrap (a1)) 130))).bind fun bt323 => ((word_Sub.f a0_0 a0_1 bt323.1 bt323.2).bind fun bt325 => (if (bt321.1 == bt325.1 && (bt321.2 == bt325.2)) = true then ((word_Left.f a0_0 a0_1 (wrap64 (-(wrap64 (Int.tmod (IntKind.u64.wrap (a2)) 130))))).bind fun bt327 => (if (bt327.1 == a0_0 && (bt327.2 == a0_1)) = true then ((word_Right.f a0_0 a0_1 (wrap64 (-(wrap64 (Int.tmod (IntKind.u64.wrap (a2)) 130))))).bind fun bt329 => (some (bt329.1 == a0_0 && (bt329.2 == a0_1)))) else (some false))) else (some false)))))) else (some false))))) else (some false)))) else (some false))) = some r := H
      have A11 := Aside0.mk A110
      clear A110
      replace H := Option.bind_eq_some_iff.mp H
      obtain ⟨⟨t307, t308⟩, A120, H⟩ := H
      replace H : (if (t305 == t307 && (t306 == t308)) = true then ((word_Left.f a0_0 a0_1 1).bind fun bt309 => ((word_Add.f a0_0 a0_1 a0_0 a0_1).bind fun bt311 => (if (bt309.1 == bt311.1 && (bt309.2 == bt311.2)) = true then ((word_Left.f a0_0 a0_1 (wrap64 (Int.tmod (IntKind.u64.wrap (a1)) 130))).bind fun bt313 => ((word_Right.f bt313.1 bt313.2 (wrap64 (Int.tmod (IntKind.u64.wrap (a1)) 130))).bind fun bt315 => ((word_Cut.f a0_0 a0_1 (wrap64 (128 - (wrap64 (Int.tmod (IntKind.u64.wrap (a1)) 130))))).bind fun bt317 => (if (bt315.1 == bt317.1 && (bt315.2 == bt317.2)) = true then ((word_Right.f a0_0 a0_1 (wrap64 (Int.tmod (IntKind.u64.wrap (a1)) 130))).bind fun bt319 => ((word_Left.f bt319.1 bt319.2 (wrap64 (Int.tmod (IntKind.u64.wrap (a1)) 130))).bind fun bt321 => ((word_Cut.f a0_0 a0_1 (wrap64 (Int.tmod (IntKind.u64.wrap (a1)) 130))).bind fun bt323 => ((word_Sub.f a0_0 a0_1 bt323.1 bt323.2).bind fun bt325 => (if (bt321.1 == bt325.1 && (bt321.2 == bt325.2)) = true then ((word_Left.f a0_0 a0_1 (wrap64 (-(wrap64 (Int.tmod (IntKind.u64.wrap (a2)) 130))))).bind fun bt327 => (if (bt327.1 == a0_0 && (bt327.2 == a0_1)) = true then ((word_Right.f a0_0 a0_1 (wrap64 (-(wrap64 (Int.tmod (IntKind.u64.wrap (a2)) 130))))).bind fun bt329 => (some (bt329.1 == a0_0 && (bt329.2 == a0_1)))) else (some false))) else (some false)))))) else (some false))))) else (some false)))) else (some false)) = some r := H
      have A12 := Aside0.mk A120
      clear A120
      by_cases c13 : (t305 == t307 && (t306 == t308)) = true
      · rw [if_pos c13] at H
        have c13b0 : (t305 == t307 && (t306 == t308)) = true := c13
        (try (have c13b1 : decide (t305 = t307 && (t306 == t308)) = true := by simpa using c13))
        (try (have c13b2 : (t305 == t307 && (t306 == t308)) = true := by simpa using c13))
        clear c13
        replace H := Option.bind_eq_some_iff.mp H
        obtain ⟨⟨t309, t310⟩, A140, H⟩ := H
        replace H : ((word_Add.f a0_0 a0_1 a0_0 a0_1).bind fun bt311 => (if (t309 == bt311.1 && (t310 == bt311.2)) = true then ((word_Left.f a0_0 a0_1 (wrap64 (Int.tmod (IntKind.u64.wrap (a1)) 130))).bind fun bt313 => ((word_Right.f bt313.1 bt313.2 (wrap64 (Int.tmod (IntKind.u64.wrap (a1)) 130))).bind fun bt315 => ((word_Cut.f a0_0 a0_1 (wrap64 (128 - (wrap64 (Int.tmod (IntKind.u64.wrap (a1)) 130))))).bind fun bt317 => (if (bt315.1 == bt317.1 && (bt315.2 == bt317.2)) = true then ((word_Right.f a0_0 a0_1 (wrap64 (Int.tmod (IntKind.u64.wrap (a1)) 130))).bind fun bt319 => ((word_Left.f bt319.1 bt319.2 (wrap64 (Int.tmod (IntKind.u64.wrap (a1)) 130))).bind fun bt321 => ((word_Cut.f a0_0 a0_1 (wrap64 (Int.tmod (IntKind.u64.wrap (a1)) 130))).bind fun bt323 => ((word_Sub.f a0_0 a0_1 bt323.1 bt323.2).bind fun bt325 => (if (bt321.1 == bt325.1 && (bt321.2 == bt325.2)) = true then ((word_Left.f a0_0 a0_1 (wrap64 (-(wrap64 (Int.tmod (IntKind.u64.wrap (a2)) 130))))).bind fun bt327 => (if (bt327.1 == a0_0 && (bt327.2 == a0_1)) = true then ((word_Right.f a0_0 a0_1 (wrap64 (-(wrap64 (Int.tmod (IntKind.u64.wrap (a2)) 130))))).bind fun bt329 => (some (bt329.1 == a0_0 && (bt329.2 == a0_1)))) else (some false))) else (some false)))))) else (some false))))) else (some false))) = some r := H
        have A14 := Aside0.mk A140
        clear A140
        replace H := Option.bind_eq_some_iff.mp H
        obtain ⟨⟨t311, t312⟩, A150, H⟩ := H
        replace H : (if (t309 == t311 && (t310 == t312)) = true then ((word_Left.f a0_0 a0_1 (wrap64 (Int.tmod (IntKind.u64.wrap (a1)) 130))).bind fun bt313 => ((word_Right.f bt313.1 bt313.2 (wrap64 (Int.tmod (IntKind.u64.wrap (a1)) 130))).bind fun bt315 => ((word_Cut.f a0_0 a0_1 (wrap64 (128 - (wrap64 (Int.tmod (IntKind.u64.wrap (a1)) 130))))).bind fun bt317 => (if (bt315.1 == bt317.1 && (bt315.2 == bt317.2)) = true then ((word_Right.f a0_0 a0_1 (wrap64 (Int.tmod (IntKind.u64.wrap (a1)) 130))).bind fun bt319 => ((word_Left.f bt319.1 bt319.2 (wrap64 (Int.tmod (IntKind.u64.wrap (a1)) 130))).bind fun bt321 => ((word_Cut.f a0_0 a0_1 (wrap64 (Int.tmod (IntKind.u64.wrap (a1)) 130))).bind fun bt323 => ((word_Sub.f a0_0 a0_1 bt323.1 bt323.2).bind fun bt325 => (if (bt321.1 == bt325.1 && (bt321.2 == bt325.2)) = true then ((word_Left.f a0_0 a0_1 (wrap64 (-(wrap64 (Int.tmod (IntKind.u64.wrap (a2)) 130))))).bind fun bt327 => (if (bt327.1 == a0_0 && (bt327.2 == a0_1)) = true then ((word_Right.f a0_0 a0_1 (wrap64 (-(wrap64 (Int.tmod (IntKind.u64.wrap (a2)) 130))))).bind fun bt329 => (some (bt329.1 == a0_0 && (bt329.2 == a0_1)))) else (some false))) else (some false)))))) else (some false))))) else (some false)) = some r := H
        have A15 := Aside0.mk A150
        clear A150
        by_cases c16 : (t309 == t311 && (t310 == t312)) = true
        · rw [if_pos c16] at H
          have c16b0 : (t309 == t311 && (t310 == t312)) = true := c16
          (try (have c16b1 : decide (t309 = t311 && (t310 == t312)) = true := by simpa using c16))
          (try (have c16b2 : (t309 == t311 && (t310 == t312)) = true := by simpa using c16))
          clear c16
          replace H := Option.bind_eq_some_iff.mp H
          obtain ⟨⟨t313, t314⟩, A170, H⟩ := H
          replace H : ((word_Right.f t313 t314 (wrap64 (Int.tmod (IntKind.u64.wrap (a1)) 130))).bind fun bt315 => ((word_Cut.f a0_0 a0_1 (wrap64 (128 - (wrap64 (Int.tmod (IntKind.u64.wrap (a1)) 130))))).bind fun bt317 => (if (bt315.1 == bt317.1 && (bt315.2 == bt317.2)) = true then ((word_Right.f a0_0 a0_1 (wrap64 (Int.tmod (IntKind.u64.wrap (a1)) 130))).bind fun bt319 => ((word_Left.f bt319.1 bt319.2 (wrap64 (Int.tmod (IntKind.u64.wrap (a1)) 130))).bind fun bt321 => ((word_Cut.f a0_0 a0_1 (wrap64 (Int.tmod (IntKind.u64.wrap (a1)) 130))).bind fun bt323 => ((word_Sub.f a0_0 a0_1 bt323.1 bt323.2).bind fun bt325 => (if (bt321.1 == bt325.1 && (bt321.2 == bt325.2)) = true then ((word_Left.f a0_0 a0_1 (wrap64 (-(wrap64 (Int.tmod (IntKind.u64.wrap (a2)) 130))))).bind fun bt327 => (if (bt327.1 == a0_0 && (bt327.2 == a0_1)) = true then ((word_Right.f a0_0 a0_1 (wrap64 (-(wrap64 (Int.tmod (IntKind.u64.wrap (a2)) 130))))).bind fun bt329 => (some (bt329.1 == a0_0 && (bt329.2 == a0_1)))) else (some false))) else (some false)))))) else (some false)))) = some r := H
          have hsame_ := Option.some.inj (A6.out.symm.trans A170)
          simp only [Prod.mk.injEq] at hsame_
          obtain ⟨rfl, rfl⟩ := hsame_
          clear A170
          replace H := Option.bind_eq_some_iff.mp H
          obtain ⟨⟨t315, t316⟩, A180, H⟩ := H
          replace H : ((word_Cut.f a0_0 a0_1 (wrap64 (128 - (wrap64 (Int.tmod (IntKind.u64.wrap (a1)) 130))))).bind fun bt317 => (if (t315 == bt317.1 && (t316 == bt317.2)) = true then ((word_Right.f a0_0 a0_1 (wrap64 (Int.tmod (IntKind.u64.wrap (a1)) 130))).bind fun bt319 => ((word_Left.f bt319.1 bt319.2 (wrap64 (Int.tmod (IntKind.u64.wrap (a1)) 130))).bind fun bt321 => ((word_Cut.f a0_0 a0_1 (wrap64 (Int.tmod (IntKind.u64.wrap (a1)) 130))).bind fun bt323 => ((word_Sub.f a0_0 a0_1 bt323.1 bt323.2).bind fun bt325 => (if (bt321.1 == bt325.1 && (bt321.2 == bt325.2)) = true then ((word_Left.f a0_0 a0_1 (wrap64 (-(wrap64 (Int.tmod (IntKind.u64.wrap (a2)) 130))))).bind fun bt327 => (if (bt327.1 == a0_0 && (bt327.2 == a0_1)) = true then ((word_Right.f a0_0 a0_1 (wrap64 (-(wrap64 (Int.tmod (IntKind.u64.wrap (a2)) 130))))).bind fun bt329 => (some (bt329.1 == a0_0 && (bt329.2 == a0_1)))) else (some false))) else (some false)))))) else (some false))) = some r := H
          have A18 := Aside0.mk A180
          clear A180
          replace H := Option.bind_eq_some_iff.mp H
          obtain ⟨⟨t317, t318⟩, A190, H⟩ := H
          replace H : (if (t315 == t317 && (t316 == t318)) = true then ((word_Right.f a0_0 a0_1 (wrap64 (Int.tmod (IntKind.u64.wrap (a1)) 130))).bind fun bt319 => ((word_Left.f bt319.1 bt319.2 (wrap64 (Int.tmod (IntKind.u64.wrap (a1)) 130))).bind fun bt321 => ((word_Cut.f a0_0 a0_1 (wrap64 (Int.tmod (IntKind.u64.wrap (a1)) 130))).bind fun bt323 => ((word_Sub.f a0_0 a0_1 bt323.1 bt323.2).bind fun bt325 => (if (bt321.1 == bt325.1 && (bt321.2 == bt325.2)) = true then ((word_Left.f a0_0 a0_1 (wrap64 (-(wrap64 (Int.tmod (IntKind.u64.wrap (a2)) 130))))).bind fun bt327 => (if (bt327.1 == a0_0 && (bt327.2 == a0_1)) = true then ((word_Right.f a0_0 a0_1 (wrap64 (-(wrap64 (Int.tmod (IntKind.u64.wrap (a2)) 130))))).bind fun bt329 => (some (bt329.1 == a0_0 && (bt329.2 == a0_1)))) else (some false))) else (some false)))))) else (some false)) = some r := H
          have A19 := Aside0.mk A190
          clear A190
          by_cases c20 : (t315 == t317 && (t316 == t318)) = true
          · rw [if_pos c20] at H
            have c20b0 : (t315 == t317 && (t316 == t318)) = true := c20
            (try (have c20b1 : decide (t315 = t317 && (t316 == t318)) = true := by simpa using c20))
            (try (have c20b2 : (t315 == t317 && (t316 == t318)) = true := by simpa using c20))
            clear c20
            replace H := Option.bind_eq_some_iff.mp H
            obtain ⟨⟨t319, t320⟩, A210, H⟩ := H
            replace H : ((word_Left.f t319 t320 (wrap64 (Int.tmod (IntKind.u64.wrap (a1)) 130))).bind fun bt321 => ((word_Cut.f a0_0 a0_1 (wrap64 (Int.tmod (IntKind.u64.wrap (a1)) 130))).bind fun bt323 => ((word_Sub.f a0_0 a0_1 bt323.1 bt323.2).bind fun bt325 => (if (bt321.1 == bt325.1 && (bt321.2 == bt325.2)) = true then ((word_Left.f a0_0 a0_1 (wrap64 (-(wrap64 (Int.tmod (IntKind.u64.wrap (a2)) 130))))).bind fun bt327 => (if (bt327.1 == a0_0 && (bt327.2 == a0_1)) = true then ((word_Right.f a0_0 a0_1 (wrap64 (-(wrap64 (Int.tmod (IntKind.u64.wrap (a2)) 130))))).bind fun bt329 => (some (bt329.1 == a0_0 && (bt329.2 == a0_1)))) else (some false))) else (some false))))) = some r := H
            have hsame_ := Option.some.inj (A10.out.symm.trans A210)
            simp only [Prod.mk.injEq] at hsame_
            obtain ⟨rfl, rfl⟩ := hsame_
            clear A210
            replace H := Option.bind_eq_some_iff.mp H
            obtain ⟨⟨t321, t322⟩, A220, H⟩ := H
            replace H : ((word_Cut.f a0_0 a0_1 (wrap64 (Int.tmod (IntKind.u64.wrap (a1)) 130))).bind fun bt323 => ((word_Sub.f a0_0 a0_1 bt323.1 bt323.2).bind fun bt325 => (if (t321 == bt325.1 && (t322 == bt325.2)) = true then ((word_Left.f a0_0 a0_1 (wrap64 (-(wrap64 (Int.tmod (IntKind.u64.wrap (a2)) 130))))).bind fun bt327 => (if (bt327.1 == a0_0 && (bt327.2 == a0_1)) = true then ((word_Right.f a0_0 a0_1 (wrap64 (-(wrap64 (Int.tmod (IntKind.u64.wrap (a2)) 130))))).bind fun bt329 => (some (bt329.1 == a0_0 && (bt329.2 == a0_1)))) else (some false))) else (some false)))) = some r := H
            have A22 := Aside0.mk A220
            clear A220
            replace H := Option.bind_eq_some_iff.mp H
            obtain ⟨⟨t323, t324⟩, A230, H⟩ := H
            replace H : ((word_Sub.f a0_0 a0_1 t323 t324).bind fun bt325 => (if (t321 == bt325.1 && (t322 == bt325.2)) = true then ((word_Left.f a0_0 a0_1 (wrap64 (-(wrap64 (Int.tmod (IntKind.u64.wrap (a2)) 130))))).bind fun bt327 => (if (bt327.1 == a0_0 && (bt327.2 == a0_1)) = true then ((word_Right.f a0_0 a0_1 (wrap64 (-(wrap64 (Int.tmod (IntKind.u64.wrap (a2)) 130))))).bind fun bt329 => (some (bt329.1 == a0_0 && (bt329.2 == a0_1)))) else (some false))) else (some false))) = some r := H
            have A23 := Aside0.mk A230
            clear A230
            replace H := Option.bind_eq_some_iff.mp H
            obtain ⟨⟨t325, t326⟩, A240, H⟩ := H
            replace H : (if (t321 == t325 && (t322 == t326)) = true then ((word_Left.f a0_0 a0_1 (wrap64 (-(wrap64 (Int.tmod (IntKind.u64.wrap (a2)) 130))))).bind fun bt327 => (if (bt327.1 == a0_0 && (bt327.2 == a0_1)) = true then ((word_Right.f a0_0 a0_1 (wrap64 (-(wrap64 (Int.tmod (IntKind.u64.wrap (a2)) 130))))).bind fun bt329 => (some (bt329.1 == a0_0 && (bt329.2 == a0_1)))) else (some false))) else (some false)) = some r := H
            have A24 := Aside0.mk A240
            clear A240
            by_cases c25 : (t321 == t325 && (t322 == t326)) = true
            · rw [if_pos c25] at H
              have c25b0 : (t321 == t325 && (t322 == t326)) = true := c25
              (try (have c25b1 : decide (t321 = t325 && (t322 == t326)) = true := by simpa using c25))
              (try (have c25b2 : (t321 == t325 && (t322 == t326)) = true := by simpa using c25))
              clear c25
              replace H := Option.bind_eq_some_iff.mp H
              obtain ⟨⟨t327, t328⟩, A260, H⟩ := H
              replace H : (if (t327 == a0_0 && (t328 == a0_1)) = true then ((word_Right.f a0_0 a0_1 (wrap64 (-(wrap64 (Int.tmod (IntKind.u64.wrap (a2)) 130))))).bind fun bt329 => (some (bt329.1 == a0_0 && (bt329.2 == a0_1)))) else (some false)) = some r := H
              have A26 := Aside0.mk A260
              clear A260
              by_cases c27 : (t327 == a0_0 && (t328 == a0_1)) = true
              · rw [if_pos c27] at H
                have c27b0 : (t327 == a0_0 && (t328 == a0_1)) = true := c27
                (try (have c27b1 : decide (t327 = a0_0 && (t328 == a0_1)) = true := by simpa using c27))
                (try (have c27b2 : (t327 == a0_0 && (t328 == a0_1)) = true := by simpa using c27))
                clear c27
                replace H := Option.bind_eq_some_iff.mp H
                obtain ⟨⟨t329, t330⟩, A280, H⟩ := H
                replace H : (some (t329 == a0_0 && (t330 == a0_1))) = some r := H
                have A28 := Aside0.mk A280
                clear A280
                obtain rfl := Option.some.inj H
                go_enter Try.func6, Try.ntmps6
                try go_wp2_with (first | ((with_reducible refine gate_dst (N := 3) rfl ?_); refine box_event ?hg (N := 3) ?hd (cs := #[.int .u64 a0_0, .int .u64 a0_1]) (t := 24) ?hr ?_; (case hd => rfl); (case hg => rfl); (case hr => first | (go_simp; done) | (go_simp; rfl)); intro gb295 hg w29 hbox hb; have n0_ := Aside0.mk (below_step (by repeat (first | (with_reducible first | exact HB.out | apply below_alloc | apply pw_below_drewN | apply below_drew1) | exact HB.out)) hb); have n1_ := Aside0.mk (hbox); have n2_ := Aside0.mk ((by rw [hg]; exact (below_size (by repeat (first | (with_reducible first | exact HB.out | apply below_alloc | apply pw_below_drewN | apply below_drew1) | exact HB.out))) : w.heap.size ≤ gb295)); have n3_ := Aside0.mk ((by rw [hg]; exact (below_size (by repeat (first | (with_reducible first | exact HB.out | apply below_alloc | apply pw_below_drewN | apply below_drew1) | exact HB.out))) : w.heap.size ≤ gb295)); clear HB; have HB := n0_; have BK295 := n1_; have GW295 := n2_; have GE295 := n3_; clear n0_ n1_ n2_ n3_; clear hb hbox hg))
                have n0_ := Aside0.mk (blk_drew BK295.out); have n1_ := Aside0.mk (below_drew1 HB.out); clear BK295; clear HB; have BK295 := n0_; have HB := n1_; clear n0_ n1_
                refine start_ (n := 77) (S := fun w' => w'.cell? ⟨gb295, 0, none⟩ = some (.int .u64 a0_0) ∧ w'.cell? ⟨gb295, 1, none⟩ = some (.int .u64 a0_1)) (ds := []) #[false, false, false, false, false, false, false, false, false, false, false, false, false, false, false, false, false, false, false, false, false, false, false, false, false, false, false, false, false, false, false, false, false, false, false, false, false, false, false, false, false, false, false, false, false, false, false, false, false, false, false, false, false, false, false, false, false, false, false, false, false, false, false, false, false, false, false, false, false, false, false, false, false, false, false, false, false] (by kernel_rfl) rfl rfl ⟨(blk_cell BK295.out 0).trans rfl, (blk_cell BK295.out 1).trans rfl⟩ (fun hHeld => ?_); refine with_tabW turnoutlaw01_WordShifts.tab3 turnoutlaw01_WordShifts.bits3 (fun HT_ HW_ => ?_)
                generalize w29.drew = w30 at BK295 HB hHeld ⊢
                refine one_ (i := 0) (N := some 17) #[true, false, false, false, false, false, false, false, false, false, false, false, false, false, false, false, false, false, false, false, false, false, false, false, false, false, false, false, false, false, false, false, false, false, false, false, false, false, false, false, false, false, false, false, false, false, false, false, false, false, false, false, false, false, false, false, false, false, false, false, false, false, false, false, false, false, false, false, false, false, false, false, false, false, false, false, false] rfl rfl (one_of HT_.out (by kernel_rfl)) (by decide) (fun K hK => ?_)
                refine goes_ Try.func20 (by kernel_rfl) rfl #[] (by rfl) rfl rfl (by (try simp only [List.map_toArray, List.map_cons, List.map_nil]); first | done | rfl | (simp only [List.length_drop, List.length_take]; rfl)) ?_
                with_reducible refine (turnoutlaw01_awake.calls k  true _ A4.out ⟨HAW20.out _ _ A4.out⟩).mono ?_
                rintro e w31 ⟨rfl, hb⟩
                refine ⟨_, rfl, ?_⟩
                have n0_ := Aside0.mk (blk_below (g := gb295) (o := .cells #[.int .u64 a0_0, .int .u64 a0_1] 24 (0, 0)) (by (with_reducible repeat (first | refine blk_drewN ?_ _ | refine blk_drew ?_ | refine blk_alloc ?_ _)); exact BK295.out) hb)
                have n1_ := Aside0.mk (below_step (by repeat (first | (with_reducible first | exact HB.out | apply below_alloc | apply pw_below_drewN | apply below_drew1 | refine below_set ?_ GE295.out) | exact HB.out)) hb)
                clear BK295; clear HB; have BK295 := n0_; have HB := n1_; clear n0_ n1_; (try clear hb); (try clear hb2); (try clear hk); (try clear hi)
                refine hK.out _ _ ⟨(blk_cell BK295.out 0).trans rfl, (blk_cell BK295.out 1).trans rfl⟩ (fun hHeld => ?_)
                clear hK K
                refine norm_ (a' := ?_) ?_ ?_
                rotate_left
                · show Act.put _ (some 17) _ = _
                  simp only [Act.put, List.setIfInBounds_toArray, List.set_cons_zero, List.set_cons_succ, i64_w, i32_w]
                  rfl
                refine pure_ (i := 1) (N := some 18) (v := ?_) (a' := ?_) #[true, true, false, false, false, false, false, false, false, false, false, false, false, false, false, false, false, false, false, false, false, false, false, false, false, false, false, false, false, false, false, false, false, false, false, false, false, false, false, false, false, false, false, false, false, false, false, false, false, false, false, false, false, false, false, false, false, false, false, false, false, false, false, false, false, false, false, false, false, false, false, false, false, false, false, false, false] rfl rfl (any_of HT_.out (by kernel_rfl)) (fun _ _ _ h => h) (Or.inl ⟨by rfl, ?_⟩) ?_ ?_
                rotate_left
                · intro w'
                  go_simp
                  with_reducible rfl
                rotate_left
                · simp only [Act.put, List.setIfInBounds_toArray, List.set_cons_zero, List.set_cons_succ, i64_w, i32_w]
                  rfl
                refine pure_ (i := 3) (N := some 20) (v := ?_) (a' := ?_) #[true, true, false, true, false, false, false, false, false, false, false, false, false, false, false, false, false, false, false, false, false, false, false, false, false, false, false, false, false, false, false, false, false, false, false, false, false, false, false, false, false, false, false, false, false, false, false, false, false, false, false, false, false, false, false, false, false, false, false, false, false, false, false, false, false, false, false, false, false, false, false, false, false, false, false, false, false] rfl rfl (any_of HT_.out (by kernel_rfl)) (fun _ _ _ h => h) (Or.inl ⟨by rfl, ?_⟩) ?_ ?_
                rotate_left
                · intro w'
                  go_simp
                  with_reducible rfl
                rotate_left
                · simp only [Act.put, List.setIfInBounds_toArray, List.set_cons_zero, List.set_cons_succ, i64_w, i32_w]
                  rfl
                refine pure_ (i := 5) (N := some 22) (v := ?_) (a' := ?_) #[true, true, false, true, false, true, false, false, false, false, false, false, false, false, false, false, false, false, false, false, false, false, false, false, false, false, false, false, false, false, false, false, false, false, false, false, false, false, false, false, false, false, false, false, false, false, false, false, false, false, false, false, false, false, false, false, false, false, false, false, false, false, false, false, false, false, false, false, false, false, false, false, false, false, false, false, false] rfl rfl (any_of HT_.out (by kernel_rfl)) (fun _ _ _ h => h) (Or.inl ⟨by rfl, ?_⟩) ?_ ?_
                rotate_left
                · intro w'
                  go_simp
                  with_reducible rfl
                rotate_left
                · simp only [Act.put, List.setIfInBounds_toArray, List.set_cons_zero, List.set_cons_succ, i64_w, i32_w]
                  rfl
                refine pure_ (i := 8) (N := some 25) (v := ?_) (a' := ?_) #[true, true, false, true, false, true, false, false, true, false, false, false, false, false, false, false, false, false, false, false, false, false, false, false, false, false, false, false, false, false, false, false, false, false, false, false, false, false, false, false, false, false, false, false, false, false, false, false, false, false, false, false, false, false, false, false, false, false, false, false, false, false, false, false, false, false, false, false, false, false, false, false, false, false, false, false, false] rfl rfl (any_of HT_.out (by kernel_rfl)) (fun _ _ _ h => h) (Or.inl ⟨by rfl, ?_⟩) ?_ ?_
                rotate_left
                · intro w'
                  go_simp
                  with_reducible rfl
                rotate_left
                · simp only [Act.put, List.setIfInBounds_toArray, List.set_cons_zero, List.set_cons_succ, i64_w, i32_w]
                  rfl
                refine pure_ (i := 9) (N := some 26) (v := ?_) (a' := ?_) #[true, true, false, true, false, true, false, false, true, true, false, false, false, false, false, false, false, false, false, false, false, false, false, false, false, false, false, false, false, false, false, false, false, false, false, false, false, false, false, false, false, false, false, false, false, false, false, false, false, false, false, false, false, false, false, false, false, false, false, false, false, false, false, false, false, false, false, false, false, false, false, false, false, false, false, false, false] rfl rfl (any_of HT_.out (by kernel_rfl)) (fun _ _ _ h => h) (Or.inl ⟨by rfl, ?_⟩) ?_ ?_
                rotate_left
                · intro w'
                  go_simp
                  with_reducible rfl
                rotate_left
                · simp only [Act.put, List.setIfInBounds_toArray, List.set_cons_zero, List.set_cons_succ, i64_w, i32_w]
                  rfl
                refine pure_ (i := 10) (N := some 27) (v := ?_) (a' := ?_) #[true, true, false, true, false, true, false, false, true, true, true, false, false, false, false, false, false, false, false, false, false, false, false, false, false, false, false, false, false, false, false, false, false, false, false, false, false, false, false, false, false, false, false, false, false, false, false, false, false, false, false, false, false, false, false, false, false, false, false, false, false, false, false, false, false, false, false, false, false, false, false, false, false, false, false, false, false] rfl rfl (any_of HT_.out (by kernel_rfl)) (fun _ _ _ h => h) (Or.inl ⟨by rfl, ?_⟩) ?_ ?_
                rotate_left
                · intro w'
                  go_simp
                  with_reducible rfl
                rotate_left
                · simp only [Act.put, List.setIfInBounds_toArray, List.set_cons_zero, List.set_cons_succ, i64_w, i32_w]
                  rfl
                refine take_ (i := 2) (N := some 19) (v := ?_) (a' := ?_) #[true, true, true, true, false, true, false, false, true, true, true, false, false, false, false, false, false, false, false, false, false, false, false, false, false, false, false, false, false, false, false, false, false, false, false, false, false, false, false, false, false, false, false, false, false, false, false, false, false, false, false, false, false, false, false, false, false, false, false, false, false, false, false, false, false, false, false, false, false, false, false, false, false, false, false, false, false] rfl rfl (take_ofW HT_.out HW_.out (by kernel_rfl)) (fun _ _ _ h => h) (Or.inl ⟨by rfl, ?_⟩) hHeld ?_ ?_
                rotate_left
                · rintro w' ⟨s0, s1⟩
                  go_simp
                  with_reducible rfl
                rotate_left
                · simp only [Act.put, List.setIfInBounds_toArray, List.set_cons_zero, List.set_cons_succ, i64_w, i32_w]
                  rfl
                refine take_ (i := 7) (N := some 24) (v := ?_) (a' := ?_) #[true, true, true, true, false, true, false, true, true, true, true, false, false, false, false, false, false, false, false, false, false, false, false, false, false, false, false, false, false, false, false, false, false, false, false, false, false, false, false, false, false, false, false, false, false, false, false, false, false, false, false, false, false, false, false, false, false, false, false, false, false, false, false, false, false, false, false, false, false, false, false, false, false, false, false, false, false] rfl rfl (take_ofW HT_.out HW_.out (by kernel_rfl)) (fun _ _ _ h => h) (Or.inl ⟨by rfl, ?_⟩) hHeld ?_ ?_
                rotate_left
                · rintro w' ⟨s0, s1⟩
                  go_simp
                  with_reducible rfl
                rotate_left
                · simp only [Act.put, List.setIfInBounds_toArray, List.set_cons_zero, List.set_cons_succ, i64_w, i32_w]
                  rfl
                refine one_ (i := 4) (N := some 21) #[true, true, true, true, true, true, false, true, true, true, true, false, false, false, false, false, false, false, false, false, false, false, false, false, false, false, false, false, false, false, false, false, false, false, false, false, false, false, false, false, false, false, false, false, false, false, false, false, false, false, false, false, false, false, false, false, false, false, false, false, false, false, false, false, false, false, false, false, false, false, false, false, false, false, false, false, false] rfl rfl (one_of HT_.out (by kernel_rfl)) (by decide) (fun K hK => ?_)
                refine goes_ Try.func30 (by kernel_rfl) rfl #[.agg #[.int .u64 a0_0, .int .u64 a0_1], .int .i64 (wrap64 (Int.tmod (IntKind.u64.wrap (a1)) 130))] (by rfl) rfl rfl (by (try simp only [List.map_toArray, List.map_cons, List.map_nil]); first | done | rfl | (simp only [List.length_drop, List.length_take]; rfl)) ?_
                with_reducible refine (word_Left.calls a0_0 a0_1 (wrap64 (Int.tmod (IntKind.u64.wrap (a1)) 130)) t297 t298 _ A6.out).mono ?_
                rintro e w32 ⟨rfl, hb⟩
                refine ⟨_, rfl, ?_⟩
                have n0_ := Aside0.mk (blk_below (g := gb295) (o := .cells #[.int .u64 a0_0, .int .u64 a0_1] 24 (0, 0)) (by (with_reducible repeat (first | refine blk_drewN ?_ _ | refine blk_drew ?_ | refine blk_alloc ?_ _)); exact BK295.out) hb)
                have n1_ := Aside0.mk (below_step (by repeat (first | (with_reducible first | exact HB.out | apply below_alloc | apply pw_below_drewN | apply below_drew1 | refine below_set ?_ GE295.out) | exact HB.out)) hb)
                clear BK295; clear HB; have BK295 := n0_; have HB := n1_; clear n0_ n1_; (try clear hb); (try clear hb2); (try clear hk); (try clear hi)
                refine hK.out _ _ ⟨(blk_cell BK295.out 0).trans rfl, (blk_cell BK295.out 1).trans rfl⟩ (fun hHeld => ?_)
                clear hK K
                refine norm_ (a' := ?_) ?_ ?_
                rotate_left
                · show Act.put _ (some 21) _ = _
                  simp only [Act.put, List.setIfInBounds_toArray, List.set_cons_zero, List.set_cons_succ, i64_w, i32_w]
                  rfl
                refine one_ (i := 6) (N := some 23) #[true, true, true, true, true, true, true, true, true, true, true, false, false, false, false, false, false, false, false, false, false, false, false, false, false, false, false, false, false, false, false, false, false, false, false, false, false, false, false, false, false, false, false, false, false, false, false, false, false, false, false, false, false, false, false, false, false, false, false, false, false, false, false, false, false, false, false, false, false, false, false, false, false, false, false, false, false] rfl rfl (one_of HT_.out (by kernel_rfl)) (by decide) (fun K hK => ?_)
                refine goes_ Try.func30 (by kernel_rfl) rfl #[.agg #[.int .u64 t297, .int .u64 t298], .int .i64 (wrap64 (Int.tmod (IntKind.u64.wrap (a2)) 130))] (by rfl) rfl rfl (by (try simp only [List.map_toArray, List.map_cons, List.map_nil]); first | done | rfl | (simp only [List.length_drop, List.length_take]; rfl)) ?_
                with_reducible refine (word_Left.calls t297 t298 (wrap64 (Int.tmod (IntKind.u64.wrap (a2)) 130)) t299 t300 _ A7.out).mono ?_
                rintro e w33 ⟨rfl, hb⟩
                refine ⟨_, rfl, ?_⟩
                have n0_ := Aside0.mk (blk_below (g := gb295) (o := .cells #[.int .u64 a0_0, .int .u64 a0_1] 24 (0, 0)) (by (with_reducible repeat (first | refine blk_drewN ?_ _ | refine blk_drew ?_ | refine blk_alloc ?_ _)); exact BK295.out) hb)
                have n1_ := Aside0.mk (below_step (by repeat (first | (with_reducible first | exact HB.out | apply below_alloc | apply pw_below_drewN | apply below_drew1 | refine below_set ?_ GE295.out) | exact HB.out)) hb)
                clear BK295; clear HB; have BK295 := n0_; have HB := n1_; clear n0_ n1_; (try clear hb); (try clear hb2); (try clear hk); (try clear hi)
                refine hK.out _ _ ⟨(blk_cell BK295.out 0).trans rfl, (blk_cell BK295.out 1).trans rfl⟩ (fun hHeld => ?_)
                clear hK K
                refine norm_ (a' := ?_) ?_ ?_
                rotate_left
                · show Act.put _ (some 23) _ = _
                  simp only [Act.put, List.setIfInBounds_toArray, List.set_cons_zero, List.set_cons_succ, i64_w, i32_w]
                  rfl
                refine one_ (i := 11) (N := some 28) #[true, true, true, true, true, true, true, true, true, true, true, true, false, false, false, false, false, false, false, false, false, false, false, false, false, false, false, false, false, false, false, false, false, false, false, false, false, false, false, false, false, false, false, false, false, false, false, false, false, false, false, false, false, false, false, false, false, false, false, false, false, false, false, false, false, false, false, false, false, false, false, false, false, false, false, false, false] rfl rfl (one_of HT_.out (by kernel_rfl)) (by decide) (fun K hK => ?_)
                refine goes_ Try.func30 (by kernel_rfl) rfl #[.agg #[.int .u64 a0_0, .int .u64 a0_1], .int .i64 (wrap64 ((wrap64 (Int.tmod (IntKind.u64.wrap (a1)) 130)) + (wrap64 (Int.tmod (IntKind.u64.wrap (a2)) 130))))] (by rfl) rfl rfl (by (try simp only [List.map_toArray, List.map_cons, List.map_nil]); first | done | rfl | (simp only [List.length_drop, List.length_take]; rfl)) ?_
                with_reducible refine (word_Left.calls a0_0 a0_1 (wrap64 ((wrap64 (Int.tmod (IntKind.u64.wrap (a1)) 130)) + (wrap64 (Int.tmod (IntKind.u64.wrap (a2)) 130)))) t301 t302 _ A8.out).mono ?_
                rintro e w34 ⟨rfl, hb⟩
                refine ⟨_, rfl, ?_⟩
                have n0_ := Aside0.mk (blk_below (g := gb295) (o := .cells #[.int .u64 a0_0, .int .u64 a0_1] 24 (0, 0)) (by (with_reducible repeat (first | refine blk_drewN ?_ _ | refine blk_drew ?_ | refine blk_alloc ?_ _)); exact BK295.out) hb)
                have n1_ := Aside0.mk (below_step (by repeat (first | (with_reducible first | exact HB.out | apply below_alloc | apply pw_below_drewN | apply below_drew1 | refine below_set ?_ GE295.out) | exact HB.out)) hb)
                clear BK295; clear HB; have BK295 := n0_; have HB := n1_; clear n0_ n1_; (try clear hb); (try clear hb2); (try clear hk); (try clear hi)
                refine hK.out _ _ ⟨(blk_cell BK295.out 0).trans rfl, (blk_cell BK295.out 1).trans rfl⟩ (fun hHeld => ?_)
                clear hK K
                refine norm_ (a' := ?_) ?_ ?_
                rotate_left
                · show Act.put _ (some 28) _ = _
                  simp only [Act.put, List.setIfInBounds_toArray, List.set_cons_zero, List.set_cons_succ, i64_w, i32_w]
                  rfl
                refine pure_ (i := 12) (N := some 29) (v := ?_) (a' := ?_) #[true, true, true, true, true, true, true, true, true, true, true, true, true, false, false, false, false, false, false, false, false, false, false, false, false, false, false, false, false, false, false, false, false, false, false, false, false, false, false, false, false, false, false, false, false, false, false, false, false, false, false, false, false, false, false, false, false, false, false, false, false, false, false, false, false, false, false, false, false, false, false, false, false, false, false, false, false] rfl rfl (any_of HT_.out (by kernel_rfl)) (fun _ _ _ h => h) (Or.inl ⟨by rfl, ?_⟩) ?_ ?_
                rotate_left
                · intro w'
                  go_simp
                  with_reducible rfl
                rotate_left
                · simp only [Act.put, List.setIfInBounds_toArray, List.set_cons_zero, List.set_cons_succ, i64_w, i32_w]
                  rfl
                refine pure_ (i := 13) (N := some 30) (v := ?_) (a' := ?_) #[true, true, true, true, true, true, true, true, true, true, true, true, true, true, false, false, false, false, false, false, false, false, false, false, false, false, false, false, false, false, false, false, false, false, false, false, false, false, false, false, false, false, false, false, false, false, false, false, false, false, false, false, false, false, false, false, false, false, false, false, false, false, false, false, false, false, false, false, false, false, false, false, false, false, false, false, false] rfl rfl (any_of HT_.out (by kernel_rfl)) (fun _ _ _ h => h) (Or.inl ⟨by rfl, ?_⟩) ?_ ?_
                rotate_left
                · intro w'
                  go_simp
                  with_reducible rfl
                rotate_left
                · simp only [Act.put, List.setIfInBounds_toArray, List.set_cons_zero, List.set_cons_succ, i64_w, i32_w]
                  rfl
                refine pure_ (i := 14) (N := some 31) (v := ?_) (a' := ?_) #[true, true, true, true, true, true, true, true, true, true, true, true, true, true, true, false, false, false, false, false, false, false, false, false, false, false, false, false, false, false, false, false, false, false, false, false, false, false, false, false, false, false, false, false, false, false, false, false, false, false, false, false, false, false, false, false, false, false, false, false, false, false, false, false, false, false, false, false, false, false, false, false, false, false, false, false, false] rfl rfl (any_of HT_.out (by kernel_rfl)) (fun _ _ _ h => h) (Or.inl ⟨by rfl, ?_⟩) ?_ ?_
                rotate_left
                · intro w'
                  go_simp
                  with_reducible rfl
                rotate_left
                · simp only [Act.put, List.setIfInBounds_toArray, List.set_cons_zero, List.set_cons_succ, i64_w, i32_w]
                  rfl
                refine pure_ (i := 16) (N := some 33) (v := ?_) (a' := ?_) #[true, true, true, true, true, true, true, true, true, true, true, true, true, true, true, false, true, false, false, false, false, false, false, false, false, false, false, false, false, false, false, false, false, false, false, false, false, false, false, false, false, false, false, false, false, false, false, false, false, false, false, false, false, false, false, false, false, false, false, false, false, false, false, false, false, false, false, false, false, false, false, false, false, false, false, false, false] rfl rfl (any_of HT_.out (by kernel_rfl)) (fun _ _ _ h => h) (Or.inl ⟨by rfl, ?_⟩) ?_ ?_
                rotate_left
                · intro w'
                  go_simp
                  with_reducible rfl
                rotate_left
                · simp only [Act.put, List.setIfInBounds_toArray, List.set_cons_zero, List.set_cons_succ, i64_w, i32_w]
                  rfl
                refine pure_ (i := 18) (N := some 35) (v := ?_) (a' := ?_) #[true, true, true, true, true, true, true, true, true, true, true, true, true, true, true, false, true, false, true, false, false, false, false, false, false, false, false, false, false, false, false, false, false, false, false, false, false, false, false, false, false, false, false, false, false, false, false, false, false, false, false, false, false, false, false, false, false, false, false, false, false, false, false, false, false, false, false, false, false, false, false, false, false, false, false, false, false] rfl rfl (any_of HT_.out (by kernel_rfl)) (fun _ _ _ h => h) (Or.inl ⟨by rfl, ?_⟩) ?_ ?_
                rotate_left
                · intro w'
                  go_simp
                  with_reducible rfl
                rotate_left
                · simp only [Act.put, List.setIfInBounds_toArray, List.set_cons_zero, List.set_cons_succ, i64_w, i32_w]
                  rfl
                refine pure_ (i := 21) (N := some 38) (v := ?_) (a' := ?_) #[true, true, true, true, true, true, true, true, true, true, true, true, true, true, true, false, true, false, true, false, false, true, false, false, false, false, false, false, false, false, false, false, false, false, false, false, false, false, false, false, false, false, false, false, false, false, false, false, false, false, false, false, false, false, false, false, false, false, false, false, false, false, false, false, false, false, false, false, false, false, false, false, false, false, false, false, false] rfl rfl (any_of HT_.out (by kernel_rfl)) (fun _ _ _ h => h) (Or.inl ⟨by rfl, ?_⟩) ?_ ?_
                rotate_left
                · intro w'
                  go_simp
                  with_reducible rfl
                rotate_left
                · simp only [Act.put, List.setIfInBounds_toArray, List.set_cons_zero, List.set_cons_succ, i64_w, i32_w]
                  rfl
                refine pure_ (i := 22) (N := some 39) (v := ?_) (a' := ?_) #[true, true, true, true, true, true, true, true, true, true, true, true, true, true, true, false, true, false, true, false, false, true, true, false, false, false, false, false, false, false, false, false, false, false, false, false, false, false, false, false, false, false, false, false, false, false, false, false, false, false, false, false, false, false, false, false, false, false, false, false, false, false, false, false, false, false, false, false, false, false, false, false, false, false, false, false, false] rfl rfl (any_of HT_.out (by kernel_rfl)) (fun _ _ _ h => h) (Or.inl ⟨by rfl, ?_⟩) ?_ ?_
                rotate_left
                · intro w'
                  go_simp
                  with_reducible rfl
                rotate_left
                · simp only [Act.put, List.setIfInBounds_toArray, List.set_cons_zero, List.set_cons_succ, i64_w, i32_w]
                  rfl
                refine pure_ (i := 23) (N := some 40) (v := ?_) (a' := ?_) #[true, true, true, true, true, true, true, true, true, true, true, true, true, true, true, false, true, false, true, false, false, true, true, true, false, false, false, false, false, false, false, false, false, false, false, false, false, false, false, false, false, false, false, false, false, false, false, false, false, false, false, false, false, false, false, false, false, false, false, false, false, false, false, false, false, false, false, false, false, false, false, false, false, false, false, false, false] rfl rfl (any_of HT_.out (by kernel_rfl)) (fun _ _ _ h => h) (Or.inl ⟨by rfl, ?_⟩) ?_ ?_
                rotate_left
                · intro w'
                  go_simp
                  with_reducible rfl
                rotate_left
                · simp only [Act.put, List.setIfInBounds_toArray, List.set_cons_zero, List.set_cons_succ, i64_w, i32_w]
                  rfl
                refine take_ (i := 15) (N := some 32) (v := ?_) (a' := ?_) #[true, true, true, true, true, true, true, true, true, true, true, true, true, true, true, true, true, false, true, false, false, true, true, true, false, false, false, false, false, false, false, false, false, false, false, false, false, false, false, false, false, false, false, false, false, false, false, false, false, false, false, false, false, false, false, false, false, false, false, false, false, false, false, false, false, false, false, false, false, false, false, false, false, false, false, false, false] rfl rfl (take_ofW HT_.out HW_.out (by kernel_rfl)) (fun _ _ _ h => h) (Or.inl ⟨by rfl, ?_⟩) hHeld ?_ ?_
                rotate_left
                · rintro w' ⟨s0, s1⟩
                  go_simp
                  with_reducible rfl
                rotate_left
                · simp only [Act.put, List.setIfInBounds_toArray, List.set_cons_zero, List.set_cons_succ, i64_w, i32_w]
                  rfl
                refine take_ (i := 20) (N := some 37) (v := ?_) (a' := ?_) #[true, true, true, true, true, true, true, true, true, true, true, true, true, true, true, true, true, false, true, false, true, true, true, true, false, false, false, false, false, false, false, false, false, false, false, false, false, false, false, false, false, false, false, false, false, false, false, false, false, false, false, false, false, false, false, false, false, false, false, false, false, false, false, false, false, false, false, false, false, false, false, false, false, false, false, false, false] rfl rfl (take_ofW HT_.out HW_.out (by kernel_rfl)) (fun _ _ _ h => h) (Or.inl ⟨by rfl, ?_⟩) hHeld ?_ ?_
                rotate_left
                · rintro w' ⟨s0, s1⟩
                  go_simp
                  with_reducible rfl
                rotate_left
                · simp only [Act.put, List.setIfInBounds_toArray, List.set_cons_zero, List.set_cons_succ, i64_w, i32_w]
                  rfl
                refine one_ (i := 17) (N := some 34) #[true, true, true, true, true, true, true, true, true, true, true, true, true, true, true, true, true, true, true, false, true, true, true, true, false, false, false, false, false, false, false, false, false, false, false, false, false, false, false, false, false, false, false, false, false, false, false, false, false, false, false, false, false, false, false, false, false, false, false, false, false, false, false, false, false, false, false, false, false, false, false, false, false, false, false, false, false] rfl rfl (one_of HT_.out (by kernel_rfl)) (by decide) (fun K hK => ?_)
                refine goes_ Try.func32 (by kernel_rfl) rfl #[.agg #[.int .u64 a0_0, .int .u64 a0_1], .int .i64 (wrap64 (Int.tmod (IntKind.u64.wrap (a1)) 130))] (by rfl) rfl rfl (by (try simp only [List.map_toArray, List.map_cons, List.map_nil]); first | done | rfl | (simp only [List.length_drop, List.length_take]; rfl)) ?_
                with_reducible refine (word_Right.calls a0_0 a0_1 (wrap64 (Int.tmod (IntKind.u64.wrap (a1)) 130)) t303 t304 _ A10.out).mono ?_
                rintro e w35 ⟨rfl, hb⟩
                refine ⟨_, rfl, ?_⟩
                have n0_ := Aside0.mk (blk_below (g := gb295) (o := .cells #[.int .u64 a0_0, .int .u64 a0_1] 24 (0, 0)) (by (with_reducible repeat (first | refine blk_drewN ?_ _ | refine blk_drew ?_ | refine blk_alloc ?_ _)); exact BK295.out) hb)
                have n1_ := Aside0.mk (below_step (by repeat (first | (with_reducible first | exact HB.out | apply below_alloc | apply pw_below_drewN | apply below_drew1 | refine below_set ?_ GE295.out) | exact HB.out)) hb)
                clear BK295; clear HB; have BK295 := n0_; have HB := n1_; clear n0_ n1_; (try clear hb); (try clear hb2); (try clear hk); (try clear hi)
                refine hK.out _ _ ⟨(blk_cell BK295.out 0).trans rfl, (blk_cell BK295.out 1).trans rfl⟩ (fun hHeld => ?_)
                clear hK K
                refine norm_ (a' := ?_) ?_ ?_
                rotate_left
                · show Act.put _ (some 34) _ = _
                  simp only [Act.put, List.setIfInBounds_toArray, List.set_cons_zero, List.set_cons_succ, i64_w, i32_w]
                  rfl
                refine one_ (i := 19) (N := some 36) #[true, true, true, true, true, true, true, true, true, true, true, true, true, true, true, true, true, true, true, true, true, true, true, true, false, false, false, false, false, false, false, false, false, false, false, false, false, false, false, false, false, false, false, false, false, false, false, false, false, false, false, false, false, false, false, false, false, false, false, false, false, false, false, false, false, false, false, false, false, false, false, false, false, false, false, false, false] rfl rfl (one_of HT_.out (by kernel_rfl)) (by decide) (fun K hK => ?_)
                refine goes_ Try.func32 (by kernel_rfl) rfl #[.agg #[.int .u64 t303, .int .u64 t304], .int .i64 (wrap64 (Int.tmod (IntKind.u64.wrap (a2)) 130))] (by rfl) rfl rfl (by (try simp only [List.map_toArray, List.map_cons, List.map_nil]); first | done | rfl | (simp only [List.length_drop, List.length_take]; rfl)) ?_
                with_reducible refine (word_Right.calls t303 t304 (wrap64 (Int.tmod (IntKind.u64.wrap (a2)) 130)) t305 t306 _ A11.out).mono ?_
                rintro e w36 ⟨rfl, hb⟩
                refine ⟨_, rfl, ?_⟩
                have n0_ := Aside0.mk (blk_below (g := gb295) (o := .cells #[.int .u64 a0_0, .int .u64 a0_1] 24 (0, 0)) (by (with_reducible repeat (first | refine blk_drewN ?_ _ | refine blk_drew ?_ | refine blk_alloc ?_ _)); exact BK295.out) hb)
                have n1_ := Aside0.mk (below_step (by repeat (first | (with_reducible first | exact HB.out | apply below_alloc | apply pw_below_drewN | apply below_drew1 | refine below_set ?_ GE295.out) | exact HB.out)) hb)
                clear BK295; clear HB; have BK295 := n0_; have HB := n1_; clear n0_ n1_; (try clear hb); (try clear hb2); (try clear hk); (try clear hi)
                refine hK.out _ _ ⟨(blk_cell BK295.out 0).trans rfl, (blk_cell BK295.out 1).trans rfl⟩ (fun hHeld => ?_)
                clear hK K
                refine norm_ (a' := ?_) ?_ ?_
                rotate_left
                · show Act.put _ (some 36) _ = _
                  simp only [Act.put, List.setIfInBounds_toArray, List.set_cons_zero, List.set_cons_succ, i64_w, i32_w]
                  rfl
                refine one_ (i := 24) (N := some 41) #[true, true, true, true, true, true, true, true, true, true, true, true, true, true, true, true, true, true, true, true, true, true, true, true, true, false, false, false, false, false, false, false, false, false, false, false, false, false, false, false, false, false, false, false, false, false, false, false, false, false, false, false, false, false, false, false, false, false, false, false, false, false, false, false, false, false, false, false, false, false, false, false, false, false, false, false, false] rfl rfl (one_of HT_.out (by kernel_rfl)) (by decide) (fun K hK => ?_)
                refine goes_ Try.func32 (by kernel_rfl) rfl #[.agg #[.int .u64 a0_0, .int .u64 a0_1], .int .i64 (wrap64 ((wrap64 (Int.tmod (IntKind.u64.wrap (a1)) 130)) + (wrap64 (Int.tmod (IntKind.u64.wrap (a2)) 130))))] (by rfl) rfl rfl (by (try simp only [List.map_toArray, List.map_cons, List.map_nil]); first | done | rfl | (simp only [List.length_drop, List.length_take]; rfl)) ?_
                with_reducible refine (word_Right.calls a0_0 a0_1 (wrap64 ((wrap64 (Int.tmod (IntKind.u64.wrap (a1)) 130)) + (wrap64 (Int.tmod (IntKind.u64.wrap (a2)) 130)))) t307 t308 _ A12.out).mono ?_
                rintro e w37 ⟨rfl, hb⟩
                refine ⟨_, rfl, ?_⟩
                have n0_ := Aside0.mk (blk_below (g := gb295) (o := .cells #[.int .u64 a0_0, .int .u64 a0_1] 24 (0, 0)) (by (with_reducible repeat (first | refine blk_drewN ?_ _ | refine blk_drew ?_ | refine blk_alloc ?_ _)); exact BK295.out) hb)
                have n1_ := Aside0.mk (below_step (by repeat (first | (with_reducible first | exact HB.out | apply below_alloc | apply pw_below_drewN | apply below_drew1 | refine below_set ?_ GE295.out) | exact HB.out)) hb)
                clear BK295; clear HB; have BK295 := n0_; have HB := n1_; clear n0_ n1_; (try clear hb); (try clear hb2); (try clear hk); (try clear hi)
                refine hK.out _ _ ⟨(blk_cell BK295.out 0).trans rfl, (blk_cell BK295.out 1).trans rfl⟩ (fun hHeld => ?_)
                clear hK K
                refine norm_ (a' := ?_) ?_ ?_
                rotate_left
                · show Act.put _ (some 41) _ = _
                  simp only [Act.put, List.setIfInBounds_toArray, List.set_cons_zero, List.set_cons_succ, i64_w, i32_w]
                  rfl
                refine pure_ (i := 25) (N := some 42) (v := ?_) (a' := ?_) #[true, true, true, true, true, true, true, true, true, true, true, true, true, true, true, true, true, true, true, true, true, true, true, true, true, true, false, false, false, false, false, false, false, false, false, false, false, false, false, false, false, false, false, false, false, false, false, false, false, false, false, false, false, false, false, false, false, false, false, false, false, false, false, false, false, false, false, false, false, false, false, false, false, false, false, false, false] rfl rfl (any_of HT_.out (by kernel_rfl)) (fun _ _ _ h => h) (Or.inl ⟨by rfl, ?_⟩) ?_ ?_
                rotate_left
                · intro w'
                  go_simp
                  with_reducible rfl
                rotate_left
                · simp only [Act.put, List.setIfInBounds_toArray, List.set_cons_zero, List.set_cons_succ, i64_w, i32_w]
                  rfl
                refine pure_ (i := 26) (N := some 43) (v := ?_) (a' := ?_) #[true, true, true, true, true, true, true, true, true, true, true, true, true, true, true, true, true, true, true, true, true, true, true, true, true, true, true, false, false, false, false, false, false, false, false, false, false, false, false, false, false, false, false, false, false, false, false, false, false, false, false, false, false, false, false, false, false, false, false, false, false, false, false, false, false, false, false, false, false, false, false, false, false, false, false, false, false] rfl rfl (any_of HT_.out (by kernel_rfl)) (fun _ _ _ h => h) (Or.inl ⟨by rfl, ?_⟩) ?_ ?_
                rotate_left
                · intro w'
                  go_simp
                  with_reducible rfl
                rotate_left
                · simp only [Act.put, List.setIfInBounds_toArray, List.set_cons_zero, List.set_cons_succ, i64_w, i32_w]
                  rfl
                refine pure_ (i := 27) (N := some 44) (v := ?_) (a' := ?_) #[true, true, true, true, true, true, true, true, true, true, true, true, true, true, true, true, true, true, true, true, true, true, true, true, true, true, true, true, false, false, false, false, false, false, false, false, false, false, false, false, false, false, false, false, false, false, false, false, false, false, false, false, false, false, false, false, false, false, false, false, false, false, false, false, false, false, false, false, false, false, false, false, false, false, false, false, false] rfl rfl (any_of HT_.out (by kernel_rfl)) (fun _ _ _ h => h) (Or.inl ⟨by rfl, ?_⟩) ?_ ?_
                rotate_left
                · intro w'
                  go_simp
                  with_reducible rfl
                rotate_left
                · simp only [Act.put, List.setIfInBounds_toArray, List.set_cons_zero, List.set_cons_succ, i64_w, i32_w]
                  rfl
                refine take_ (i := 28) (N := some 45) (v := ?_) (a' := ?_) #[true, true, true, true, true, true, true, true, true, true, true, true, true, true, true, true, true, true, true, true, true, true, true, true, true, true, true, true, true, false, false, false, false, false, false, false, false, false, false, false, false, false, false, false, false, false, false, false, false, false, false, false, false, false, false, false, false, false, false, false, false, false, false, false, false, false, false, false, false, false, false, false, false, false, false, false, false] rfl rfl (take_ofW HT_.out HW_.out (by kernel_rfl)) (fun _ _ _ h => h) (Or.inl ⟨by rfl, ?_⟩) hHeld ?_ ?_
                rotate_left
                · rintro w' ⟨s0, s1⟩
                  go_simp
                  with_reducible rfl
                rotate_left
                · simp only [Act.put, List.setIfInBounds_toArray, List.set_cons_zero, List.set_cons_succ, i64_w, i32_w]
                  rfl
                refine take_ (i := 30) (N := some 47) (v := ?_) (a' := ?_) #[true, true, true, true, true, true, true, true, true, true, true, true, true, true, true, true, true, true, true, true, true, true, true, true, true, true, true, true, true, false, true, false, false, false, false, false, false, false, false, false, false, false, false, false, false, false, false, false, false, false, false, false, false, false, false, false, false, false, false, false, false, false, false, false, false, false, false, false, false, false, false, false, false, false, false, false, false] rfl rfl (take_ofW HT_.out HW_.out (by kernel_rfl)) (fun _ _ _ h => h) (Or.inl ⟨by rfl, ?_⟩) hHeld ?_ ?_
                rotate_left
                · rintro w' ⟨s0, s1⟩
                  go_simp
                  with_reducible rfl
                rotate_left
                · simp only [Act.put, List.setIfInBounds_toArray, List.set_cons_zero, List.set_cons_succ, i64_w, i32_w]
                  rfl
                refine take_ (i := 31) (N := some 48) (v := ?_) (a' := ?_) #[true, true, true, true, true, true, true, true, true, true, true, true, true, true, true, true, true, true, true, true, true, true, true, true, true, true, true, true, true, false, true, true, false, false, false, false, false, false, false, false, false, false, false, false, false, false, false, false, false, false, false, false, false, false, false, false, false, false, false, false, false, false, false, false, false, false, false, false, false, false, false, false, false, false, false, false, false] rfl rfl (take_ofW HT_.out HW_.out (by kernel_rfl)) (fun _ _ _ h => h) (Or.inl ⟨by rfl, ?_⟩) hHeld ?_ ?_
                rotate_left
                · rintro w' ⟨s0, s1⟩
                  go_simp
                  with_reducible rfl
                rotate_left
                · simp only [Act.put, List.setIfInBounds_toArray, List.set_cons_zero, List.set_cons_succ, i64_w, i32_w]
                  rfl
                refine one_ (i := 29) (N := some 46) #[true, true, true, true, true, true, true, true, true, true, true, true, true, true, true, true, true, true, true, true, true, true, true, true, true, true, true, true, true, true, true, true, false, false, false, false, false, false, false, false, false, false, false, false, false, false, false, false, false, false, false, false, false, false, false, false, false, false, false, false, false, false, false, false, false, false, false, false, false, false, false, false, false, false, false, false, false] rfl rfl (one_of HT_.out (by kernel_rfl)) (by decide) (fun K hK => ?_)
                refine goes_ Try.func30 (by kernel_rfl) rfl #[.agg #[.int .u64 a0_0, .int .u64 a0_1], .int .i64 1] (by rfl) rfl rfl (by (try simp only [List.map_toArray, List.map_cons, List.map_nil]); first | done | rfl | (simp only [List.length_drop, List.length_take]; rfl)) ?_
                with_reducible refine (word_Left.calls a0_0 a0_1 1 t309 t310 _ A14.out).mono ?_
                rintro e w38 ⟨rfl, hb⟩
                refine ⟨_, rfl, ?_⟩
                have n0_ := Aside0.mk (blk_below (g := gb295) (o := .cells #[.int .u64 a0_0, .int .u64 a0_1] 24 (0, 0)) (by (with_reducible repeat (first | refine blk_drewN ?_ _ | refine blk_drew ?_ | refine blk_alloc ?_ _)); exact BK295.out) hb)
                have n1_ := Aside0.mk (below_step (by repeat (first | (with_reducible first | exact HB.out | apply below_alloc | apply pw_below_drewN | apply below_drew1 | refine below_set ?_ GE295.out) | exact HB.out)) hb)
                clear BK295; clear HB; have BK295 := n0_; have HB := n1_; clear n0_ n1_; (try clear hb); (try clear hb2); (try clear hk); (try clear hi)
                refine hK.out _ _ ⟨(blk_cell BK295.out 0).trans rfl, (blk_cell BK295.out 1).trans rfl⟩ (fun hHeld => ?_)
                clear hK K
                refine norm_ (a' := ?_) ?_ ?_
                rotate_left
                · show Act.put _ (some 46) _ = _
                  simp only [Act.put, List.setIfInBounds_toArray, List.set_cons_zero, List.set_cons_succ, i64_w, i32_w]
                  rfl
                refine one_ (i := 32) (N := some 49) #[true, true, true, true, true, true, true, true, true, true, true, true, true, true, true, true, true, true, true, true, true, true, true, true, true, true, true, true, true, true, true, true, true, false, false, false, false, false, false, false, false, false, false, false, false, false, false, false, false, false, false, false, false, false, false, false, false, false, false, false, false, false, false, false, false, false, false, false, false, false, false, false, false, false, false, false, false] rfl rfl (one_of HT_.out (by kernel_rfl)) (by decide) (fun K hK => ?_)
                refine goes_ Try.func16 (by kernel_rfl) rfl #[.agg #[.int .u64 a0_0, .int .u64 a0_1], .agg #[.int .u64 a0_0, .int .u64 a0_1]] (by rfl) rfl rfl (by (try simp only [List.map_toArray, List.map_cons, List.map_nil]); first | done | rfl | (simp only [List.length_drop, List.length_take]; rfl)) ?_
                with_reducible refine (word_Add.calls a0_0 a0_1 a0_0 a0_1 t311 t312 _ A15.out).mono ?_
                rintro e w39 ⟨rfl, hb⟩
                refine ⟨_, rfl, ?_⟩
                have n0_ := Aside0.mk (blk_below (g := gb295) (o := .cells #[.int .u64 a0_0, .int .u64 a0_1] 24 (0, 0)) (by (with_reducible repeat (first | refine blk_drewN ?_ _ | refine blk_drew ?_ | refine blk_alloc ?_ _)); exact BK295.out) hb)
                have n1_ := Aside0.mk (below_step (by repeat (first | (with_reducible first | exact HB.out | apply below_alloc | apply pw_below_drewN | apply below_drew1 | refine below_set ?_ GE295.out) | exact HB.out)) hb)
                clear BK295; clear HB; have BK295 := n0_; have HB := n1_; clear n0_ n1_; (try clear hb); (try clear hb2); (try clear hk); (try clear hi)
                refine hK.out _ _ ⟨(blk_cell BK295.out 0).trans rfl, (blk_cell BK295.out 1).trans rfl⟩ (fun hHeld => ?_)
                clear hK K
                refine norm_ (a' := ?_) ?_ ?_
                rotate_left
                · show Act.put _ (some 49) _ = _
                  simp only [Act.put, List.setIfInBounds_toArray, List.set_cons_zero, List.set_cons_succ, i64_w, i32_w]
                  rfl
                refine pure_ (i := 33) (N := some 50) (v := ?_) (a' := ?_) #[true, true, true, true, true, true, true, true, true, true, true, true, true, true, true, true, true, true, true, true, true, true, true, true, true, true, true, true, true, true, true, true, true, true, false, false, false, false, false, false, false, false, false, false, false, false, false, false, false, false, false, false, false, false, false, false, false, false, false, false, false, false, false, false, false, false, false, false, false, false, false, false, false, false, false, false, false] rfl rfl (any_of HT_.out (by kernel_rfl)) (fun _ _ _ h => h) (Or.inl ⟨by rfl, ?_⟩) ?_ ?_
                rotate_left
                · intro w'
                  go_simp
                  with_reducible rfl
                rotate_left
                · simp only [Act.put, List.setIfInBounds_toArray, List.set_cons_zero, List.set_cons_succ, i64_w, i32_w]
                  rfl
                refine pure_ (i := 34) (N := some 51) (v := ?_) (a' := ?_) #[true, true, true, true, true, true, true, true, true, true, true, true, true, true, true, true, true, true, true, true, true, true, true, true, true, true, true, true, true, true, true, true, true, true, true, false, false, false, false, false, false, false, false, false, false, false, false, false, false, false, false, false, false, false, false, false, false, false, false, false, false, false, false, false, false, false, false, false, false, false, false, false, false, false, false, false, false] rfl rfl (any_of HT_.out (by kernel_rfl)) (fun _ _ _ h => h) (Or.inl ⟨by rfl, ?_⟩) ?_ ?_
                rotate_left
                · intro w'
                  go_simp
                  with_reducible rfl
                rotate_left
                · simp only [Act.put, List.setIfInBounds_toArray, List.set_cons_zero, List.set_cons_succ, i64_w, i32_w]
                  rfl
                refine pure_ (i := 35) (N := some 52) (v := ?_) (a' := ?_) #[true, true, true, true, true, true, true, true, true, true, true, true, true, true, true, true, true, true, true, true, true, true, true, true, true, true, true, true, true, true, true, true, true, true, true, true, false, false, false, false, false, false, false, false, false, false, false, false, false, false, false, false, false, false, false, false, false, false, false, false, false, false, false, false, false, false, false, false, false, false, false, false, false, false, false, false, false] rfl rfl (any_of HT_.out (by kernel_rfl)) (fun _ _ _ h => h) (Or.inl ⟨by rfl, ?_⟩) ?_ ?_
                rotate_left
                · intro w'
                  go_simp
                  with_reducible rfl
                rotate_left
                · simp only [Act.put, List.setIfInBounds_toArray, List.set_cons_zero, List.set_cons_succ, i64_w, i32_w]
                  rfl
                refine pure_ (i := 37) (N := some 54) (v := ?_) (a' := ?_) #[true, true, true, true, true, true, true, true, true, true, true, true, true, true, true, true, true, true, true, true, true, true, true, true, true, true, true, true, true, true, true, true, true, true, true, true, false, true, false, false, false, false, false, false, false, false, false, false, false, false, false, false, false, false, false, false, false, false, false, false, false, false, false, false, false, false, false, false, false, false, false, false, false, false, false, false, false] rfl rfl (any_of HT_.out (by kernel_rfl)) (fun _ _ _ h => h) (Or.inl ⟨by rfl, ?_⟩) ?_ ?_
                rotate_left
                · intro w'
                  go_simp
                  with_reducible rfl
                rotate_left
                · simp only [Act.put, List.setIfInBounds_toArray, List.set_cons_zero, List.set_cons_succ, i64_w, i32_w]
                  rfl
                refine pure_ (i := 39) (N := some 56) (v := ?_) (a' := ?_) #[true, true, true, true, true, true, true, true, true, true, true, true, true, true, true, true, true, true, true, true, true, true, true, true, true, true, true, true, true, true, true, true, true, true, true, true, false, true, false, true, false, false, false, false, false, false, false, false, false, false, false, false, false, false, false, false, false, false, false, false, false, false, false, false, false, false, false, false, false, false, false, false, false, false, false, false, false] rfl rfl (any_of HT_.out (by kernel_rfl)) (fun _ _ _ h => h) (Or.inl ⟨by rfl, ?_⟩) ?_ ?_
                rotate_left
                · intro w'
                  go_simp
                  with_reducible rfl
                rotate_left
                · simp only [Act.put, List.setIfInBounds_toArray, List.set_cons_zero, List.set_cons_succ, i64_w, i32_w]
                  rfl
                refine pure_ (i := 42) (N := some 59) (v := ?_) (a' := ?_) #[true, true, true, true, true, true, true, true, true, true, true, true, true, true, true, true, true, true, true, true, true, true, true, true, true, true, true, true, true, true, true, true, true, true, true, true, false, true, false, true, false, false, true, false, false, false, false, false, false, false, false, false, false, false, false, false, false, false, false, false, false, false, false, false, false, false, false, false, false, false, false, false, false, false, false, false, false] rfl rfl (any_of HT_.out (by kernel_rfl)) (fun _ _ _ h => h) (Or.inl ⟨by rfl, ?_⟩) ?_ ?_
                rotate_left
                · intro w'
                  go_simp
                  with_reducible rfl
                rotate_left
                · simp only [Act.put, List.setIfInBounds_toArray, List.set_cons_zero, List.set_cons_succ, i64_w, i32_w]
                  rfl
                refine pure_ (i := 43) (N := some 60) (v := ?_) (a' := ?_) #[true, true, true, true, true, true, true, true, true, true, true, true, true, true, true, true, true, true, true, true, true, true, true, true, true, true, true, true, true, true, true, true, true, true, true, true, false, true, false, true, false, false, true, true, false, false, false, false, false, false, false, false, false, false, false, false, false, false, false, false, false, false, false, false, false, false, false, false, false, false, false, false, false, false, false, false, false] rfl rfl (any_of HT_.out (by kernel_rfl)) (fun _ _ _ h => h) (Or.inl ⟨by rfl, ?_⟩) ?_ ?_
                rotate_left
                · intro w'
                  go_simp
                  with_reducible rfl
                rotate_left
                · simp only [Act.put, List.setIfInBounds_toArray, List.set_cons_zero, List.set_cons_succ, i64_w, i32_w]
                  rfl
                refine take_ (i := 36) (N := some 53) (v := ?_) (a' := ?_) #[true, true, true, true, true, true, true, true, true, true, true, true, true, true, true, true, true, true, true, true, true, true, true, true, true, true, true, true, true, true, true, true, true, true, true, true, true, true, false, true, false, false, true, true, false, false, false, false, false, false, false, false, false, false, false, false, false, false, false, false, false, false, false, false, false, false, false, false, false, false, false, false, false, false, false, false, false] rfl rfl (take_ofW HT_.out HW_.out (by kernel_rfl)) (fun _ _ _ h => h) (Or.inl ⟨by rfl, ?_⟩) hHeld ?_ ?_
                rotate_left
                · rintro w' ⟨s0, s1⟩
                  go_simp
                  with_reducible rfl
                rotate_left
                · simp only [Act.put, List.setIfInBounds_toArray, List.set_cons_zero, List.set_cons_succ, i64_w, i32_w]
                  rfl
                refine take_ (i := 41) (N := some 58) (v := ?_) (a' := ?_) #[true, true, true, true, true, true, true, true, true, true, true, true, true, true, true, true, true, true, true, true, true, true, true, true, true, true, true, true, true, true, true, true, true, true, true, true, true, true, false, true, false, true, true, true, false, false, false, false, false, false, false, false, false, false, false, false, false, false, false, false, false, false, false, false, false, false, false, false, false, false, false, false, false, false, false, false, false] rfl rfl (take_ofW HT_.out HW_.out (by kernel_rfl)) (fun _ _ _ h => h) (Or.inl ⟨by rfl, ?_⟩) hHeld ?_ ?_
                rotate_left
                · rintro w' ⟨s0, s1⟩
                  go_simp
                  with_reducible rfl
                rotate_left
                · simp only [Act.put, List.setIfInBounds_toArray, List.set_cons_zero, List.set_cons_succ, i64_w, i32_w]
                  rfl
                refine one_ (i := 38) (N := some 55) #[true, true, true, true, true, true, true, true, true, true, true, true, true, true, true, true, true, true, true, true, true, true, true, true, true, true, true, true, true, true, true, true, true, true, true, true, true, true, true, true, false, true, true, true, false, false, false, false, false, false, false, false, false, false, false, false, false, false, false, false, false, false, false, false, false, false, false, false, false, false, false, false, false, false, false, false, false] rfl rfl (one_of HT_.out (by kernel_rfl)) (by decide) (fun K hK => ?_)
                refine goes_ Try.func30 (by kernel_rfl) rfl #[.agg #[.int .u64 a0_0, .int .u64 a0_1], .int .i64 (wrap64 (Int.tmod (IntKind.u64.wrap (a1)) 130))] (by rfl) rfl rfl (by (try simp only [List.map_toArray, List.map_cons, List.map_nil]); first | done | rfl | (simp only [List.length_drop, List.length_take]; rfl)) ?_
                with_reducible refine (word_Left.calls a0_0 a0_1 (wrap64 (Int.tmod (IntKind.u64.wrap (a1)) 130)) t297 t298 _ A6.out).mono ?_
                rintro e w40 ⟨rfl, hb⟩
                refine ⟨_, rfl, ?_⟩
                have n0_ := Aside0.mk (blk_below (g := gb295) (o := .cells #[.int .u64 a0_0, .int .u64 a0_1] 24 (0, 0)) (by (with_reducible repeat (first | refine blk_drewN ?_ _ | refine blk_drew ?_ | refine blk_alloc ?_ _)); exact BK295.out) hb)
                have n1_ := Aside0.mk (below_step (by repeat (first | (with_reducible first | exact HB.out | apply below_alloc | apply pw_below_drewN | apply below_drew1 | refine below_set ?_ GE295.out) | exact HB.out)) hb)
                clear BK295; clear HB; have BK295 := n0_; have HB := n1_; clear n0_ n1_; (try clear hb); (try clear hb2); (try clear hk); (try clear hi)
                refine hK.out _ _ ⟨(blk_cell BK295.out 0).trans rfl, (blk_cell BK295.out 1).trans rfl⟩ (fun hHeld => ?_)
                clear hK K
                refine norm_ (a' := ?_) ?_ ?_
                rotate_left
                · show Act.put _ (some 55) _ = _
                  simp only [Act.put, List.setIfInBounds_toArray, List.set_cons_zero, List.set_cons_succ, i64_w, i32_w]
                  rfl
                refine one_ (i := 40) (N := some 57) #[true, true, true, true, true, true, true, true, true, true, true, true, true, true, true, true, true, true, true, true, true, true, true, true, true, true, true, true, true, true, true, true, true, true, true, true, true, true, true, true, true, true, true, true, false, false, false, false, false, false, false, false, false, false, false, false, false, false, false, false, false, false, false, false, false, false, false, false, false, false, false, false, false, false, false, false, false] rfl rfl (one_of HT_.out (by kernel_rfl)) (by decide) (fun K hK => ?_)
                refine goes_ Try.func32 (by kernel_rfl) rfl #[.agg #[.int .u64 t297, .int .u64 t298], .int .i64 (wrap64 (Int.tmod (IntKind.u64.wrap (a1)) 130))] (by rfl) rfl rfl (by (try simp only [List.map_toArray, List.map_cons, List.map_nil]); first | done | rfl | (simp only [List.length_drop, List.length_take]; rfl)) ?_
                with_reducible refine (word_Right.calls t297 t298 (wrap64 (Int.tmod (IntKind.u64.wrap (a1)) 130)) t315 t316 _ A18.out).mono ?_
                rintro e w41 ⟨rfl, hb⟩
                refine ⟨_, rfl, ?_⟩
                have n0_ := Aside0.mk (blk_below (g := gb295) (o := .cells #[.int .u64 a0_0, .int .u64 a0_1] 24 (0, 0)) (by (with_reducible repeat (first | refine blk_drewN ?_ _ | refine blk_drew ?_ | refine blk_alloc ?_ _)); exact BK295.out) hb)
                have n1_ := Aside0.mk (below_step (by repeat (first | (with_reducible first | exact HB.out | apply below_alloc | apply pw_below_drewN | apply below_drew1 | refine below_set ?_ GE295.out) | exact HB.out)) hb)
                clear BK295; clear HB; have BK295 := n0_; have HB := n1_; clear n0_ n1_; (try clear hb); (try clear hb2); (try clear hk); (try clear hi)
                refine hK.out _ _ ⟨(blk_cell BK295.out 0).trans rfl, (blk_cell BK295.out 1).trans rfl⟩ (fun hHeld => ?_)
                clear hK K
                refine norm_ (a' := ?_) ?_ ?_
                rotate_left
                · show Act.put _ (some 57) _ = _
                  simp only [Act.put, List.setIfInBounds_toArray, List.set_cons_zero, List.set_cons_succ, i64_w, i32_w]
                  rfl
                refine one_ (i := 44) (N := some 61) #[true, true, true, true, true, true, true, true, true, true, true, true, true, true, true, true, true, true, true, true, true, true, true, true, true, true, true, true, true, true, true, true, true, true, true, true, true, true, true, true, true, true, true, true, true, false, false, false, false, false, false, false, false, false, false, false, false, false, false, false, false, false, false, false, false, false, false, false, false, false, false, false, false, false, false, false, false] rfl rfl (one_of HT_.out (by kernel_rfl)) (by decide) (fun K hK => ?_)
                refine goes_ Try.func34 (by kernel_rfl) rfl #[.agg #[.int .u64 a0_0, .int .u64 a0_1], .int .i64 (wrap64 (128 - (wrap64 (Int.tmod (IntKind.u64.wrap (a1)) 130))))] (by rfl) rfl rfl (by (try simp only [List.map_toArray, List.map_cons, List.map_nil]); first | done | rfl | (simp only [List.length_drop, List.length_take]; rfl)) ?_
                with_reducible refine (word_Cut.calls a0_0 a0_1 (wrap64 (128 - (wrap64 (Int.tmod (IntKind.u64.wrap (a1)) 130)))) t317 t318 _ A19.out).mono ?_
                rintro e w42 ⟨rfl, hb⟩
                refine ⟨_, rfl, ?_⟩
                have n0_ := Aside0.mk (blk_below (g := gb295) (o := .cells #[.int .u64 a0_0, .int .u64 a0_1] 24 (0, 0)) (by (with_reducible repeat (first | refine blk_drewN ?_ _ | refine blk_drew ?_ | refine blk_alloc ?_ _)); exact BK295.out) hb)
                have n1_ := Aside0.mk (below_step (by repeat (first | (with_reducible first | exact HB.out | apply below_alloc | apply pw_below_drewN | apply below_drew1 | refine below_set ?_ GE295.out) | exact HB.out)) hb)
                clear BK295; clear HB; have BK295 := n0_; have HB := n1_; clear n0_ n1_; (try clear hb); (try clear hb2); (try clear hk); (try clear hi)
                refine hK.out _ _ ⟨(blk_cell BK295.out 0).trans rfl, (blk_cell BK295.out 1).trans rfl⟩ (fun hHeld => ?_)
                clear hK K
                refine norm_ (a' := ?_) ?_ ?_
                rotate_left
                · show Act.put _ (some 61) _ = _
                  simp only [Act.put, List.setIfInBounds_toArray, List.set_cons_zero, List.set_cons_succ, i64_w, i32_w]
                  rfl
                refine pure_ (i := 45) (N := some 62) (v := ?_) (a' := ?_) #[true, true, true, true, true, true, true, true, true, true, true, true, true, true, true, true, true, true, true, true, true, true, true, true, true, true, true, true, true, true, true, true, true, true, true, true, true, true, true, true, true, true, true, true, true, true, false, false, false, false, false, false, false, false, false, false, false, false, false, false, false, false, false, false, false, false, false, false, false, false, false, false, false, false, false, false, false] rfl rfl (any_of HT_.out (by kernel_rfl)) (fun _ _ _ h => h) (Or.inl ⟨by rfl, ?_⟩) ?_ ?_
                rotate_left
                · intro w'
                  go_simp
                  with_reducible rfl
                rotate_left
                · simp only [Act.put, List.setIfInBounds_toArray, List.set_cons_zero, List.set_cons_succ, i64_w, i32_w]
                  rfl
                refine pure_ (i := 46) (N := some 63) (v := ?_) (a' := ?_) #[true, true, true, true, true, true, true, true, true, true, true, true, true, true, true, true, true, true, true, true, true, true, true, true, true, true, true, true, true, true, true, true, true, true, true, true, true, true, true, true, true, true, true, true, true, true, true, false, false, false, false, false, false, false, false, false, false, false, false, false, false, false, false, false, false, false, false, false, false, false, false, false, false, false, false, false, false] rfl rfl (any_of HT_.out (by kernel_rfl)) (fun _ _ _ h => h) (Or.inl ⟨by rfl, ?_⟩) ?_ ?_
                rotate_left
                · intro w'
                  go_simp
                  with_reducible rfl
                rotate_left
                · simp only [Act.put, List.setIfInBounds_toArray, List.set_cons_zero, List.set_cons_succ, i64_w, i32_w]
                  rfl
                refine pure_ (i := 47) (N := some 64) (v := ?_) (a' := ?_) #[true, true, true, true, true, true, true, true, true, true, true, true, true, true, true, true, true, true, true, true, true, true, true, true, true, true, true, true, true, true, true, true, true, true, true, true, true, true, true, true, true, true, true, true, true, true, true, true, false, false, false, false, false, false, false, false, false, false, false, false, false, false, false, false, false, false, false, false, false, false, false, false, false, false, false, false, false] rfl rfl (any_of HT_.out (by kernel_rfl)) (fun _ _ _ h => h) (Or.inl ⟨by rfl, ?_⟩) ?_ ?_
                rotate_left
                · intro w'
                  go_simp
                  with_reducible rfl
                rotate_left
                · simp only [Act.put, List.setIfInBounds_toArray, List.set_cons_zero, List.set_cons_succ, i64_w, i32_w]
                  rfl
                refine pure_ (i := 49) (N := some 66) (v := ?_) (a' := ?_) #[true, true, true, true, true, true, true, true, true, true, true, true, true, true, true, true, true, true, true, true, true, true, true, true, true, true, true, true, true, true, true, true, true, true, true, true, true, true, true, true, true, true, true, true, true, true, true, true, false, true, false, false, false, false, false, false, false, false, false, false, false, false, false, false, false, false, false, false, false, false, false, false, false, false, false, false, false] rfl rfl (any_of HT_.out (by kernel_rfl)) (fun _ _ _ h => h) (Or.inl ⟨by rfl, ?_⟩) ?_ ?_
                rotate_left
                · intro w'
                  go_simp
                  with_reducible rfl
                rotate_left
                · simp only [Act.put, List.setIfInBounds_toArray, List.set_cons_zero, List.set_cons_succ, i64_w, i32_w]
                  rfl
                refine pure_ (i := 51) (N := some 68) (v := ?_) (a' := ?_) #[true, true, true, true, true, true, true, true, true, true, true, true, true, true, true, true, true, true, true, true, true, true, true, true, true, true, true, true, true, true, true, true, true, true, true, true, true, true, true, true, true, true, true, true, true, true, true, true, false, true, false, true, false, false, false, false, false, false, false, false, false, false, false, false, false, false, false, false, false, false, false, false, false, false, false, false, false] rfl rfl (any_of HT_.out (by kernel_rfl)) (fun _ _ _ h => h) (Or.inl ⟨by rfl, ?_⟩) ?_ ?_
                rotate_left
                · intro w'
                  go_simp
                  with_reducible rfl
                rotate_left
                · simp only [Act.put, List.setIfInBounds_toArray, List.set_cons_zero, List.set_cons_succ, i64_w, i32_w]
                  rfl
                refine pure_ (i := 55) (N := some 72) (v := ?_) (a' := ?_) #[true, true, true, true, true, true, true, true, true, true, true, true, true, true, true, true, true, true, true, true, true, true, true, true, true, true, true, true, true, true, true, true, true, true, true, true, true, true, true, true, true, true, true, true, true, true, true, true, false, true, false, true, false, false, false, true, false, false, false, false, false, false, false, false, false, false, false, false, false, false, false, false, false, false, false, false, false] rfl rfl (any_of HT_.out (by kernel_rfl)) (fun _ _ _ h => h) (Or.inl ⟨by rfl, ?_⟩) ?_ ?_
                rotate_left
                · intro w'
                  go_simp
                  with_reducible rfl
                rotate_left
                · simp only [Act.put, List.setIfInBounds_toArray, List.set_cons_zero, List.set_cons_succ, i64_w, i32_w]
                  rfl
                refine take_ (i := 48) (N := some 65) (v := ?_) (a' := ?_) #[true, true, true, true, true, true, true, true, true, true, true, true, true, true, true, true, true, true, true, true, true, true, true, true, true, true, true, true, true, true, true, true, true, true, true, true, true, true, true, true, true, true, true, true, true, true, true, true, true, true, false, true, false, false, false, true, false, false, false, false, false, false, false, false, false, false, false, false, false, false, false, false, false, false, false, false, false] rfl rfl (take_ofW HT_.out HW_.out (by kernel_rfl)) (fun _ _ _ h => h) (Or.inl ⟨by rfl, ?_⟩) hHeld ?_ ?_
                rotate_left
                · rintro w' ⟨s0, s1⟩
                  go_simp
                  with_reducible rfl
                rotate_left
                · simp only [Act.put, List.setIfInBounds_toArray, List.set_cons_zero, List.set_cons_succ, i64_w, i32_w]
                  rfl
                refine take_ (i := 53) (N := some 70) (v := ?_) (a' := ?_) #[true, true, true, true, true, true, true, true, true, true, true, true, true, true, true, true, true, true, true, true, true, true, true, true, true, true, true, true, true, true, true, true, true, true, true, true, true, true, true, true, true, true, true, true, true, true, true, true, true, true, false, true, false, true, false, true, false, false, false, false, false, false, false, false, false, false, false, false, false, false, false, false, false, false, false, false, false] rfl rfl (take_ofW HT_.out HW_.out (by kernel_rfl)) (fun _ _ _ h => h) (Or.inl ⟨by rfl, ?_⟩) hHeld ?_ ?_
                rotate_left
                · rintro w' ⟨s0, s1⟩
                  go_simp
                  with_reducible rfl
                rotate_left
                · simp only [Act.put, List.setIfInBounds_toArray, List.set_cons_zero, List.set_cons_succ, i64_w, i32_w]
                  rfl
                refine take_ (i := 54) (N := some 71) (v := ?_) (a' := ?_) #[true, true, true, true, true, true, true, true, true, true, true, true, true, true, true, true, true, true, true, true, true, true, true, true, true, true, true, true, true, true, true, true, true, true, true, true, true, true, true, true, true, true, true, true, true, true, true, true, true, true, false, true, false, true, true, true, false, false, false, false, false, false, false, false, false, false, false, false, false, false, false, false, false, false, false, false, false] rfl rfl (take_ofW HT_.out HW_.out (by kernel_rfl)) (fun _ _ _ h => h) (Or.inl ⟨by rfl, ?_⟩) hHeld ?_ ?_
                rotate_left
                · rintro w' ⟨s0, s1⟩
                  go_simp
                  with_reducible rfl
                rotate_left
                · simp only [Act.put, List.setIfInBounds_toArray, List.set_cons_zero, List.set_cons_succ, i64_w, i32_w]
                  rfl
                refine one_ (i := 50) (N := some 67) #[true, true, true, true, true, true, true, true, true, true, true, true, true, true, true, true, true, true, true, true, true, true, true, true, true, true, true, true, true, true, true, true, true, true, true, true, true, true, true, true, true, true, true, true, true, true, true, true, true, true, true, true, false, true, true, true, false, false, false, false, false, false, false, false, false, false, false, false, false, false, false, false, false, false, false, false, false] rfl rfl (one_of HT_.out (by kernel_rfl)) (by decide) (fun K hK => ?_)
                refine goes_ Try.func32 (by kernel_rfl) rfl #[.agg #[.int .u64 a0_0, .int .u64 a0_1], .int .i64 (wrap64 (Int.tmod (IntKind.u64.wrap (a1)) 130))] (by rfl) rfl rfl (by (try simp only [List.map_toArray, List.map_cons, List.map_nil]); first | done | rfl | (simp only [List.length_drop, List.length_take]; rfl)) ?_
                with_reducible refine (word_Right.calls a0_0 a0_1 (wrap64 (Int.tmod (IntKind.u64.wrap (a1)) 130)) t303 t304 _ A10.out).mono ?_
                rintro e w43 ⟨rfl, hb⟩
                refine ⟨_, rfl, ?_⟩
                have n0_ := Aside0.mk (blk_below (g := gb295) (o := .cells #[.int .u64 a0_0, .int .u64 a0_1] 24 (0, 0)) (by (with_reducible repeat (first | refine blk_drewN ?_ _ | refine blk_drew ?_ | refine blk_alloc ?_ _)); exact BK295.out) hb)
                have n1_ := Aside0.mk (below_step (by repeat (first | (with_reducible first | exact HB.out | apply below_alloc | apply pw_below_drewN | apply below_drew1 | refine below_set ?_ GE295.out) | exact HB.out)) hb)
                clear BK295; clear HB; have BK295 := n0_; have HB := n1_; clear n0_ n1_; (try clear hb); (try clear hb2); (try clear hk); (try clear hi)
                refine hK.out _ _ ⟨(blk_cell BK295.out 0).trans rfl, (blk_cell BK295.out 1).trans rfl⟩ (fun hHeld => ?_)
                clear hK K
                refine norm_ (a' := ?_) ?_ ?_
                rotate_left
                · show Act.put _ (some 67) _ = _
                  simp only [Act.put, List.setIfInBounds_toArray, List.set_cons_zero, List.set_cons_succ, i64_w, i32_w]
                  rfl
                refine one_ (i := 52) (N := some 69) #[true, true, true, true, true, true, true, true, true, true, true, true, true, true, true, true, true, true, true, true, true, true, true, true, true, true, true, true, true, true, true, true, true, true, true, true, true, true, true, true, true, true, true, true, true, true, true, true, true, true, true, true, true, true, true, true, false, false, false, false, false, false, false, false, false, false, false, false, false, false, false, false, false, false, false, false, false] rfl rfl (one_of HT_.out (by kernel_rfl)) (by decide) (fun K hK => ?_)
                refine goes_ Try.func30 (by kernel_rfl) rfl #[.agg #[.int .u64 t303, .int .u64 t304], .int .i64 (wrap64 (Int.tmod (IntKind.u64.wrap (a1)) 130))] (by rfl) rfl rfl (by (try simp only [List.map_toArray, List.map_cons, List.map_nil]); first | done | rfl | (simp only [List.length_drop, List.length_take]; rfl)) ?_
                with_reducible refine (word_Left.calls t303 t304 (wrap64 (Int.tmod (IntKind.u64.wrap (a1)) 130)) t321 t322 _ A22.out).mono ?_
                rintro e w44 ⟨rfl, hb⟩
                refine ⟨_, rfl, ?_⟩
                have n0_ := Aside0.mk (blk_below (g := gb295) (o := .cells #[.int .u64 a0_0, .int .u64 a0_1] 24 (0, 0)) (by (with_reducible repeat (first | refine blk_drewN ?_ _ | refine blk_drew ?_ | refine blk_alloc ?_ _)); exact BK295.out) hb)
                have n1_ := Aside0.mk (below_step (by repeat (first | (with_reducible first | exact HB.out | apply below_alloc | apply pw_below_drewN | apply below_drew1 | refine below_set ?_ GE295.out) | exact HB.out)) hb)
                clear BK295; clear HB; have BK295 := n0_; have HB := n1_; clear n0_ n1_; (try clear hb); (try clear hb2); (try clear hk); (try clear hi)
                refine hK.out _ _ ⟨(blk_cell BK295.out 0).trans rfl, (blk_cell BK295.out 1).trans rfl⟩ (fun hHeld => ?_)
                clear hK K
                refine norm_ (a' := ?_) ?_ ?_
                rotate_left
                · show Act.put _ (some 69) _ = _
                  simp only [Act.put, List.setIfInBounds_toArray, List.set_cons_zero, List.set_cons_succ, i64_w, i32_w]
                  rfl
                refine one_ (i := 56) (N := some 73) #[true, true, true, true, true, true, true, true, true, true, true, true, true, true, true, true, true, true, true, true, true, true, true, true, true, true, true, true, true, true, true, true, true, true, true, true, true, true, true, true, true, true, true, true, true, true, true, true, true, true, true, true, true, true, true, true, true, false, false, false, false, false, false, false, false, false, false, false, false, false, false, false, false, false, false, false, false] rfl rfl (one_of HT_.out (by kernel_rfl)) (by decide) (fun K hK => ?_)
                refine goes_ Try.func34 (by kernel_rfl) rfl #[.agg #[.int .u64 a0_0, .int .u64 a0_1], .int .i64 (wrap64 (Int.tmod (IntKind.u64.wrap (a1)) 130))] (by rfl) rfl rfl (by (try simp only [List.map_toArray, List.map_cons, List.map_nil]); first | done | rfl | (simp only [List.length_drop, List.length_take]; rfl)) ?_
                with_reducible refine (word_Cut.calls a0_0 a0_1 (wrap64 (Int.tmod (IntKind.u64.wrap (a1)) 130)) t323 t324 _ A23.out).mono ?_
                rintro e w45 ⟨rfl, hb⟩
                refine ⟨_, rfl, ?_⟩
                have n0_ := Aside0.mk (blk_below (g := gb295) (o := .cells #[.int .u64 a0_0, .int .u64 a0_1] 24 (0, 0)) (by (with_reducible repeat (first | refine blk_drewN ?_ _ | refine blk_drew ?_ | refine blk_alloc ?_ _)); exact BK295.out) hb)
                have n1_ := Aside0.mk (below_step (by repeat (first | (with_reducible first | exact HB.out | apply below_alloc | apply pw_below_drewN | apply below_drew1 | refine below_set ?_ GE295.out) | exact HB.out)) hb)
                clear BK295; clear HB; have BK295 := n0_; have HB := n1_; clear n0_ n1_; (try clear hb); (try clear hb2); (try clear hk); (try clear hi)
                refine hK.out _ _ ⟨(blk_cell BK295.out 0).trans rfl, (blk_cell BK295.out 1).trans rfl⟩ (fun hHeld => ?_)
                clear hK K
                refine norm_ (a' := ?_) ?_ ?_
                rotate_left
                · show Act.put _ (some 73) _ = _
                  simp only [Act.put, List.setIfInBounds_toArray, List.set_cons_zero, List.set_cons_succ, i64_w, i32_w]
                  rfl
                refine one_ (i := 57) (N := some 74) #[true, true, true, true, true, true, true, true, true, true, true, true, true, true, true, true, true, true, true, true, true, true, true, true, true, true, true, true, true, true, true, true, true, true, true, true, true, true, true, true, true, true, true, true, true, true, true, true, true, true, true, true, true, true, true, true, true, true, false, false, false, false, false, false, false, false, false, false, false, false, false, false, false, false, false, false, false] rfl rfl (one_of HT_.out (by kernel_rfl)) (by decide) (fun K hK => ?_)
                refine goes_ Try.func18 (by kernel_rfl) rfl #[.agg #[.int .u64 a0_0, .int .u64 a0_1], .agg #[.int .u64 t323, .int .u64 t324]] (by rfl) rfl rfl (by (try simp only [List.map_toArray, List.map_cons, List.map_nil]); first | done | rfl | (simp only [List.length_drop, List.length_take]; rfl)) ?_
                with_reducible refine (word_Sub.calls a0_0 a0_1 t323 t324 t325 t326 _ A24.out).mono ?_
                rintro e w46 ⟨rfl, hb⟩
                refine ⟨_, rfl, ?_⟩
                have n0_ := Aside0.mk (blk_below (g := gb295) (o := .cells #[.int .u64 a0_0, .int .u64 a0_1] 24 (0, 0)) (by (with_reducible repeat (first | refine blk_drewN ?_ _ | refine blk_drew ?_ | refine blk_alloc ?_ _)); exact BK295.out) hb)
                have n1_ := Aside0.mk (below_step (by repeat (first | (with_reducible first | exact HB.out | apply below_alloc | apply pw_below_drewN | apply below_drew1 | refine below_set ?_ GE295.out) | exact HB.out)) hb)
                clear BK295; clear HB; have BK295 := n0_; have HB := n1_; clear n0_ n1_; (try clear hb); (try clear hb2); (try clear hk); (try clear hi)
                refine hK.out _ _ ⟨(blk_cell BK295.out 0).trans rfl, (blk_cell BK295.out 1).trans rfl⟩ (fun hHeld => ?_)
                clear hK K
                refine norm_ (a' := ?_) ?_ ?_
                rotate_left
                · show Act.put _ (some 74) _ = _
                  simp only [Act.put, List.setIfInBounds_toArray, List.set_cons_zero, List.set_cons_succ, i64_w, i32_w]
                  rfl
                refine pure_ (i := 58) (N := some 75) (v := ?_) (a' := ?_) #[true, true, true, true, true, true, true, true, true, true, true, true, true, true, true, true, true, true, true, true, true, true, true, true, true, true, true, true, true, true, true, true, true, true, true, true, true, true, true, true, true, true, true, true, true, true, true, true, true, true, true, true, true, true, true, true, true, true, true, false, false, false, false, false, false, false, false, false, false, false, false, false, false, false, false, false, false] rfl rfl (any_of HT_.out (by kernel_rfl)) (fun _ _ _ h => h) (Or.inl ⟨by rfl, ?_⟩) ?_ ?_
                rotate_left
                · intro w'
                  go_simp
                  with_reducible rfl
                rotate_left
                · simp only [Act.put, List.setIfInBounds_toArray, List.set_cons_zero, List.set_cons_succ, i64_w, i32_w]
                  rfl
                refine pure_ (i := 59) (N := some 76) (v := ?_) (a' := ?_) #[true, true, true, true, true, true, true, true, true, true, true, true, true, true, true, true, true, true, true, true, true, true, true, true, true, true, true, true, true, true, true, true, true, true, true, true, true, true, true, true, true, true, true, true, true, true, true, true, true, true, true, true, true, true, true, true, true, true, true, true, false, false, false, false, false, false, false, false, false, false, false, false, false, false, false, false, false] rfl rfl (any_of HT_.out (by kernel_rfl)) (fun _ _ _ h => h) (Or.inl ⟨by rfl, ?_⟩) ?_ ?_
                rotate_left
                · intro w'
                  go_simp
                  with_reducible rfl
                rotate_left
                · simp only [Act.put, List.setIfInBounds_toArray, List.set_cons_zero, List.set_cons_succ, i64_w, i32_w]
                  rfl
                refine pure_ (i := 60) (N := some 77) (v := ?_) (a' := ?_) #[true, true, true, true, true, true, true, true, true, true, true, true, true, true, true, true, true, true, true, true, true, true, true, true, true, true, true, true, true, true, true, true, true, true, true, true, true, true, true, true, true, true, true, true, true, true, true, true, true, true, true, true, true, true, true, true, true, true, true, true, true, false, false, false, false, false, false, false, false, false, false, false, false, false, false, false, false] rfl rfl (any_of HT_.out (by kernel_rfl)) (fun _ _ _ h => h) (Or.inl ⟨by rfl, ?_⟩) ?_ ?_
                rotate_left
                · intro w'
                  go_simp
                  with_reducible rfl
                rotate_left
                · simp only [Act.put, List.setIfInBounds_toArray, List.set_cons_zero, List.set_cons_succ, i64_w, i32_w]
                  rfl
                refine pure_ (i := 62) (N := some 79) (v := ?_) (a' := ?_) #[true, true, true, true, true, true, true, true, true, true, true, true, true, true, true, true, true, true, true, true, true, true, true, true, true, true, true, true, true, true, true, true, true, true, true, true, true, true, true, true, true, true, true, true, true, true, true, true, true, true, true, true, true, true, true, true, true, true, true, true, true, false, true, false, false, false, false, false, false, false, false, false, false, false, false, false, false] rfl rfl (any_of HT_.out (by kernel_rfl)) (fun _ _ _ h => h) (Or.inl ⟨by rfl, ?_⟩) ?_ ?_
                rotate_left
                · intro w'
                  go_simp
                  with_reducible rfl
                rotate_left
                · simp only [Act.put, List.setIfInBounds_toArray, List.set_cons_zero, List.set_cons_succ, i64_w, i32_w]
                  rfl
                refine pure_ (i := 63) (N := some 80) (v := ?_) (a' := ?_) #[true, true, true, true, true, true, true, true, true, true, true, true, true, true, true, true, true, true, true, true, true, true, true, true, true, true, true, true, true, true, true, true, true, true, true, true, true, true, true, true, true, true, true, true, true, true, true, true, true, true, true, true, true, true, true, true, true, true, true, true, true, false, true, true, false, false, false, false, false, false, false, false, false, false, false, false, false] rfl rfl (any_of HT_.out (by kernel_rfl)) (fun _ _ _ h => h) (Or.inl ⟨by rfl, ?_⟩) ?_ ?_
                rotate_left
                · intro w'
                  go_simp
                  with_reducible rfl
                rotate_left
                · simp only [Act.put, List.setIfInBounds_toArray, List.set_cons_zero, List.set_cons_succ, i64_w, i32_w]
                  rfl
                refine take_ (i := 61) (N := some 78) (v := ?_) (a' := ?_) #[true, true, true, true, true, true, true, true, true, true, true, true, true, true, true, true, true, true, true, true, true, true, true, true, true, true, true, true, true, true, true, true, true, true, true, true, true, true, true, true, true, true, true, true, true, true, true, true, true, true, true, true, true, true, true, true, true, true, true, true, true, true, true, true, false, false, false, false, false, false, false, false, false, false, false, false, false] rfl rfl (take_ofW HT_.out HW_.out (by kernel_rfl)) (fun _ _ _ h => h) (Or.inl ⟨by rfl, ?_⟩) hHeld ?_ ?_
                rotate_left
                · rintro w' ⟨s0, s1⟩
                  go_simp
                  with_reducible rfl
                rotate_left
                · simp only [Act.put, List.setIfInBounds_toArray, List.set_cons_zero, List.set_cons_succ, i64_w, i32_w]
                  rfl
                refine take_ (i := 65) (N := some 82) (v := ?_) (a' := ?_) #[true, true, true, true, true, true, true, true, true, true, true, true, true, true, true, true, true, true, true, true, true, true, true, true, true, true, true, true, true, true, true, true, true, true, true, true, true, true, true, true, true, true, true, true, true, true, true, true, true, true, true, true, true, true, true, true, true, true, true, true, true, true, true, true, false, true, false, false, false, false, false, false, false, false, false, false, false] rfl rfl (take_ofW HT_.out HW_.out (by kernel_rfl)) (fun _ _ _ h => h) (Or.inl ⟨by rfl, ?_⟩) hHeld ?_ ?_
                rotate_left
                · rintro w' ⟨s0, s1⟩
                  go_simp
                  with_reducible rfl
                rotate_left
                · simp only [Act.put, List.setIfInBounds_toArray, List.set_cons_zero, List.set_cons_succ, i64_w, i32_w]
                  rfl
                refine one_ (i := 64) (N := some 81) #[true, true, true, true, true, true, true, true, true, true, true, true, true, true, true, true, true, true, true, true, true, true, true, true, true, true, true, true, true, true, true, true, true, true, true, true, true, true, true, true, true, true, true, true, true, true, true, true, true, true, true, true, true, true, true, true, true, true, true, true, true, true, true, true, true, true, false, false, false, false, false, false, false, false, false, false, false] rfl rfl (one_of HT_.out (by kernel_rfl)) (by decide) (fun K hK => ?_)
                refine goes_ Try.func30 (by kernel_rfl) rfl #[.agg #[.int .u64 a0_0, .int .u64 a0_1], .int .i64 (wrap64 (-(wrap64 (Int.tmod (IntKind.u64.wrap (a2)) 130))))] (by rfl) rfl rfl (by (try simp only [List.map_toArray, List.map_cons, List.map_nil]); first | done | rfl | (simp only [List.length_drop, List.length_take]; rfl)) ?_
                with_reducible refine (word_Left.calls a0_0 a0_1 (wrap64 (-(wrap64 (Int.tmod (IntKind.u64.wrap (a2)) 130)))) t327 t328 _ A26.out).mono ?_
                rintro e w47 ⟨rfl, hb⟩
                refine ⟨_, rfl, ?_⟩
                have n0_ := Aside0.mk (blk_below (g := gb295) (o := .cells #[.int .u64 a0_0, .int .u64 a0_1] 24 (0, 0)) (by (with_reducible repeat (first | refine blk_drewN ?_ _ | refine blk_drew ?_ | refine blk_alloc ?_ _)); exact BK295.out) hb)
                have n1_ := Aside0.mk (below_step (by repeat (first | (with_reducible first | exact HB.out | apply below_alloc | apply pw_below_drewN | apply below_drew1 | refine below_set ?_ GE295.out) | exact HB.out)) hb)
                clear BK295; clear HB; have BK295 := n0_; have HB := n1_; clear n0_ n1_; (try clear hb); (try clear hb2); (try clear hk); (try clear hi)
                refine hK.out _ _ ⟨(blk_cell BK295.out 0).trans rfl, (blk_cell BK295.out 1).trans rfl⟩ (fun hHeld => ?_)
                clear hK K
                refine norm_ (a' := ?_) ?_ ?_
                rotate_left
                · show Act.put _ (some 81) _ = _
                  simp only [Act.put, List.setIfInBounds_toArray, List.set_cons_zero, List.set_cons_succ, i64_w, i32_w]
                  rfl
                refine pure_ (i := 66) (N := some 83) (v := ?_) (a' := ?_) #[true, true, true, true, true, true, true, true, true, true, true, true, true, true, true, true, true, true, true, true, true, true, true, true, true, true, true, true, true, true, true, true, true, true, true, true, true, true, true, true, true, true, true, true, true, true, true, true, true, true, true, true, true, true, true, true, true, true, true, true, true, true, true, true, true, true, true, false, false, false, false, false, false, false, false, false, false] rfl rfl (any_of HT_.out (by kernel_rfl)) (fun _ _ _ h => h) (Or.inl ⟨by rfl, ?_⟩) ?_ ?_
                rotate_left
                · intro w'
                  go_simp
                  with_reducible rfl
                rotate_left
                · simp only [Act.put, List.setIfInBounds_toArray, List.set_cons_zero, List.set_cons_succ, i64_w, i32_w]
                  rfl
                refine pure_ (i := 67) (N := some 84) (v := ?_) (a' := ?_) #[true, true, true, true, true, true, true, true, true, true, true, true, true, true, true, true, true, true, true, true, true, true, true, true, true, true, true, true, true, true, true, true, true, true, true, true, true, true, true, true, true, true, true, true, true, true, true, true, true, true, true, true, true, true, true, true, true, true, true, true, true, true, true, true, true, true, true, true, false, false, false, false, false, false, false, false, false] rfl rfl (any_of HT_.out (by kernel_rfl)) (fun _ _ _ h => h) (Or.inl ⟨by rfl, ?_⟩) ?_ ?_
                rotate_left
                · intro w'
                  go_simp
                  with_reducible rfl
                rotate_left
                · simp only [Act.put, List.setIfInBounds_toArray, List.set_cons_zero, List.set_cons_succ, i64_w, i32_w]
                  rfl
                refine pure_ (i := 68) (N := some 85) (v := ?_) (a' := ?_) #[true, true, true, true, true, true, true, true, true, true, true, true, true, true, true, true, true, true, true, true, true, true, true, true, true, true, true, true, true, true, true, true, true, true, true, true, true, true, true, true, true, true, true, true, true, true, true, true, true, true, true, true, true, true, true, true, true, true, true, true, true, true, true, true, true, true, true, true, true, false, false, false, false, false, false, false, false] rfl rfl (any_of HT_.out (by kernel_rfl)) (fun _ _ _ h => h) (Or.inl ⟨by rfl, ?_⟩) ?_ ?_
                rotate_left
                · intro w'
                  go_simp
                  with_reducible rfl
                rotate_left
                · simp only [Act.put, List.setIfInBounds_toArray, List.set_cons_zero, List.set_cons_succ, i64_w, i32_w]
                  rfl
                refine pure_ (i := 70) (N := some 87) (v := ?_) (a' := ?_) #[true, true, true, true, true, true, true, true, true, true, true, true, true, true, true, true, true, true, true, true, true, true, true, true, true, true, true, true, true, true, true, true, true, true, true, true, true, true, true, true, true, true, true, true, true, true, true, true, true, true, true, true, true, true, true, true, true, true, true, true, true, true, true, true, true, true, true, true, true, false, true, false, false, false, false, false, false] rfl rfl (any_of HT_.out (by kernel_rfl)) (fun _ _ _ h => h) (Or.inl ⟨by rfl, ?_⟩) ?_ ?_
                rotate_left
                · intro w'
                  go_simp
                  with_reducible rfl
                rotate_left
                · simp only [Act.put, List.setIfInBounds_toArray, List.set_cons_zero, List.set_cons_succ, i64_w, i32_w]
                  rfl
                refine pure_ (i := 71) (N := some 88) (v := ?_) (a' := ?_) #[true, true, true, true, true, true, true, true, true, true, true, true, true, true, true, true, true, true, true, true, true, true, true, true, true, true, true, true, true, true, true, true, true, true, true, true, true, true, true, true, true, true, true, true, true, true, true, true, true, true, true, true, true, true, true, true, true, true, true, true, true, true, true, true, true, true, true, true, true, false, true, true, false, false, false, false, false] rfl rfl (any_of HT_.out (by kernel_rfl)) (fun _ _ _ h => h) (Or.inl ⟨by rfl, ?_⟩) ?_ ?_
                rotate_left
                · intro w'
                  go_simp
                  with_reducible rfl
                rotate_left
                · simp only [Act.put, List.setIfInBounds_toArray, List.set_cons_zero, List.set_cons_succ, i64_w, i32_w]
                  rfl
                refine take_ (i := 69) (N := some 86) (v := ?_) (a' := ?_) #[true, true, true, true, true, true, true, true, true, true, true, true, true, true, true, true, true, true, true, true, true, true, true, true, true, true, true, true, true, true, true, true, true, true, true, true, true, true, true, true, true, true, true, true, true, true, true, true, true, true, true, true, true, true, true, true, true, true, true, true, true, true, true, true, true, true, true, true, true, true, true, true, false, false, false, false, false] rfl rfl (take_ofW HT_.out HW_.out (by kernel_rfl)) (fun _ _ _ h => h) (Or.inl ⟨by rfl, ?_⟩) hHeld ?_ ?_
                rotate_left
                · rintro w' ⟨s0, s1⟩
                  go_simp
                  with_reducible rfl
                rotate_left
                · simp only [Act.put, List.setIfInBounds_toArray, List.set_cons_zero, List.set_cons_succ, i64_w, i32_w]
                  rfl
                refine take_ (i := 73) (N := some 90) (v := ?_) (a' := ?_) #[true, true, true, true, true, true, true, true, true, true, true, true, true, true, true, true, true, true, true, true, true, true, true, true, true, true, true, true, true, true, true, true, true, true, true, true, true, true, true, true, true, true, true, true, true, true, true, true, true, true, true, true, true, true, true, true, true, true, true, true, true, true, true, true, true, true, true, true, true, true, true, true, false, true, false, false, false] rfl rfl (take_ofW HT_.out HW_.out (by kernel_rfl)) (fun _ _ _ h => h) (Or.inl ⟨by rfl, ?_⟩) hHeld ?_ ?_
                rotate_left
                · rintro w' ⟨s0, s1⟩
                  go_simp
                  with_reducible rfl
                rotate_left
                · simp only [Act.put, List.setIfInBounds_toArray, List.set_cons_zero, List.set_cons_succ, i64_w, i32_w]
                  rfl
                refine one_ (i := 72) (N := some 89) #[true, true, true, true, true, true, true, true, true, true, true, true, true, true, true, true, true, true, true, true, true, true, true, true, true, true, true, true, true, true, true, true, true, true, true, true, true, true, true, true, true, true, true, true, true, true, true, true, true, true, true, true, true, true, true, true, true, true, true, true, true, true, true, true, true, true, true, true, true, true, true, true, true, true, false, false, false] rfl rfl (one_of HT_.out (by kernel_rfl)) (by decide) (fun K hK => ?_)
                refine goes_ Try.func32 (by kernel_rfl) rfl #[.agg #[.int .u64 a0_0, .int .u64 a0_1], .int .i64 (wrap64 (-(wrap64 (Int.tmod (IntKind.u64.wrap (a2)) 130))))] (by rfl) rfl rfl (by (try simp only [List.map_toArray, List.map_cons, List.map_nil]); first | done | rfl | (simp only [List.length_drop, List.length_take]; rfl)) ?_
                with_reducible refine (word_Right.calls a0_0 a0_1 (wrap64 (-(wrap64 (Int.tmod (IntKind.u64.wrap (a2)) 130)))) t329 t330 _ A28.out).mono ?_
                rintro e w48 ⟨rfl, hb⟩
                refine ⟨_, rfl, ?_⟩
                have n0_ := Aside0.mk (blk_below (g := gb295) (o := .cells #[.int .u64 a0_0, .int .u64 a0_1] 24 (0, 0)) (by (with_reducible repeat (first | refine blk_drewN ?_ _ | refine blk_drew ?_ | refine blk_alloc ?_ _)); exact BK295.out) hb)
                have n1_ := Aside0.mk (below_step (by repeat (first | (with_reducible first | exact HB.out | apply below_alloc | apply pw_below_drewN | apply below_drew1 | refine below_set ?_ GE295.out) | exact HB.out)) hb)
                clear BK295; clear HB; have BK295 := n0_; have HB := n1_; clear n0_ n1_; (try clear hb); (try clear hb2); (try clear hk); (try clear hi)
                refine hK.out _ _ ⟨(blk_cell BK295.out 0).trans rfl, (blk_cell BK295.out 1).trans rfl⟩ (fun hHeld => ?_)
                clear hK K
                refine norm_ (a' := ?_) ?_ ?_
                rotate_left
                · show Act.put _ (some 89) _ = _
                  simp only [Act.put, List.setIfInBounds_toArray, List.set_cons_zero, List.set_cons_succ, i64_w, i32_w]
                  rfl
                refine pure_ (i := 74) (N := some 91) (v := ?_) (a' := ?_) #[true, true, true, true, true, true, true, true, true, true, true, true, true, true, true, true, true, true, true, true, true, true, true, true, true, true, true, true, true, true, true, true, true, true, true, true, true, true, true, true, true, true, true, true, true, true, true, true, true, true, true, true, true, true, true, true, true, true, true, true, true, true, true, true, true, true, true, true, true, true, true, true, true, true, true, false, false] rfl rfl (any_of HT_.out (by kernel_rfl)) (fun _ _ _ h => h) (Or.inl ⟨by rfl, ?_⟩) ?_ ?_
                rotate_left
                · intro w'
                  go_simp
                  with_reducible rfl
                rotate_left
                · simp only [Act.put, List.setIfInBounds_toArray, List.set_cons_zero, List.set_cons_succ, i64_w, i32_w]
                  rfl
                refine pure_ (i := 75) (N := some 92) (v := ?_) (a' := ?_) #[true, true, true, true, true, true, true, true, true, true, true, true, true, true, true, true, true, true, true, true, true, true, true, true, true, true, true, true, true, true, true, true, true, true, true, true, true, true, true, true, true, true, true, true, true, true, true, true, true, true, true, true, true, true, true, true, true, true, true, true, true, true, true, true, true, true, true, true, true, true, true, true, true, true, true, true, false] rfl rfl (any_of HT_.out (by kernel_rfl)) (fun _ _ _ h => h) (Or.inl ⟨by rfl, ?_⟩) ?_ ?_
                rotate_left
                · intro w'
                  go_simp
                  with_reducible rfl
                rotate_left
                · simp only [Act.put, List.setIfInBounds_toArray, List.set_cons_zero, List.set_cons_succ, i64_w, i32_w]
                  rfl
                refine pure_ (i := 76) (N := some 6) (v := ?_) (a' := ?_) #[true, true, true, true, true, true, true, true, true, true, true, true, true, true, true, true, true, true, true, true, true, true, true, true, true, true, true, true, true, true, true, true, true, true, true, true, true, true, true, true, true, true, true, true, true, true, true, true, true, true, true, true, true, true, true, true, true, true, true, true, true, true, true, true, true, true, true, true, true, true, true, true, true, true, true, true, true] rfl rfl (any_of HT_.out (by kernel_rfl)) (fun _ _ _ h => h) (Or.inl ⟨by rfl, ?_⟩) ?_ ?_
                rotate_left
                · intro w'
                  go_simp
                  with_reducible rfl
                rotate_left
                · simp only [Act.put, List.setIfInBounds_toArray, List.set_cons_zero, List.set_cons_succ, i64_w, i32_w]
                  rfl
                refine done_ (done_of HT_.out (by kernel_rfl)) ?_
                try go_wp2
                go_ret
                exact ⟨by first | rfl | (simp [errW_none, errW_some] <;> rfl) | (simp [*, errW_none, errW_some] <;> rfl), by repeat (first | (with_reducible first | exact HB.out | apply below_alloc | apply pw_below_drewN | apply below_drew1 | refine below_set ?_ GE295.out) | exact HB.out)⟩
              · rw [if_neg c27] at H
                have c27b0 : (t327 == a0_0 && (t328 == a0_1)) = false := by simpa using c27
                (try (have c27b1 : decide (t327 = a0_0 && (t328 == a0_1)) = false := by simpa using c27))
                (try (have c27b2 : (t327 == a0_0 && (t328 == a0_1)) = false := by simpa using c27))
                (try (have c27b3 : ¬ (t327 = a0_0 && (t328 == a0_1)) := by simpa using c27))
                clear c27
                exact absurd ((Option.some.inj H).trans hr_.out) (by decide)
            · rw [if_neg c25] at H
              have c25b0 : (t321 == t325 && (t322 == t326)) = false := by simpa using c25
              (try (have c25b1 : decide (t321 = t325 && (t322 == t326)) = false := by simpa using c25))
              (try (have c25b2 : (t321 == t325 && (t322 == t326)) = false := by simpa using c25))
              (try (have c25b3 : ¬ (t321 = t325 && (t322 == t326)) := by simpa using c25))
              clear c25
              exact absurd ((Option.some.inj H).trans hr_.out) (by decide)
          · rw [if_neg c20] at H
            have c20b0 : (t315 == t317 && (t316 == t318)) = false := by simpa using c20
            (try (have c20b1 : decide (t315 = t317 && (t316 == t318)) = false := by simpa using c20))
            (try (have c20b2 : (t315 == t317 && (t316 == t318)) = false := by simpa using c20))
            (try (have c20b3 : ¬ (t315 = t317 && (t316 == t318)) := by simpa using c20))
            clear c20
            exact absurd ((Option.some.inj H).trans hr_.out) (by decide)
        · rw [if_neg c16] at H
          have c16b0 : (t309 == t311 && (t310 == t312)) = false := by simpa using c16
          (try (have c16b1 : decide (t309 = t311 && (t310 == t312)) = false := by simpa using c16))
          (try (have c16b2 : (t309 == t311 && (t310 == t312)) = false := by simpa using c16))
          (try (have c16b3 : ¬ (t309 = t311 && (t310 == t312)) := by simpa using c16))
          clear c16
          exact absurd ((Option.some.inj H).trans hr_.out) (by decide)
      · rw [if_neg c13] at H
        have c13b0 : (t305 == t307 && (t306 == t308)) = false := by simpa using c13
        (try (have c13b1 : decide (t305 = t307 && (t306 == t308)) = false := by simpa using c13))
        (try (have c13b2 : (t305 == t307 && (t306 == t308)) = false := by simpa using c13))
        (try (have c13b3 : ¬ (t305 = t307 && (t306 == t308)) := by simpa using c13))
        clear c13
        exact absurd ((Option.some.inj H).trans hr_.out) (by decide)
    · rw [if_neg c9] at H
      have c9b0 : (t299 == t301 && (t300 == t302)) = false := by simpa using c9
      (try (have c9b1 : decide (t299 = t301 && (t300 == t302)) = false := by simpa using c9))
      (try (have c9b2 : (t299 == t301 && (t300 == t302)) = false := by simpa using c9))
      (try (have c9b3 : ¬ (t299 = t301 && (t300 == t302)) := by simpa using c9))
      clear c9
      exact absurd ((Option.some.inj H).trans hr_.out) (by decide)
  · replace c5 := Bool.eq_false_iff.mpr c5
    subst c5
    have H1 : (some false) = some r := by rw [if_neg (show ¬ (false = true) by decide)] at H; exact H
    clear H; have H := H1; clear H1
    exact absurd ((Option.some.inj H).trans hr_.out) (by decide)

/-- THE ONE PURE STATEMENT of turnoutlaw01_WordShifts: yours. -/
def turnoutlaw01_WordShifts.Pure : Prop := (∀ (a0_0 : Int) (a0_1 : Int) (a1 : Int) (a2 : Int), (Lit.int .u64 a0_0).wf = true → (Lit.int .u64 a0_1).wf = true → (Lit.int .i64 a1).wf = true → (Lit.int .i64 a2).wf = true → ∃ k, turnoutlaw01_WordShifts.f k a0_0 a0_1 a1 a2 = some true) ∧ (∀ k r, turnoutlaw01_awake.f k = some r → r = true)
theorem turnoutlaw01_WordShifts.walk (P : turnoutlaw01_WordShifts.Pure) (a0_0 : Int) (a0_1 : Int) (a1 : Int) (a2 : Int) (w : World) (w0_0 : (Lit.int .u64 a0_0).wf = true) (w0_1 : (Lit.int .u64 a0_1).wf = true) (w1 : (Lit.int .i64 a1).wf = true) (w2 : (Lit.int .i64 a2).wf = true) :
    Calls Try.prog 6 #[.agg #[.int .u64 a0_0, .int .u64 a0_1], .int .i64 a1, .int .i64 a2] w fun e w' => e = .returned (.bool true) ∧ Below w.heap.size w w' := by
  obtain ⟨k, h⟩ := P.1 a0_0 a0_1 a1 a2 w0_0 w0_1 w1 w2
  refine (turnoutlaw01_WordShifts.calls k a0_0 a0_1 a1 a2 true w h ⟨rfl⟩ ⟨P.2⟩).mono ?_
  rintro e w' ⟨rfl, hd⟩
  exact ⟨rfl, hd⟩

end Go.Proofs.Ytmplgmlfpfopbaa.PWord
