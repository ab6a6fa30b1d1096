-- Written by wip/turnprint.py, a program of this session (the kit's print, turned).
import Derived.Test.YtmplgmlfpfopbaaPWordBx0
import Derived.Test.YtmplgmlfpfopbaaPWordBx1
import Derived.Test.YtmplgmlfpfopbaaPWordBx2
import Derived.Test.YtmplgmlfpfopbaaPWordBx4
namespace Go.Proofs.Ytmplgmlfpfopbaa.PWordB
open Go.RowKit Go.Proofs.YtmplgmlfpfopbaaW.PrintWords Go.Proofs.YtmplgmlfpfopbaaW.PrintLast Go.Proofs.YtmplgmlfpfopbaaW.PrintMore
attribute [local go_sem] max2_int min2_int max_two min_two max_three min_three max_four min_four   -- for this text's walks alone
set_option linter.unusedVariables false
set_option linter.unusedSimpArgs false

attribute [local go_sem high] eqA24
attribute [local go_sem high] xorA_u8 xorA_u16 xorA_u32 xorA_u64
/-! ### turnoutlaw01_WordLogic: function 10 -/
def turnoutlaw01_WordLogic.f (k : Nat) (a0_0 : Int) (a0_1 : Int) (a1_0 : Int) (a1_1 : Int) (a2_0 : Int) (a2_1 : Int) : Option (Bool) := (word_Xor.f a0_0 a0_1 a1_0 a1_1).bind fun bt179 => ((word_And.f a0_0 a0_1 a1_0 a1_1).bind fun bt181 => ((turnoutlaw01_awake.f k).bind fun t185 => (if t185 = true then ((word_Add.f a0_0 a0_1 a1_0 a1_1).bind fun bt186 => ((word_Left.f bt181.1 bt181.2 1).bind fun bt188 => ((word_Add.f bt179.1 bt179.2 bt188.1 bt188.2).bind fun bt190 => (if (bt186.1 == bt190.1 && (bt186.2 == bt190.2)) = true then ((word_Or.f a0_0 a0_1 a1_0 a1_1).bind fun bt192 => ((word_Xor.f bt179.1 bt179.2 bt181.1 bt181.2).bind fun bt194 => (if (bt192.1 == bt194.1 && (bt192.2 == bt194.2)) = true then ((word_Not.f bt181.1 bt181.2).bind fun bt196 => ((word_Not.f a0_0 a0_1).bind fun bt198 => ((word_Not.f a1_0 a1_1).bind fun bt200 => ((word_Or.f bt198.1 bt198.2 bt200.1 bt200.2).bind fun bt202 => (if (bt196.1 == bt202.1 && (bt196.2 == bt202.2)) = true then ((word_Xor.f bt179.1 bt179.2 a1_0 a1_1).bind fun bt204 => (if (bt204.1 == a0_0 && (bt204.2 == a0_1)) = true then ((word_Or.f a1_0 a1_1 a2_0 a2_1).bind fun bt206 => ((word_And.f a0_0 a0_1 bt206.1 bt206.2).bind fun bt208 => ((word_And.f a0_0 a0_1 a2_0 a2_1).bind fun bt210 => ((word_Or.f bt181.1 bt181.2 bt210.1 bt210.2).bind fun bt212 => (if (bt208.1 == bt212.1 && (bt208.2 == bt212.2)) = true then ((word_Or.f a0_0 a0_1 a1_0 a1_1).bind fun bt214 => ((word_Sub.f bt214.1 bt214.2 a1_0 a1_1).bind fun bt216 => ((word_Not.f a1_0 a1_1).bind fun bt218 => ((word_And.f a0_0 a0_1 bt218.1 bt218.2).bind fun bt220 => (if (bt216.1 == bt220.1 && (bt216.2 == bt220.2)) = true then ((word_Or.f a0_0 a0_1 a1_0 a1_1).bind fun bt222 => ((word_Compare.f bt181.1 bt181.2 bt222.1 bt222.2).bind fun t224 => (some (decide (t224 ≤ 0))))) else (some false)))))) else (some false)))))) else (some false))) else (some false)))))) else (some false)))) else (some false))))) else (some false))))
theorem turnoutlaw01_WordLogic.mono : ∀ a0 a1 a2 a3 a4 a5 k, LeO (turnoutlaw01_WordLogic.f k a0 a1 a2 a3 a4 a5) (turnoutlaw01_WordLogic.f (k + 1) a0 a1 a2 a3 a4 a5) := by
  intro a0 a1 a2 a3 a4 a5 k
  unfold turnoutlaw01_WordLogic.f
  repeat' first
      | (with_reducible exact turnoutlaw01_awake.mono _)
      | (with_reducible exact LeO.refl _)
      | (with_reducible exact LeO.none _)
      | (with_reducible refine LeO.ite ?_ ?_)
      | (with_reducible refine LeO.bind ?_ (fun _ => ?_))
      | exact turnoutlaw01_awake.mono _
      | exact LeO.none _
      | refine LeO.ite ?_ ?_
      | refine LeO.bind ?_ (fun _ => ?_)
def turnoutlaw01_WordLogic.T1 : Bool × List (List Nat × List Nat) := (true, [([], []), ([], []), ([0, 1], [0, 1]), ([], []), ([], []), ([3, 4, 2], [3, 4]), ([], []), ([], []), ([6, 2, 5, 0, 1, 2, 6, 7], [2, 6]), ([7, 5, 8, 0, 1, 2, 3, 4, 5, 6, 7, 8], [5, 7])])
def turnoutlaw01_WordLogic.B1 : List Nat := [0, 0, 3, 0, 0, 31, 0, 0, 255, 511]
theorem turnoutlaw01_WordLogic.tab1 : rtab .any (opsOf Try.f10 1) = turnoutlaw01_WordLogic.T1 := by kernel_rfl
theorem turnoutlaw01_WordLogic.bits1 : waitsOk turnoutlaw01_WordLogic.T1.2 turnoutlaw01_WordLogic.B1 = true := by kernel_rfl
def turnoutlaw01_WordLogic.T2 : Bool × List (List Nat × List Nat) := (true, [([], []), ([0, 0], [0]), ([1], [1]), ([1], [1]), ([2, 3, 1, 1], [1, 2, 3]), ([1], [1]), ([1], [1]), ([6, 4, 1], [1, 6]), ([5, 7, 7, 1], [1, 5, 7]), ([4, 8, 1], [1, 4, 8]), ([1, 9], [1, 9]), ([10, 8], [10]), ([11], [11]), ([11], [11]), ([12, 13, 11, 11], [11, 12, 13]), ([11], [11]), ([11], [11]), ([15, 16, 14, 11], [11, 15, 16]), ([14, 17, 11], [11, 14, 17]), ([11, 18], [11, 18]), ([19, 17], [19]), ([20], [20]), ([21, 20, 20], [20, 21]), ([20], [20]), ([23, 22, 20], [20, 23]), ([20], [20]), ([25, 24, 20], [20, 25]), ([24, 26, 26, 20], [20, 24, 26]), ([22, 27, 20], [20, 22, 27]), ([20, 28], [20, 28]), ([29, 27], [29]), ([30], [30]), ([30], [30]), ([31, 32, 30, 30], [30, 31, 32]), ([30], [30]), ([33, 34, 30], [30, 33, 34]), ([30, 35], [30, 35]), ([36, 33], [36]), ([37], [37]), ([37], [37]), ([37], [37]), ([39, 40, 37, 37], [37, 39, 40]), ([38, 41, 41, 37], [37, 38, 41]), ([37], [37]), ([37], [37]), ([37], [37]), ([44, 45, 42, 37], [37, 44, 45]), ([43, 46, 46, 37], [37, 43, 46]), ([42, 47, 37], [37, 42, 47]), ([37, 48], [37, 48]), ([49, 47], [49]), ([50], [50]), ([50], [50]), ([51, 52, 50, 50], [50, 51, 52]), ([50], [50]), ([53, 54, 53, 50], [50, 53, 54]), ([50], [50]), ([50], [50]), ([57, 55, 50], [50, 57]), ([56, 58, 58, 50], [50, 56, 58]), ([55, 59, 50], [50, 55, 59]), ([50, 60], [50, 60]), ([61, 59], [61]), ([62], [62]), ([62], [62]), ([62], [62]), ([64, 65, 62, 62], [62, 64, 65]), ([63, 66, 66, 62], [62, 63, 66]), ([67, 62], [62, 67]), ([62, 68], [62, 68]), ([69, 67, 0, 1, 2, 3, 4, 5, 6, 7, 8, 9, 10, 11, 12, 13, 14, 15, 16, 17, 18, 19, 20, 21, 22, 23, 24, 25, 26, 27, 28, 29, 30, 31, 32, 33, 34, 35, 36, 37, 38, 39, 40, 41, 42, 43, 44, 45, 46, 47, 48, 49, 50, 51, 52, 53, 54, 55, 56, 57, 58, 59, 60, 61, 62, 63, 64, 65, 66, 67, 68, 69], [69])])
def turnoutlaw01_WordLogic.B2 : List Nat := [0, 1, 3, 3, 15, 3, 3, 95, 255, 511, 1023, 2047, 4095, 4095, 16383, 4095, 4095, 131071, 262143, 524287, 1048575, 2097151, 4194303, 2097151, 16777215, 2097151, 67108863, 134217727, 268435455, 536870911, 1073741823, 2147483647, 2147483647, 8589934591, 2147483647, 34359738367, 68719476735, 137438953471, 274877906943, 274877906943, 274877906943, 1924145348607, 4398046511103, 274877906943, 274877906943, 274877906943, 61572651155455, 140737488355327, 281474976710655, 562949953421311, 1125899906842623, 2251799813685247, 2251799813685247, 9007199254740991, 2251799813685247, 36028797018963967, 2251799813685247, 2251799813685247, 216172782113783807, 576460752303423487, 1152921504606846975, 2305843009213693951, 4611686018427387903, 9223372036854775807, 9223372036854775807, 9223372036854775807, 64563604257983430655, 147573952589676412927, 295147905179352825855, 590295810358705651711, 1180591620717411303423]
theorem turnoutlaw01_WordLogic.tab2 : rtab .any (opsOf Try.f10 2) = turnoutlaw01_WordLogic.T2 := by kernel_rfl
theorem turnoutlaw01_WordLogic.bits2 : waitsOk turnoutlaw01_WordLogic.T2.2 turnoutlaw01_WordLogic.B2 = true := by kernel_rfl
set_option maxHeartbeats 8000000 in
set_option maxRecDepth 100000 in
theorem turnoutlaw01_WordLogic.calls (k : Nat) (a0_0 : Int) (a0_1 : Int) (a1_0 : Int) (a1_1 : Int) (a2_0 : Int) (a2_1 : Int) (r : Bool) (w : World) (h : turnoutlaw01_WordLogic.f k a0_0 a0_1 a1_0 a1_1 a2_0 a2_1 = some r) (hr_ : Aside0 (r = true)) (HAW20 : Aside0 (∀ k r, turnoutlaw01_awake.f k = some r → r = true)) :
    Calls Try.prog 10 #[.agg #[.int .u64 a0_0, .int .u64 a0_1], .agg #[.int .u64 a1_0, .int .u64 a1_1], .agg #[.int .u64 a2_0, .int .u64 a2_1]] w fun e w' => e = .returned (.bool r) ∧ Below w.heap.size w w' := by
  have hu24 := Try.underlying24
  have HB := Aside0.mk (Below.refl w.heap.size w)
  have H : ((word_Xor.f a0_0 a0_1 a1_0 a1_1).bind fun bt179 => ((word_And.f a0_0 a0_1 a1_0 a1_1).bind fun bt181 => ((turnoutlaw01_awake.f k).bind fun t185 => (if t185 = true then ((word_Add.f a0_0 a0_1 a1_0 a1_1).bind fun bt186 => ((word_Left.f bt181.1 bt181.2 1).bind fun bt188 => ((word_Add.f bt179.1 bt179.2 bt188.1 bt188.2).bind fun bt190 => (if (bt186.1 == bt190.1 && (bt186.2 == bt190.2)) = true then ((word_Or.f a0_0 a0_1 a1_0 a1_1).bind fun bt192 => ((word_Xor.f bt179.1 bt179.2 bt181.1 bt181.2).bind fun bt194 => (if (bt192.1 == bt194.1 && (bt192.2 == bt194.2)) = true then ((word_Not.f bt181.1 bt181.2).bind fun bt196 => ((word_Not.f a0_0 a0_1).bind fun bt198 => ((word_Not.f a1_0 a1_1).bind fun bt200 => ((word_Or.f bt198.1 bt198.2 bt200.1 bt200.2).bind fun bt202 => (if (bt196.1 == bt202.1 && (bt196.2 == bt202.2)) = true then ((word_Xor.f bt179.1 bt179.2 a1_0 a1_1).bind fun bt204 => (if (bt204.1 == a0_0 && (bt204.2 == a0_1)) = true then ((word_Or.f a1_0 a1_1 a2_0 a2_1).bind fun bt206 => ((word_And.f a0_0 a0_1 bt206.1 bt206.2).bind fun bt208 => ((word_And.f a0_0 a0_1 a2_0 a2_1).bind fun bt210 => ((word_Or.f bt181.1 bt181.2 bt210.1 bt210.2).bind fun bt212 => (if (bt208.1 == bt212.1 && (bt208.2 == bt212.2)) = true then ((word_Or.f a0_0 a0_1 a1_0 a1_1).bind fun bt214 => ((word_Sub.f bt214.1 bt214.2 a1_0 a1_1).bind fun bt216 => ((word_Not.f a1_0 a1_1).bind fun bt218 => ((word_And.f a0_0 a0_1 bt218.1 bt218.2).bind fun bt220 => (if (bt216.1 == bt220.1 && (bt216.2 == bt220.2)) = true then ((word_Or.f a0_0 a0_1 a1_0 a1_1).bind fun bt222 => ((word_Compare.f bt181.1 bt181.2 bt222.1 bt222.2).bind fun t224 => (some (decide (t224 ≤ 0))))) else (some false)))))) else (some false)))))) else (some false))) else (some false)))))) else (some false)))) else (some false))))) else (some false))))) = some r := h
  clear h
  replace H := Option.bind_eq_some_iff.mp H
  obtain ⟨⟨t179, t180⟩, A40, H⟩ := H
  replace H : ((word_And.f a0_0 a0_1 a1_0 a1_1).bind fun bt181 => ((turnoutlaw01_awake.f k).bind fun t185 => (if t185 = true then ((word_Add.f a0_0 a0_1 a1_0 a1_1).bind fun bt186 => ((word_Left.f bt181.1 bt181.2 1).bind fun bt188 => ((word_Add.f t179 t180 bt188.1 bt188.2).bind fun bt190 => (if (bt186.1 == bt190.1 && (bt186.2 == bt190.2)) = true then ((word_Or.f a0_0 a0_1 a1_0 a1_1).bind fun bt192 => ((word_Xor.f t179 t180 bt181.1 bt181.2).bind fun bt194 => (if (bt192.1 == bt194.1 && (bt192.2 == bt194.2)) = true then ((word_Not.f bt181.1 bt181.2).bind fun bt196 => ((word_Not.f a0_0 a0_1).bind fun bt198 => ((word_Not.f a1_0 a1_1).bind fun bt200 => ((word_Or.f bt198.1 bt198.2 bt200.1 bt200.2).bind fun bt202 => (if (bt196.1 == bt202.1 && (bt196.2 == bt202.2)) = true then ((word_Xor.f t179 t180 a1_0 a1_1).bind fun bt204 => (if (bt204.1 == a0_0 && (bt204.2 == a0_1)) = true then ((word_Or.f a1_0 a1_1 a2_0 a2_1).bind fun bt206 => ((word_And.f a0_0 a0_1 bt206.1 bt206.2).bind fun bt208 => ((word_And.f a0_0 a0_1 a2_0 a2_1).bind fun bt210 => ((word_Or.f bt181.1 bt181.2 bt210.1 bt210.2).bind fun bt212 => (if (bt208.1 == bt212.1 && (bt208.2 == bt212.2)) = true then ((word_Or.f a0_0 a0_1 a1_0 a1_1).bind fun bt214 => ((word_Sub.f bt214.1 bt214.2 a1_0 a1_1).bind fun bt216 => ((word_Not.f a1_0 a1_1).bind fun bt218 => ((word_And.f a0_0 a0_1 bt218.1 bt218.2).bind fun bt220 => (if (bt216.1 == bt220.1 && (bt216.2 == bt220.2)) = true then ((word_Or.f a0_0 a0_1 a1_0 a1_1).bind fun bt222 => ((word_Compare.f bt181.1 bt181.2 bt222.1 bt222.2).bind fun t224 => (some (decide (t224 ≤ 0))))) else (some false)))))) else (some false)))))) else (some false))) else (some false)))))) else (some false)))) else (some false))))) else (some false)))) = some r := H
  have A4 := Aside0.mk A40
  clear A40
  replace H := Option.bind_eq_some_iff.mp H
  obtain ⟨⟨t181, t182⟩, A50, H⟩ := H
  replace H : ((turnoutlaw01_awake.f k).bind fun t185 => (if t185 = true then ((word_Add.f a0_0 a0_1 a1_0 a1_1).bind fun bt186 => ((word_Left.f t181 t182 1).bind fun bt188 => ((word_Add.f t179 t180 bt188.1 bt188.2).bind fun bt190 => (if (bt186.1 == bt190.1 && (bt186.2 == bt190.2)) = true then ((word_Or.f a0_0 a0_1 a1_0 a1_1).bind fun bt192 => ((word_Xor.f t179 t180 t181 t182).bind fun bt194 => (if (bt192.1 == bt194.1 && (bt192.2 == bt194.2)) = true then ((word_Not.f t181 t182).bind fun bt196 => ((word_Not.f a0_0 a0_1).bind fun bt198 => ((word_Not.f a1_0 a1_1).bind fun bt200 => ((word_Or.f bt198.1 bt198.2 bt200.1 bt200.2).bind fun bt202 => (if (bt196.1 == bt202.1 && (bt196.2 == bt202.2)) = true then ((word_Xor.f t179 t180 a1_0 a1_1).bind fun bt204 => (if (bt204.1 == a0_0 && (bt204.2 == a0_1)) = true then ((word_Or.f a1_0 a1_1 a2_0 a2_1).bind fun bt206 => ((word_And.f a0_0 a0_1 bt206.1 bt206.2).bind fun bt208 => ((word_And.f a0_0 a0_1 a2_0 a2_1).bind fun bt210 => ((word_Or.f t181 t182 bt210.1 bt210.2).bind fun bt212 => (if (bt208.1 == bt212.1 && (bt208.2 == bt212.2)) = true then ((word_Or.f a0_0 a0_1 a1_0 a1_1).bind fun bt214 => ((word_Sub.f bt214.1 bt214.2 a1_0 a1_1).bind fun bt216 => ((word_Not.f a1_0 a1_1).bind fun bt218 => ((word_And.f a0_0 a0_1 bt218.1 bt218.2).bind fun bt220 => (if (bt216.1 == bt220.1 && (bt216.2 == bt220.2)) = true then ((word_Or.f a0_0 a0_1 a1_0 a1_1).bind fun bt222 => ((word_Compare.f t181 t182 bt222.1 bt222.2).bind fun t224 => (some (decide (t224 ≤ 0))))) else (some false)))))) else (some false)))))) else (some false))) else (some false)))))) else (some false)))) else (some false))))) else (some false))) = some r := H
  have A5 := Aside0.mk A50
  clear A50
  replace H := Option.bind_eq_some_iff.mp H
  obtain ⟨t185, A60, H⟩ := H
  replace H : (if t185 = true then ((word_Add.f a0_0 a0_1 a1_0 a1_1).bind fun bt186 => ((word_Left.f t181 t182 1).bind fun bt188 => ((word_Add.f t179 t180 bt188.1 bt188.2).bind fun bt190 => (if (bt186.1 == bt190.1 && (bt186.2 == bt190.2)) = true then ((word_Or.f a0_0 a0_1 a1_0 a1_1).bind fun bt192 => ((word_Xor.f t179 t180 t181 t182).bind fun bt194 => (if (bt192.1 == bt194.1 && (bt192.2 == bt194.2)) = true then ((word_Not.f t181 t182).bind fun bt196 => ((word_Not.f a0_0 a0_1).bind fun bt198 => ((word_Not.f a1_0 a1_1).bind fun bt200 => ((word_Or.f bt198.1 bt198.2 bt200.1 bt200.2).bind fun bt202 => (if (bt196.1 == bt202.1 && (bt196.2 == bt202.2)) = true then ((word_Xor.f t179 t180 a1_0 a1_1).bind fun bt204 => (if (bt204.1 == a0_0 && (bt204.2 == a0_1)) = true then ((word_Or.f a1_0 a1_1 a2_0 a2_1).bind fun bt206 => ((word_And.f a0_0 a0_1 bt206.1 bt206.2).bind fun bt208 => ((word_And.f a0_0 a0_1 a2_0 a2_1).bind fun bt210 => ((word_Or.f t181 t182 bt210.1 bt210.2).bind fun bt212 => (if (bt208.1 == bt212.1 && (bt208.2 == bt212.2)) = true then ((word_Or.f a0_0 a0_1 a1_0 a1_1).bind fun bt214 => ((word_Sub.f bt214.1 bt214.2 a1_0 a1_1).bind fun bt216 => ((word_Not.f a1_0 a1_1).bind fun bt218 => ((word_And.f a0_0 a0_1 bt218.1 bt218.2).bind fun bt220 => (if (bt216.1 == bt220.1 && (bt216.2 == bt220.2)) = true then ((word_Or.f a0_0 a0_1 a1_0 a1_1).bind fun bt222 => ((word_Compare.f t181 t182 bt222.1 bt222.2).bind fun t224 => (some (decide (t224 ≤ 0))))) else (some false)))))) else (some false)))))) else (some false))) else (some false)))))) else (some false)))) else (some false))))) else (some false)) = some r := H
  have A6 := Aside0.mk A60
  clear A60
  by_cases c7 : t185 = true
  · subst c7
    have H1 : ((word_Add.f a0_0 a0_1 a1_0 a1_1).bind fun bt186 => ((word_Left.f t181 t182 1).bind fun bt188 => ((word_Add.f t179 t180 bt188.1 bt188.2).bind fun bt190 => (if (bt186.1 == bt190.1 && (bt186.2 == bt190.2)) = true then ((word_Or.f a0_0 a0_1 a1_0 a1_1).bind fun bt192 => ((word_Xor.f t179 t180 t181 t182).bind fun bt194 => (if (bt192.1 == bt194.1 && (bt192.2 == bt194.2)) = true then ((word_Not.f t181 t182).bind fun bt196 => ((word_Not.f a0_0 a0_1).bind fun bt198 => ((word_Not.f a1_0 a1_1).bind fun bt200 => ((word_Or.f bt198.1 bt198.2 bt200.1 bt200.2).bind fun bt202 => (if (bt196.1 == bt202.1 && (bt196.2 == bt202.2)) = true then ((word_Xor.f t179 t180 a1_0 a1_1).bind fun bt204 => (if (bt204.1 == a0_0 && (bt204.2 == a0_1)) = true then ((word_Or.f a1_0 a1_1 a2_0 a2_1).bind fun bt206 => ((word_And.f a0_0 a0_1 bt206.1 bt206.2).bind fun bt208 => ((word_And.f a0_0 a0_1 a2_0 a2_1).bind fun bt210 => ((word_Or.f t181 t182 bt210.1 bt210.2).bind fun bt212 => (if (bt208.1 == bt212.1 && (bt208.2 == bt212.2)) = true then ((word_Or.f a0_0 a0_1 a1_0 a1_1).bind fun bt214 => ((word_Sub.f bt214.1 bt214.2 a1_0 a1_1).bind fun bt216 => ((word_Not.f a1_0 a1_1).bind fun bt218 => ((word_And.f a0_0 a0_1 bt218.1 bt218.2).bind fun bt220 => (if (bt216.1 == bt220.1 && (bt216.2 == bt220.2)) = true then ((word_Or.f a0_0 a0_1 a1_0 a1_1).bind fun bt222 => ((word_Compare.f t181 t182 bt222.1 bt222.2).bind fun t224 => (some (decide (t224 ≤ 0))))) else (some false)))))) else (some false)))))) else (some false))) else (some false)))))) else (some false)))) else (some false))))) = some r := by rw [if_pos rfl] at H; exact H
    clear H; have H := H1; clear H1
    replace H := Option.bind_eq_some_iff.mp H
    obtain ⟨⟨t186, t187⟩, A80, H⟩ := H
    replace H : ((word_Left.f t181 t182 1).bind fun bt188 => ((word_Add.f t179 t180 bt188.1 bt188.2).bind fun bt190 => (if (t186 == bt190.1 && (t187 == bt190.2)) = true then ((word_Or.f a0_0 a0_1 a1_0 a1_1).bind fun bt192 => ((word_Xor.f t179 t180 t181 t182).bind fun bt194 => (if (bt192.1 == bt194.1 && (bt192.2 == bt194.2)) = true then ((word_Not.f t181 t182).bind fun bt196 => ((word_Not.f a0_0 a0_1).bind fun bt198 => ((word_Not.f a1_0 a1_1).bind fun bt200 => ((word_Or.f bt198.1 bt198.2 bt200.1 bt200.2).bind fun bt202 => (if (bt196.1 == bt202.1 && (bt196.2 == bt202.2)) = true then ((word_Xor.f t179 t180 a1_0 a1_1).bind fun bt204 => (if (bt204.1 == a0_0 && (bt204.2 == a0_1)) = true then ((word_Or.f a1_0 a1_1 a2_0 a2_1).bind fun bt206 => ((word_And.f a0_0 a0_1 bt206.1 bt206.2).bind fun bt208 => ((word_And.f a0_0 a0_1 a2_0 a2_1).bind fun bt210 => ((word_Or.f t181 t182 bt210.1 bt210.2).bind fun bt212 => (if (bt208.1 == bt212.1 && (bt208.2 == bt212.2)) = true then ((word_Or.f a0_0 a0_1 a1_0 a1_1).bind fun bt214 => ((word_Sub.f bt214.1 bt214.2 a1_0 a1_1).bind fun bt216 => ((word_Not.f a1_0 a1_1).bind fun bt218 => ((word_And.f a0_0 a0_1 bt218.1 bt218.2).bind fun bt220 => (if (bt216.1 == bt220.1 && (bt216.2 == bt220.2)) = true then ((word_Or.f a0_0 a0_1 a1_0 a1_1).bind fun bt222 => ((word_Compare.f t181 t182 bt222.1 bt222.2).bind fun t224 => (some (decide (t224 ≤ 0))))) else (some false)))))) else (some false)))))) else (some false))) else (some false)))))) else (some false)))) else (some false)))) = some r := H
    have A8 := Aside0.mk A80
    clear A80
    replace H := Option.bind_eq_some_iff.mp H
    obtain ⟨⟨t188, t189⟩, A90, H⟩ := H
    replace H : ((word_Add.f t179 t180 t188 t189).bind fun bt190 => (if (t186 == bt190.1 && (t187 == bt190.2)) = true then ((word_Or.f a0_0 a0_1 a1_0 a1_1).bind fun bt192 => ((word_Xor.f t179 t180 t181 t182).bind fun bt194 => (if (bt192.1 == bt194.1 && (bt192.2 == bt194.2)) = true then ((word_Not.f t181 t182).bind fun bt196 => ((word_Not.f a0_0 a0_1).bind fun bt198 => ((word_Not.f a1_0 a1_1).bind fun bt200 => ((word_Or.f bt198.1 bt198.2 bt200.1 bt200.2).bind fun bt202 => (if (bt196.1 == bt202.1 && (bt196.2 == bt202.2)) = true then ((word_Xor.f t179 t180 a1_0 a1_1).bind fun bt204 => (if (bt204.1 == a0_0 && (bt204.2 == a0_1)) = true then ((word_Or.f a1_0 a1_1 a2_0 a2_1).bind fun bt206 => ((word_And.f a0_0 a0_1 bt206.1 bt206.2).bind fun bt208 => ((word_And.f a0_0 a0_1 a2_0 a2_1).bind fun bt210 => ((word_Or.f t181 t182 bt210.1 bt210.2).bind fun bt212 => (if (bt208.1 == bt212.1 && (bt208.2 == bt212.2)) = true then ((word_Or.f a0_0 a0_1 a1_0 a1_1).bind fun bt214 => ((word_Sub.f bt214.1 bt214.2 a1_0 a1_1).bind fun bt216 => ((word_Not.f a1_0 a1_1).bind fun bt218 => ((word_And.f a0_0 a0_1 bt218.1 bt218.2).bind fun bt220 => (if (bt216.1 == bt220.1 && (bt216.2 == bt220.2)) = true then ((word_Or.f a0_0 a0_1 a1_0 a1_1).bind fun bt222 => ((word_Compare.f t181 t182 bt222.1 bt222.2).bind fun t224 => (some (decide (t224 ≤ 0))))) else (some false)))))) else (some false)))))) else (some false))) else (some false)))))) else (some false)))) else (some false))) = some r := H
    have A9 := Aside0.mk A90
    clear A90
    replace H := Option.bind_eq_some_iff.mp H
    obtain ⟨⟨t190, t191⟩, A100, H⟩ := H
    replace H : (if (t186 == t190 && (t187 == t191)) = true then ((word_Or.f a0_0 a0_1 a1_0 a1_1).bind fun bt192 => ((word_Xor.f t179 t180 t181 t182).bind fun bt194 => (if (bt192.1 == bt194.1 && (bt192.2 == bt194.2)) = true then ((word_Not.f t181 t182).bind fun bt196 => ((word_Not.f a0_0 a0_1).bind fun bt198 => ((word_Not.f a1_0 a1_1).bind fun bt200 => ((word_Or.f bt198.1 bt198.2 bt200.1 bt200.2).bind fun bt202 => (if (bt196.1 == bt202.1 && (bt196.2 == bt202.2)) = true then ((word_Xor.f t179 t180 a1_0 a1_1).bind fun bt204 => (if (bt204.1 == a0_0 && (bt204.2 == a0_1)) = true then ((word_Or.f a1_0 a1_1 a2_0 a2_1).bind fun bt206 => ((word_And.f a0_0 a0_1 bt206.1 bt206.2).bind fun bt208 => ((word_And.f a0_0 a0_1 a2_0 a2_1).bind fun bt210 => ((word_Or.f t181 t182 bt210.1 bt210.2).bind fun bt212 => (if (bt208.1 == bt212.1 && (bt208.2 == bt212.2)) = true then ((word_Or.f a0_0 a0_1 a1_0 a1_1).bind fun bt214 => ((word_Sub.f bt214.1 bt214.2 a1_0 a1_1).bind fun bt216 => ((word_Not.f a1_0 a1_1).bind fun bt218 => ((word_And.f a0_0 a0_1 bt218.1 bt218.2).bind fun bt220 => (if (bt216.1 == bt220.1 && (bt216.2 == bt220.2)) = true then ((word_Or.f a0_0 a0_1 a1_0 a1_1).bind fun bt222 => ((word_Compare.f t181 t182 bt222.1 bt222.2).bind fun t224 => (some (decide (t224 ≤ 0))))) else (some false)))))) else (some false)))))) else (some false))) else (some false)))))) else (some false)))) else (some false)) = some r := H
    have A10 := Aside0.mk A100
    clear A100
    by_cases c11 : (t186 == t190 && (t187 == t191)) = true
    · rw [if_pos c11] at H
      have c11b0 : (t186 == t190 && (t187 == t191)) = true := c11
      (try (have c11b1 : decide (t186 = t190 && (t187 == t191)) = true := by simpa using c11))
      (try (have c11b2 : (t186 == t190 && (t187 == t191)) = true := by simpa using c11))
      clear c11
      replace H := Option.bind_eq_some_iff.mp H
      obtain ⟨⟨t192, t193⟩, A120, H⟩ := H
      replace H : ((word_Xor.f t179 t180 t181 t182).bind fun bt194 => (if (t192 == bt194.1 && (t193 == bt194.2)) = true then ((word_Not.f t181 t182).bind fun bt196 => ((word_Not.f a0_0 a0_1).bind fun bt198 => ((word_Not.f a1_0 a1_1).bind fun bt200 => ((word_Or.f bt198.1 bt198.2 bt200.1 bt200.2).bind fun bt202 => (if (bt196.1 == bt202.1 && (bt196.2 == bt202.2)) = true then ((word_Xor.f t179 t180 a1_0 a1_1).bind fun bt204 => (if (bt204.1 == a0_0 && (bt204.2 == a0_1)) = true then ((word_Or.f a1_0 a1_1 a2_0 a2_1).bind fun bt206 => ((word_And.f a0_0 a0_1 bt206.1 bt206.2).bind fun bt208 => ((word_And.f a0_0 a0_1 a2_0 a2_1).bind fun bt210 => ((word_Or.f t181 t182 bt210.1 bt210.2).bind fun bt212 => (if (bt208.1 == bt212.1 && (bt208.2 == bt212.2)) = true then ((word_Or.f a0_0 a0_1 a1_0 a1_1).bind fun bt214 => ((word_Sub.f bt214.1 bt214.2 a1_0 a1_1).bind fun bt216 => ((word_Not.f a1_0 a1_1).bind fun bt218 => ((word_And.f a0_0 a0_1 bt218.1 bt218.2).bind fun bt220 => (if (bt216.1 == bt220.1 && (bt216.2 == bt220.2)) = true then ((word_Or.f a0_0 a0_1 a1_0 a1_1).bind fun bt222 => ((word_Compare.f t181 t182 bt222.1 bt222.2).bind fun t224 => (some (decide (t224 ≤ 0))))) else (some false)))))) else (some false)))))) else (some false))) else (some false)))))) else (some false))) = some r := H
      have A12 := Aside0.mk A120
      clear A120
      replace H := Option.bind_eq_some_iff.mp H
      obtain ⟨⟨t194, t195⟩, A130, H⟩ := H
      replace H : (if (t192 == t194 && (t193 == t195)) = true then ((word_Not.f t181 t182).bind fun bt196 => ((word_Not.f a0_0 a0_1).bind fun bt198 => ((word_Not.f a1_0 a1_1).bind fun bt200 => ((word_Or.f bt198.1 bt198.2 bt200.1 bt200.2).bind fun bt202 => (if (bt196.1 == bt202.1 && (bt196.2 == bt202.2)) = true then ((word_Xor.f t179 t180 a1_0 a1_1).bind fun bt204 => (if (bt204.1 == a0_0 && (bt204.2 == a0_1)) = true then ((word_Or.f a1_0 a1_1 a2_0 a2_1).bind fun bt206 => ((word_And.f a0_0 a0_1 bt206.1 bt206.2).bind fun bt208 => ((word_And.f a0_0 a0_1 a2_0 a2_1).bind fun bt210 => ((word_Or.f t181 t182 bt210.1 bt210.2).bind fun bt212 => (if (bt208.1 == bt212.1 && (bt208.2 == bt212.2)) = true then ((word_Or.f a0_0 a0_1 a1_0 a1_1).bind fun bt214 => ((word_Sub.f bt214.1 bt214.2 a1_0 a1_1).bind fun bt216 => ((word_Not.f a1_0 a1_1).bind fun bt218 => ((word_And.f a0_0 a0_1 bt218.1 bt218.2).bind fun bt220 => (if (bt216.1 == bt220.1 && (bt216.2 == bt220.2)) = true then ((word_Or.f a0_0 a0_1 a1_0 a1_1).bind fun bt222 => ((word_Compare.f t181 t182 bt222.1 bt222.2).bind fun t224 => (some (decide (t224 ≤ 0))))) else (some false)))))) else (some false)))))) else (some false))) else (some false)))))) else (some false)) = some r := H
      have A13 := Aside0.mk A130
      clear A130
      by_cases c14 : (t192 == t194 && (t193 == t195)) = true
      · rw [if_pos c14] at H
        have c14b0 : (t192 == t194 && (t193 == t195)) = true := c14
        (try (have c14b1 : decide (t192 = t194 && (t193 == t195)) = true := by simpa using c14))
        (try (have c14b2 : (t192 == t194 && (t193 == t195)) = true := by simpa using c14))
        clear c14
        replace H := Option.bind_eq_some_iff.mp H
        obtain ⟨⟨t196, t197⟩, A150, H⟩ := H
        replace H : ((word_Not.f a0_0 a0_1).bind fun bt198 => ((word_Not.f a1_0 a1_1).bind fun bt200 => ((word_Or.f bt198.1 bt198.2 bt200.1 bt200.2).bind fun bt202 => (if (t196 == bt202.1 && (t197 == bt202.2)) = true then ((word_Xor.f t179 t180 a1_0 a1_1).bind fun bt204 => (if (bt204.1 == a0_0 && (bt204.2 == a0_1)) = true then ((word_Or.f a1_0 a1_1 a2_0 a2_1).bind fun bt206 => ((word_And.f a0_0 a0_1 bt206.1 bt206.2).bind fun bt208 => ((word_And.f a0_0 a0_1 a2_0 a2_1).bind fun bt210 => ((word_Or.f t181 t182 bt210.1 bt210.2).bind fun bt212 => (if (bt208.1 == bt212.1 && (bt208.2 == bt212.2)) = true then ((word_Or.f a0_0 a0_1 a1_0 a1_1).bind fun bt214 => ((word_Sub.f bt214.1 bt214.2 a1_0 a1_1).bind fun bt216 => ((word_Not.f a1_0 a1_1).bind fun bt218 => ((word_And.f a0_0 a0_1 bt218.1 bt218.2).bind fun bt220 => (if (bt216.1 == bt220.1 && (bt216.2 == bt220.2)) = true then ((word_Or.f a0_0 a0_1 a1_0 a1_1).bind fun bt222 => ((word_Compare.f t181 t182 bt222.1 bt222.2).bind fun t224 => (some (decide (t224 ≤ 0))))) else (some false)))))) else (some false)))))) else (some false))) else (some false))))) = some r := H
        have A15 := Aside0.mk A150
        clear A150
        replace H := Option.bind_eq_some_iff.mp H
        obtain ⟨⟨t198, t199⟩, A160, H⟩ := H
        replace H : ((word_Not.f a1_0 a1_1).bind fun bt200 => ((word_Or.f t198 t199 bt200.1 bt200.2).bind fun bt202 => (if (t196 == bt202.1 && (t197 == bt202.2)) = true then ((word_Xor.f t179 t180 a1_0 a1_1).bind fun bt204 => (if (bt204.1 == a0_0 && (bt204.2 == a0_1)) = true then ((word_Or.f a1_0 a1_1 a2_0 a2_1).bind fun bt206 => ((word_And.f a0_0 a0_1 bt206.1 bt206.2).bind fun bt208 => ((word_And.f a0_0 a0_1 a2_0 a2_1).bind fun bt210 => ((word_Or.f t181 t182 bt210.1 bt210.2).bind fun bt212 => (if (bt208.1 == bt212.1 && (bt208.2 == bt212.2)) = true then ((word_Or.f a0_0 a0_1 a1_0 a1_1).bind fun bt214 => ((word_Sub.f bt214.1 bt214.2 a1_0 a1_1).bind fun bt216 => ((word_Not.f a1_0 a1_1).bind fun bt218 => ((word_And.f a0_0 a0_1 bt218.1 bt218.2).bind fun bt220 => (if (bt216.1 == bt220.1 && (bt216.2 == bt220.2)) = true then ((word_Or.f a0_0 a0_1 a1_0 a1_1).bind fun bt222 => ((word_Compare.f t181 t182 bt222.1 bt222.2).bind fun t224 => (some (decide (t224 ≤ 0))))) else (some false)))))) else (some false)))))) else (some false))) else (some false)))) = some r := H
        have A16 := Aside0.mk A160
        clear A160
        replace H := Option.bind_eq_some_iff.mp H
        obtain ⟨⟨t200, t201⟩, A170, H⟩ := H
        replace H : ((word_Or.f t198 t199 t200 t201).bind fun bt202 => (if (t196 == bt202.1 && (t197 == bt202.2)) = true then ((word_Xor.f t179 t180 a1_0 a1_1).bind fun bt204 => (if (bt204.1 == a0_0 && (bt204.2 == a0_1)) = true then ((word_Or.f a1_0 a1_1 a2_0 a2_1).bind fun bt206 => ((word_And.f a0_0 a0_1 bt206.1 bt206.2).bind fun bt208 => ((word_And.f a0_0 a0_1 a2_0 a2_1).bind fun bt210 => ((word_Or.f t181 t182 bt210.1 bt210.2).bind fun bt212 => (if (bt208.1 == bt212.1 && (bt208.2 == bt212.2)) = true then ((word_Or.f a0_0 a0_1 a1_0 a1_1).bind fun bt214 => ((word_Sub.f bt214.1 bt214.2 a1_0 a1_1).bind fun bt216 => ((word_Not.f a1_0 a1_1).bind fun bt218 => ((word_And.f a0_0 a0_1 bt218.1 bt218.2).bind fun bt220 => (if (bt216.1 == bt220.1 && (bt216.2 == bt220.2)) = true then ((word_Or.f a0_0 a0_1 a1_0 a1_1).bind fun bt222 => ((word_Compare.f t181 t182 bt222.1 bt222.2).bind fun t224 => (some (decide (t224 ≤ 0))))) else (some false)))))) else (some false)))))) else (some false))) else (some false))) = some r := H
        have A17 := Aside0.mk A170
        clear A170
        replace H := Option.bind_eq_some_iff.mp H
        obtain ⟨⟨t202, t203⟩, A180, H⟩ := H
        replace H : (if (t196 == t202 && (t197 == t203)) = true then ((word_Xor.f t179 t180 a1_0 a1_1).bind fun bt204 => (if (bt204.1 == a0_0 && (bt204.2 == a0_1)) = true then ((word_Or.f a1_0 a1_1 a2_0 a2_1).bind fun bt206 => ((word_And.f a0_0 a0_1 bt206.1 bt206.2).bind fun bt208 => ((word_And.f a0_0 a0_1 a2_0 a2_1).bind fun bt210 => ((word_Or.f t181 t182 bt210.1 bt210.2).bind fun bt212 => (if (bt208.1 == bt212.1 && (bt208.2 == bt212.2)) = true then ((word_Or.f a0_0 a0_1 a1_0 a1_1).bind fun bt214 => ((word_Sub.f bt214.1 bt214.2 a1_0 a1_1).bind fun bt216 => ((word_Not.f a1_0 a1_1).bind fun bt218 => ((word_And.f a0_0 a0_1 bt218.1 bt218.2).bind fun bt220 => (if (bt216.1 == bt220.1 && (bt216.2 == bt220.2)) = true then ((word_Or.f a0_0 a0_1 a1_0 a1_1).bind fun bt222 => ((word_Compare.f t181 t182 bt222.1 bt222.2).bind fun t224 => (some (decide (t224 ≤ 0))))) else (some false)))))) else (some false)))))) else (some false))) else (some false)) = some r := H
        have A18 := Aside0.mk A180
        clear A180
        by_cases c19 : (t196 == t202 && (t197 == t203)) = true
        · rw [if_pos c19] at H
          have c19b0 : (t196 == t202 && (t197 == t203)) = true := c19
          (try (have c19b1 : decide (t196 = t202 && (t197 == t203)) = true := by simpa using c19))
          (try (have c19b2 : (t196 == t202 && (t197 == t203)) = true := by simpa using c19))
          clear c19
          replace H := Option.bind_eq_some_iff.mp H
          obtain ⟨⟨t204, t205⟩, A200, H⟩ := H
          replace H : (if (t204 == a0_0 && (t205 == a0_1)) = true then ((word_Or.f a1_0 a1_1 a2_0 a2_1).bind fun bt206 => ((word_And.f a0_0 a0_1 bt206.1 bt206.2).bind fun bt208 => ((word_And.f a0_0 a0_1 a2_0 a2_1).bind fun bt210 => ((word_Or.f t181 t182 bt210.1 bt210.2).bind fun bt212 => (if (bt208.1 == bt212.1 && (bt208.2 == bt212.2)) = true then ((word_Or.f a0_0 a0_1 a1_0 a1_1).bind fun bt214 => ((word_Sub.f bt214.1 bt214.2 a1_0 a1_1).bind fun bt216 => ((word_Not.f a1_0 a1_1).bind fun bt218 => ((word_And.f a0_0 a0_1 bt218.1 bt218.2).bind fun bt220 => (if (bt216.1 == bt220.1 && (bt216.2 == bt220.2)) = true then ((word_Or.f a0_0 a0_1 a1_0 a1_1).bind fun bt222 => ((word_Compare.f t181 t182 bt222.1 bt222.2).bind fun t224 => (some (decide (t224 ≤ 0))))) else (some false)))))) else (some false)))))) else (some false)) = some r := H
          have A20 := Aside0.mk A200
          clear A200
          by_cases c21 : (t204 == a0_0 && (t205 == a0_1)) = true
          · rw [if_pos c21] at H
            have c21b0 : (t204 == a0_0 && (t205 == a0_1)) = true := c21
            (try (have c21b1 : decide (t204 = a0_0 && (t205 == a0_1)) = true := by simpa using c21))
            (try (have c21b2 : (t204 == a0_0 && (t205 == a0_1)) = true := by simpa using c21))
            clear c21
            replace H := Option.bind_eq_some_iff.mp H
            obtain ⟨⟨t206, t207⟩, A220, H⟩ := H
            replace H : ((word_And.f a0_0 a0_1 t206 t207).bind fun bt208 => ((word_And.f a0_0 a0_1 a2_0 a2_1).bind fun bt210 => ((word_Or.f t181 t182 bt210.1 bt210.2).bind fun bt212 => (if (bt208.1 == bt212.1 && (bt208.2 == bt212.2)) = true then ((word_Or.f a0_0 a0_1 a1_0 a1_1).bind fun bt214 => ((word_Sub.f bt214.1 bt214.2 a1_0 a1_1).bind fun bt216 => ((word_Not.f a1_0 a1_1).bind fun bt218 => ((word_And.f a0_0 a0_1 bt218.1 bt218.2).bind fun bt220 => (if (bt216.1 == bt220.1 && (bt216.2 == bt220.2)) = true then ((word_Or.f a0_0 a0_1 a1_0 a1_1).bind fun bt222 => ((word_Compare.f t181 t182 bt222.1 bt222.2).bind fun t224 => (some (decide (t224 ≤ 0))))) else (some false)))))) else (some false))))) = some r := H
            have A22 := Aside0.mk A220
            clear A220
            replace H := Option.bind_eq_some_iff.mp H
            obtain ⟨⟨t208, t209⟩, A230, H⟩ := H
            replace H : ((word_And.f a0_0 a0_1 a2_0 a2_1).bind fun bt210 => ((word_Or.f t181 t182 bt210.1 bt210.2).bind fun bt212 => (if (t208 == bt212.1 && (t209 == bt212.2)) = true then ((word_Or.f a0_0 a0_1 a1_0 a1_1).bind fun bt214 => ((word_Sub.f bt214.1 bt214.2 a1_0 a1_1).bind fun bt216 => ((word_Not.f a1_0 a1_1).bind fun bt218 => ((word_And.f a0_0 a0_1 bt218.1 bt218.2).bind fun bt220 => (if (bt216.1 == bt220.1 && (bt216.2 == bt220.2)) = true then ((word_Or.f a0_0 a0_1 a1_0 a1_1).bind fun bt222 => ((word_Compare.f t181 t182 bt222.1 bt222.2).bind fun t224 => (some (decide (t224 ≤ 0))))) else (some false)))))) else (some false)))) = some r := H
            have A23 := Aside0.mk A230
            clear A230
            replace H := Option.bind_eq_some_iff.mp H
            obtain ⟨⟨t210, t211⟩, A240, H⟩ := H
            replace H : ((word_Or.f t181 t182 t210 t211).bind fun bt212 => (if (t208 == bt212.1 && (t209 == bt212.2)) = true then ((word_Or.f a0_0 a0_1 a1_0 a1_1).bind fun bt214 => ((word_Sub.f bt214.1 bt214.2 a1_0 a1_1).bind fun bt216 => ((word_Not.f a1_0 a1_1).bind fun bt218 => ((word_And.f a0_0 a0_1 bt218.1 bt218.2).bind fun bt220 => (if (bt216.1 == bt220.1 && (bt216.2 == bt220.2)) = true then ((word_Or.f a0_0 a0_1 a1_0 a1_1).bind fun bt222 => ((word_Compare.f t181 t182 bt222.1 bt222.2).bind fun t224 => (some (decide (t224 ≤ 0))))) else (some false)))))) else (some false))) = some r := H
            have A24 := Aside0.mk A240
            clear A240
            replace H := Option.bind_eq_some_iff.mp H
            obtain ⟨⟨t212, t213⟩, A250, H⟩ := H
            replace H : (if (t208 == t212 && (t209 == t213)) = true then ((word_Or.f a0_0 a0_1 a1_0 a1_1).bind fun bt214 => ((word_Sub.f bt214.1 bt214.2 a1_0 a1_1).bind fun bt216 => ((word_Not.f a1_0 a1_1).bind fun bt218 => ((word_And.f a0_0 a0_1 bt218.1 bt218.2).bind fun bt220 => (if (bt216.1 == bt220.1 && (bt216.2 == bt220.2)) = true then ((word_Or.f a0_0 a0_1 a1_0 a1_1).bind fun bt222 => ((word_Compare.f t181 t182 bt222.1 bt222.2).bind fun t224 => (some (decide (t224 ≤ 0))))) else (some false)))))) else (some false)) = some r := H
            have A25 := Aside0.mk A250
            clear A250
            by_cases c26 : (t208 == t212 && (t209 == t213)) = true
            · rw [if_pos c26] at H
              have c26b0 : (t208 == t212 && (t209 == t213)) = true := c26
              (try (have c26b1 : decide (t208 = t212 && (t209 == t213)) = true := by simpa using c26))
              (try (have c26b2 : (t208 == t212 && (t209 == t213)) = true := by simpa using c26))
              clear c26
              replace H := Option.bind_eq_some_iff.mp H
              obtain ⟨⟨t214, t215⟩, A270, H⟩ := H
              replace H : ((word_Sub.f t214 t215 a1_0 a1_1).bind fun bt216 => ((word_Not.f a1_0 a1_1).bind fun bt218 => ((word_And.f a0_0 a0_1 bt218.1 bt218.2).bind fun bt220 => (if (bt216.1 == bt220.1 && (bt216.2 == bt220.2)) = true then ((word_Or.f a0_0 a0_1 a1_0 a1_1).bind fun bt222 => ((word_Compare.f t181 t182 bt222.1 bt222.2).bind fun t224 => (some (decide (t224 ≤ 0))))) else (some false))))) = some r := H
              have hsame_ := Option.some.inj (A12.out.symm.trans A270)
              simp only [Prod.mk.injEq] at hsame_
              obtain ⟨rfl, rfl⟩ := hsame_
              clear A270
              replace H := Option.bind_eq_some_iff.mp H
              obtain ⟨⟨t216, t217⟩, A280, H⟩ := H
              replace H : ((word_Not.f a1_0 a1_1).bind fun bt218 => ((word_And.f a0_0 a0_1 bt218.1 bt218.2).bind fun bt220 => (if (t216 == bt220.1 && (t217 == bt220.2)) = true then ((word_Or.f a0_0 a0_1 a1_0 a1_1).bind fun bt222 => ((word_Compare.f t181 t182 bt222.1 bt222.2).bind fun t224 => (some (decide (t224 ≤ 0))))) else (some false)))) = some r := H
              have A28 := Aside0.mk A280
              clear A280
              replace H := Option.bind_eq_some_iff.mp H
              obtain ⟨⟨t218, t219⟩, A290, H⟩ := H
              replace H : ((word_And.f a0_0 a0_1 t218 t219).bind fun bt220 => (if (t216 == bt220.1 && (t217 == bt220.2)) = true then ((word_Or.f a0_0 a0_1 a1_0 a1_1).bind fun bt222 => ((word_Compare.f t181 t182 bt222.1 bt222.2).bind fun t224 => (some (decide (t224 ≤ 0))))) else (some false))) = some r := H
              have hsame_ := Option.some.inj (A17.out.symm.trans A290)
              simp only [Prod.mk.injEq] at hsame_
              obtain ⟨rfl, rfl⟩ := hsame_
              clear A290
              replace H := Option.bind_eq_some_iff.mp H
              obtain ⟨⟨t220, t221⟩, A300, H⟩ := H
              replace H : (if (t216 == t220 && (t217 == t221)) = true then ((word_Or.f a0_0 a0_1 a1_0 a1_1).bind fun bt222 => ((word_Compare.f t181 t182 bt222.1 bt222.2).bind fun t224 => (some (decide (t224 ≤ 0))))) else (some false)) = some r := H
              have A30 := Aside0.mk A300
              clear A300
              by_cases c31 : (t216 == t220 && (t217 == t221)) = true
              · rw [if_pos c31] at H
                have c31b0 : (t216 == t220 && (t217 == t221)) = true := c31
                (try (have c31b1 : decide (t216 = t220 && (t217 == t221)) = true := by simpa using c31))
                (try (have c31b2 : (t216 == t220 && (t217 == t221)) = true := by simpa using c31))
                clear c31
                replace H := Option.bind_eq_some_iff.mp H
                obtain ⟨⟨t222, t223⟩, A320, H⟩ := H
                replace H : ((word_Compare.f t181 t182 t222 t223).bind fun t224 => (some (decide (t224 ≤ 0)))) = some r := H
                have hsame_ := Option.some.inj (A12.out.symm.trans A320)
                simp only [Prod.mk.injEq] at hsame_
                obtain ⟨rfl, rfl⟩ := hsame_
                clear A320
                replace H := Option.bind_eq_some_iff.mp H
                obtain ⟨t224, A330, H⟩ := H
                replace H : (some (decide (t224 ≤ 0))) = some r := H
                have A33 := Aside0.mk A330
                clear A330
                obtain rfl := Option.some.inj H
                go_enter Try.func10, Try.ntmps10
                try go_wp2_with (first | ((with_reducible refine gate_dst (N := 3) rfl ?_); refine box_event ?hg (N := 3) ?hd (cs := #[.int .u64 a0_0, .int .u64 a0_1]) (t := 24) ?hr ?_; (case hd => rfl); (case hg => rfl); (case hr => first | (go_simp; done) | (go_simp; rfl)); intro gb176 hg w34 hbox hb; have BK176 := Aside0.mk (hbox); have GW176 := Aside0.mk ((by rw [hg]; exact (below_size (by repeat (first | (with_reducible first | exact HB.out | apply below_alloc | apply pw_below_drewN | apply below_drew1) | exact HB.out))) : w.heap.size ≤ gb176)); have GE176 := Aside0.mk ((by rw [hg]; exact (below_size (by repeat (first | (with_reducible first | exact HB.out | apply below_alloc | apply pw_below_drewN | apply below_drew1) | exact HB.out))) : w.heap.size ≤ gb176)); replace HB := Aside0.mk (below_step (by repeat (first | (with_reducible first | exact HB.out | apply below_alloc | apply pw_below_drewN | apply below_drew1) | exact HB.out)) hb); clear hb hbox hg) | ((with_reducible refine gate_dst (N := 4) rfl ?_); refine box_event ?hg (N := 4) ?hd (cs := #[.int .u64 a1_0, .int .u64 a1_1]) (t := 24) ?hr ?_; (case hd => rfl); (case hg => rfl); (case hr => first | (go_simp; done) | (go_simp; rfl)); intro gb177 hg w35 hbox hb; have BK177 := Aside0.mk (hbox); have GW177 := Aside0.mk ((by rw [hg]; exact (below_size (by repeat (first | (with_reducible first | exact HB.out | apply below_alloc | apply pw_below_drewN | apply below_drew1 | refine below_set ?_ GE176.out) | exact HB.out))) : w.heap.size ≤ gb177)); have GE177 := Aside0.mk ((by rw [hg]; exact (below_size (by repeat (first | (with_reducible first | exact HB.out | apply below_alloc | apply pw_below_drewN | apply below_drew1 | refine below_set ?_ GE176.out) | exact HB.out))) : w.heap.size ≤ gb177)); replace HB := Aside0.mk (below_step (by repeat (first | (with_reducible first | exact HB.out | apply below_alloc | apply pw_below_drewN | apply below_drew1 | refine below_set ?_ GE176.out) | exact HB.out)) hb); have NB176_177 := Aside0.mk ((by rw [hg]; exact Nat.ne_of_lt (blk_lt (bkA BK176.out)) : gb176 ≠ gb177)); have NB177_176 := Aside0.mk ((by rw [hg]; exact Nat.ne_of_gt (blk_lt (bkA BK176.out)) : gb177 ≠ gb176)); replace BK176 := Aside0.mk (blk_below (bkA BK176.out) hb); clear hb hbox hg) | ((with_reducible refine gate_dst (N := 5) rfl ?_); refine box_event ?hg (N := 5) ?hd (cs := #[.int .u64 a2_0, .int .u64 a2_1]) (t := 24) ?hr ?_; (case hd => rfl); (case hg => rfl); (case hr => first | (go_simp; done) | (go_simp; rfl)); intro gb178 hg w36 hbox hb; have BK178 := Aside0.mk (hbox); have GW178 := Aside0.mk ((by rw [hg]; exact (below_size (by repeat (first | (with_reducible first | exact HB.out | apply below_alloc | apply pw_below_drewN | apply below_drew1 | refine below_set ?_ GE176.out | refine below_set ?_ GE177.out) | exact HB.out))) : w.heap.size ≤ gb178)); have GE178 := Aside0.mk ((by rw [hg]; exact (below_size (by repeat (first | (with_reducible first | exact HB.out | apply below_alloc | apply pw_below_drewN | apply below_drew1 | refine below_set ?_ GE176.out | refine below_set ?_ GE177.out) | exact HB.out))) : w.heap.size ≤ gb178)); replace HB := Aside0.mk (below_step (by repeat (first | (with_reducible first | exact HB.out | apply below_alloc | apply pw_below_drewN | apply below_drew1 | refine below_set ?_ GE176.out | refine below_set ?_ GE177.out) | exact HB.out)) hb); have NB176_178 := Aside0.mk ((by rw [hg]; exact Nat.ne_of_lt (blk_lt (bkA BK176.out)) : gb176 ≠ gb178)); have NB178_176 := Aside0.mk ((by rw [hg]; exact Nat.ne_of_gt (blk_lt (bkA BK176.out)) : gb178 ≠ gb176)); replace BK176 := Aside0.mk (blk_below (bkA BK176.out) hb); have NB177_178 := Aside0.mk ((by rw [hg]; exact Nat.ne_of_lt (blk_lt (bkA BK177.out)) : gb177 ≠ gb178)); have NB178_177 := Aside0.mk ((by rw [hg]; exact Nat.ne_of_gt (blk_lt (bkA BK177.out)) : gb178 ≠ gb177)); replace BK177 := Aside0.mk (blk_below (bkA BK177.out) hb); clear hb hbox hg))
                replace BK176 := Aside0.mk (blk_drew BK176.out); replace BK177 := Aside0.mk (blk_drew BK177.out); replace BK178 := Aside0.mk (blk_drew BK178.out); replace HB := Aside0.mk (below_drew1 HB.out)
                refine start_ (n := 10) (S := fun w' => w'.cell? ⟨gb176, 0, none⟩ = some (.int .u64 a0_0) ∧ w'.cell? ⟨gb176, 1, none⟩ = some (.int .u64 a0_1) ∧ w'.cell? ⟨gb177, 0, none⟩ = some (.int .u64 a1_0) ∧ w'.cell? ⟨gb177, 1, none⟩ = some (.int .u64 a1_1)) (ds := []) #[false, false, false, false, false, false, false, false, false, false] (by kernel_rfl) rfl rfl ⟨(blk_cell BK176.out 0).trans rfl, (blk_cell BK176.out 1).trans rfl, (blk_cell BK177.out 0).trans rfl, (blk_cell BK177.out 1).trans rfl⟩ (fun hHeld => ?_); refine with_tabW turnoutlaw01_WordLogic.tab1 turnoutlaw01_WordLogic.bits1 (fun HT_ HW_ => ?_)
                generalize w36.drew = w37 at BK176 BK177 BK178 HB hHeld ⊢
                refine take_ (i := 0) (N := some 9) (v := ?_) (a' := ?_) #[true, false, false, false, false, false, false, false, false, false] rfl rfl (take_ofW HT_.out HW_.out (by kernel_rfl)) (fun _ _ _ h => h) (Or.inl ⟨by rfl, ?_⟩) hHeld ?_ ?_
                rotate_left
                · rintro w' ⟨s0, s1, s2, s3⟩
                  go_simp
                  with_reducible rfl
                rotate_left
                · simp only [Act.put, List.setIfInBounds_toArray, List.set_cons_zero, List.set_cons_succ, i64_w, i32_w]
                  rfl
                refine take_ (i := 1) (N := some 10) (v := ?_) (a' := ?_) #[true, true, false, false, false, false, false, false, false, false] rfl rfl (take_ofW HT_.out HW_.out (by kernel_rfl)) (fun _ _ _ h => h) (Or.inl ⟨by rfl, ?_⟩) hHeld ?_ ?_
                rotate_left
                · rintro w' ⟨s0, s1, s2, s3⟩
                  go_simp
                  with_reducible rfl
                rotate_left
                · simp only [Act.put, List.setIfInBounds_toArray, List.set_cons_zero, List.set_cons_succ, i64_w, i32_w]
                  rfl
                refine take_ (i := 3) (N := some 12) (v := ?_) (a' := ?_) #[true, true, false, true, false, false, false, false, false, false] rfl rfl (take_ofW HT_.out HW_.out (by kernel_rfl)) (fun _ _ _ h => h) (Or.inl ⟨by rfl, ?_⟩) hHeld ?_ ?_
                rotate_left
                · rintro w' ⟨s0, s1, s2, s3⟩
                  go_simp
                  with_reducible rfl
                rotate_left
                · simp only [Act.put, List.setIfInBounds_toArray, List.set_cons_zero, List.set_cons_succ, i64_w, i32_w]
                  rfl
                refine take_ (i := 4) (N := some 13) (v := ?_) (a' := ?_) #[true, true, false, true, true, false, false, false, false, false] rfl rfl (take_ofW HT_.out HW_.out (by kernel_rfl)) (fun _ _ _ h => h) (Or.inl ⟨by rfl, ?_⟩) hHeld ?_ ?_
                rotate_left
                · rintro w' ⟨s0, s1, s2, s3⟩
                  go_simp
                  with_reducible rfl
                rotate_left
                · simp only [Act.put, List.setIfInBounds_toArray, List.set_cons_zero, List.set_cons_succ, i64_w, i32_w]
                  rfl
                refine join_ (σ := Nat × Nat) 2 #[true, true, true, true, true, true, true, true, false, false] (fun s_ => [(11, .agg #[.int .u64 t179, .int .u64 t180]), (14, .agg #[.int .u64 t181, .int .u64 t182]), (7, .pointer (some ⟨s_.1, 0, none⟩)), (8, .pointer (some ⟨s_.2, 0, none⟩))]) (fun s_ w' => (w'.cell? ⟨gb176, 0, none⟩ = some (.int .u64 a0_0) ∧ w'.cell? ⟨gb176, 1, none⟩ = some (.int .u64 a0_1) ∧ w'.cell? ⟨gb177, 0, none⟩ = some (.int .u64 a1_0) ∧ w'.cell? ⟨gb177, 1, none⟩ = some (.int .u64 a1_1)) ∧ (w'.heap[gb176]? = some (.cells #[.int .u64 a0_0, .int .u64 a0_1] 24 (0, 0))) ∧ (w'.heap[gb177]? = some (.cells #[.int .u64 a1_0, .int .u64 a1_1] 24 (0, 0))) ∧ (w'.heap[gb178]? = some (.cells #[.int .u64 a2_0, .int .u64 a2_1] 24 (0, 0))) ∧ (w'.heap[s_.1]? = some (.cells #[.int .u64 0, .int .u64 0] 24 (0, 0))) ∧ (w'.heap[s_.2]? = some (.cells #[.int .u64 0, .int .u64 0] 24 (0, 0))) ∧ (w.heap.size ≤ s_.1) ∧ (w.heap.size ≤ s_.1) ∧ (gb176 ≠ s_.1) ∧ (s_.1 ≠ gb176) ∧ (gb177 ≠ s_.1) ∧ (s_.1 ≠ gb177) ∧ (gb178 ≠ s_.1) ∧ (s_.1 ≠ gb178) ∧ (s_.2 ≠ s_.1) ∧ (s_.1 ≠ s_.2) ∧ (w.heap.size ≤ s_.2) ∧ (w.heap.size ≤ s_.2) ∧ (gb176 ≠ s_.2) ∧ (s_.2 ≠ gb176) ∧ (gb177 ≠ s_.2) ∧ (s_.2 ≠ gb177) ∧ (gb178 ≠ s_.2) ∧ (s_.2 ≠ gb178) ∧ (Below w.heap.size w w')) ?_ ?_
                rotate_left
                · intro hJ2_5_6_7
                  refine join_ (σ := Nat) 3 #[true, true, true, true, true, true, true, false, false, false] (fun s_ => [(11, .agg #[.int .u64 t179, .int .u64 t180]), (14, .agg #[.int .u64 t181, .int .u64 t182]), (7, .pointer (some ⟨s_, 0, none⟩))]) (fun s_ w' => (w'.cell? ⟨gb176, 0, none⟩ = some (.int .u64 a0_0) ∧ w'.cell? ⟨gb176, 1, none⟩ = some (.int .u64 a0_1) ∧ w'.cell? ⟨gb177, 0, none⟩ = some (.int .u64 a1_0) ∧ w'.cell? ⟨gb177, 1, none⟩ = some (.int .u64 a1_1)) ∧ (w'.heap[gb176]? = some (.cells #[.int .u64 a0_0, .int .u64 a0_1] 24 (0, 0))) ∧ (w'.heap[gb177]? = some (.cells #[.int .u64 a1_0, .int .u64 a1_1] 24 (0, 0))) ∧ (w'.heap[gb178]? = some (.cells #[.int .u64 a2_0, .int .u64 a2_1] 24 (0, 0))) ∧ (w'.heap[s_]? = some (.cells #[.int .u64 0, .int .u64 0] 24 (0, 0))) ∧ (w.heap.size ≤ s_) ∧ (w.heap.size ≤ s_) ∧ (gb176 ≠ s_) ∧ (s_ ≠ gb176) ∧ (gb177 ≠ s_) ∧ (s_ ≠ gb177) ∧ (gb178 ≠ s_) ∧ (s_ ≠ gb178) ∧ (Below w.heap.size w w')) ?_ ?_
                  rotate_left
                  · intro hJ2_5_6
                    refine join_ (σ := Nat) 3 #[true, true, true, true, true, true, false, true, false, false] (fun s_ => [(11, .agg #[.int .u64 t179, .int .u64 t180]), (14, .agg #[.int .u64 t181, .int .u64 t182]), (8, .pointer (some ⟨s_, 0, none⟩))]) (fun s_ w' => (w'.cell? ⟨gb176, 0, none⟩ = some (.int .u64 a0_0) ∧ w'.cell? ⟨gb176, 1, none⟩ = some (.int .u64 a0_1) ∧ w'.cell? ⟨gb177, 0, none⟩ = some (.int .u64 a1_0) ∧ w'.cell? ⟨gb177, 1, none⟩ = some (.int .u64 a1_1)) ∧ (w'.heap[gb176]? = some (.cells #[.int .u64 a0_0, .int .u64 a0_1] 24 (0, 0))) ∧ (w'.heap[gb177]? = some (.cells #[.int .u64 a1_0, .int .u64 a1_1] 24 (0, 0))) ∧ (w'.heap[gb178]? = some (.cells #[.int .u64 a2_0, .int .u64 a2_1] 24 (0, 0))) ∧ (w'.heap[s_]? = some (.cells #[.int .u64 0, .int .u64 0] 24 (0, 0))) ∧ (w.heap.size ≤ s_) ∧ (w.heap.size ≤ s_) ∧ (gb176 ≠ s_) ∧ (s_ ≠ gb176) ∧ (gb177 ≠ s_) ∧ (s_ ≠ gb177) ∧ (gb178 ≠ s_) ∧ (s_ ≠ gb178) ∧ (Below w.heap.size w w')) ?_ ?_
                    rotate_left
                    · intro hJ2_5_7
                      refine join_ (σ := Nat × Nat) 3 #[true, true, true, true, true, false, true, true, false, false] (fun s_ => [(11, .agg #[.int .u64 t179, .int .u64 t180]), (7, .pointer (some ⟨s_.1, 0, none⟩)), (8, .pointer (some ⟨s_.2, 0, none⟩))]) (fun s_ w' => (w'.cell? ⟨gb176, 0, none⟩ = some (.int .u64 a0_0) ∧ w'.cell? ⟨gb176, 1, none⟩ = some (.int .u64 a0_1) ∧ w'.cell? ⟨gb177, 0, none⟩ = some (.int .u64 a1_0) ∧ w'.cell? ⟨gb177, 1, none⟩ = some (.int .u64 a1_1)) ∧ (w'.heap[gb176]? = some (.cells #[.int .u64 a0_0, .int .u64 a0_1] 24 (0, 0))) ∧ (w'.heap[gb177]? = some (.cells #[.int .u64 a1_0, .int .u64 a1_1] 24 (0, 0))) ∧ (w'.heap[gb178]? = some (.cells #[.int .u64 a2_0, .int .u64 a2_1] 24 (0, 0))) ∧ (w'.heap[s_.1]? = some (.cells #[.int .u64 0, .int .u64 0] 24 (0, 0))) ∧ (w'.heap[s_.2]? = some (.cells #[.int .u64 0, .int .u64 0] 24 (0, 0))) ∧ (w.heap.size ≤ s_.1) ∧ (w.heap.size ≤ s_.1) ∧ (gb176 ≠ s_.1) ∧ (s_.1 ≠ gb176) ∧ (gb177 ≠ s_.1) ∧ (s_.1 ≠ gb177) ∧ (gb178 ≠ s_.1) ∧ (s_.1 ≠ gb178) ∧ (s_.2 ≠ s_.1) ∧ (s_.1 ≠ s_.2) ∧ (w.heap.size ≤ s_.2) ∧ (w.heap.size ≤ s_.2) ∧ (gb176 ≠ s_.2) ∧ (s_.2 ≠ gb176) ∧ (gb177 ≠ s_.2) ∧ (s_.2 ≠ gb177) ∧ (gb178 ≠ s_.2) ∧ (s_.2 ≠ gb178) ∧ (Below w.heap.size w w')) ?_ ?_
                      rotate_left
                      · intro hJ2_6_7
                        refine join_ (σ := Unit) 4 #[true, true, true, true, true, true, false, false, false, false] (fun s_ => [(11, .agg #[.int .u64 t179, .int .u64 t180]), (14, .agg #[.int .u64 t181, .int .u64 t182])]) (fun s_ w' => (w'.cell? ⟨gb176, 0, none⟩ = some (.int .u64 a0_0) ∧ w'.cell? ⟨gb176, 1, none⟩ = some (.int .u64 a0_1) ∧ w'.cell? ⟨gb177, 0, none⟩ = some (.int .u64 a1_0) ∧ w'.cell? ⟨gb177, 1, none⟩ = some (.int .u64 a1_1)) ∧ (w'.heap[gb176]? = some (.cells #[.int .u64 a0_0, .int .u64 a0_1] 24 (0, 0))) ∧ (w'.heap[gb177]? = some (.cells #[.int .u64 a1_0, .int .u64 a1_1] 24 (0, 0))) ∧ (w'.heap[gb178]? = some (.cells #[.int .u64 a2_0, .int .u64 a2_1] 24 (0, 0))) ∧ (Below w.heap.size w w')) ?_ ?_
                        rotate_left
                        · intro hJ2_5
                          refine join_ (σ := Nat) 4 #[true, true, true, true, true, false, true, false, false, false] (fun s_ => [(11, .agg #[.int .u64 t179, .int .u64 t180]), (7, .pointer (some ⟨s_, 0, none⟩))]) (fun s_ w' => (w'.cell? ⟨gb176, 0, none⟩ = some (.int .u64 a0_0) ∧ w'.cell? ⟨gb176, 1, none⟩ = some (.int .u64 a0_1) ∧ w'.cell? ⟨gb177, 0, none⟩ = some (.int .u64 a1_0) ∧ w'.cell? ⟨gb177, 1, none⟩ = some (.int .u64 a1_1)) ∧ (w'.heap[gb176]? = some (.cells #[.int .u64 a0_0, .int .u64 a0_1] 24 (0, 0))) ∧ (w'.heap[gb177]? = some (.cells #[.int .u64 a1_0, .int .u64 a1_1] 24 (0, 0))) ∧ (w'.heap[gb178]? = some (.cells #[.int .u64 a2_0, .int .u64 a2_1] 24 (0, 0))) ∧ (w'.heap[s_]? = some (.cells #[.int .u64 0, .int .u64 0] 24 (0, 0))) ∧ (w.heap.size ≤ s_) ∧ (w.heap.size ≤ s_) ∧ (gb176 ≠ s_) ∧ (s_ ≠ gb176) ∧ (gb177 ≠ s_) ∧ (s_ ≠ gb177) ∧ (gb178 ≠ s_) ∧ (s_ ≠ gb178) ∧ (Below w.heap.size w w')) ?_ ?_
                          rotate_left
                          · intro hJ2_6
                            refine join_ (σ := Nat) 4 #[true, true, true, true, true, false, false, true, false, false] (fun s_ => [(11, .agg #[.int .u64 t179, .int .u64 t180]), (8, .pointer (some ⟨s_, 0, none⟩))]) (fun s_ w' => (w'.cell? ⟨gb176, 0, none⟩ = some (.int .u64 a0_0) ∧ w'.cell? ⟨gb176, 1, none⟩ = some (.int .u64 a0_1) ∧ w'.cell? ⟨gb177, 0, none⟩ = some (.int .u64 a1_0) ∧ w'.cell? ⟨gb177, 1, none⟩ = some (.int .u64 a1_1)) ∧ (w'.heap[gb176]? = some (.cells #[.int .u64 a0_0, .int .u64 a0_1] 24 (0, 0))) ∧ (w'.heap[gb177]? = some (.cells #[.int .u64 a1_0, .int .u64 a1_1] 24 (0, 0))) ∧ (w'.heap[gb178]? = some (.cells #[.int .u64 a2_0, .int .u64 a2_1] 24 (0, 0))) ∧ (w'.heap[s_]? = some (.cells #[.int .u64 0, .int .u64 0] 24 (0, 0))) ∧ (w.heap.size ≤ s_) ∧ (w.heap.size ≤ s_) ∧ (gb176 ≠ s_) ∧ (s_ ≠ gb176) ∧ (gb177 ≠ s_) ∧ (s_ ≠ gb177) ∧ (gb178 ≠ s_) ∧ (s_ ≠ gb178) ∧ (Below w.heap.size w w')) ?_ ?_
                            rotate_left
                            · intro hJ2_7
                              refine join_ (σ := Nat × Nat) 4 #[true, true, false, true, true, false, true, true, false, false] (fun s_ => [(7, .pointer (some ⟨s_.1, 0, none⟩)), (8, .pointer (some ⟨s_.2, 0, none⟩))]) (fun s_ w' => (w'.cell? ⟨gb176, 0, none⟩ = some (.int .u64 a0_0) ∧ w'.cell? ⟨gb176, 1, none⟩ = some (.int .u64 a0_1) ∧ w'.cell? ⟨gb177, 0, none⟩ = some (.int .u64 a1_0) ∧ w'.cell? ⟨gb177, 1, none⟩ = some (.int .u64 a1_1)) ∧ (w'.heap[gb176]? = some (.cells #[.int .u64 a0_0, .int .u64 a0_1] 24 (0, 0))) ∧ (w'.heap[gb177]? = some (.cells #[.int .u64 a1_0, .int .u64 a1_1] 24 (0, 0))) ∧ (w'.heap[gb178]? = some (.cells #[.int .u64 a2_0, .int .u64 a2_1] 24 (0, 0))) ∧ (w'.heap[s_.1]? = some (.cells #[.int .u64 0, .int .u64 0] 24 (0, 0))) ∧ (w'.heap[s_.2]? = some (.cells #[.int .u64 0, .int .u64 0] 24 (0, 0))) ∧ (w.heap.size ≤ s_.1) ∧ (w.heap.size ≤ s_.1) ∧ (gb176 ≠ s_.1) ∧ (s_.1 ≠ gb176) ∧ (gb177 ≠ s_.1) ∧ (s_.1 ≠ gb177) ∧ (gb178 ≠ s_.1) ∧ (s_.1 ≠ gb178) ∧ (s_.2 ≠ s_.1) ∧ (s_.1 ≠ s_.2) ∧ (w.heap.size ≤ s_.2) ∧ (w.heap.size ≤ s_.2) ∧ (gb176 ≠ s_.2) ∧ (s_.2 ≠ gb176) ∧ (gb177 ≠ s_.2) ∧ (s_.2 ≠ gb177) ∧ (gb178 ≠ s_.2) ∧ (s_.2 ≠ gb178) ∧ (Below w.heap.size w w')) ?_ ?_
                              rotate_left
                              · intro hJ6_7
                                refine join_ (σ := Unit) 5 #[true, true, true, true, true, false, false, false, false, false] (fun s_ => [(11, .agg #[.int .u64 t179, .int .u64 t180])]) (fun s_ w' => (w'.cell? ⟨gb176, 0, none⟩ = some (.int .u64 a0_0) ∧ w'.cell? ⟨gb176, 1, none⟩ = some (.int .u64 a0_1) ∧ w'.cell? ⟨gb177, 0, none⟩ = some (.int .u64 a1_0) ∧ w'.cell? ⟨gb177, 1, none⟩ = some (.int .u64 a1_1)) ∧ (w'.heap[gb176]? = some (.cells #[.int .u64 a0_0, .int .u64 a0_1] 24 (0, 0))) ∧ (w'.heap[gb177]? = some (.cells #[.int .u64 a1_0, .int .u64 a1_1] 24 (0, 0))) ∧ (w'.heap[gb178]? = some (.cells #[.int .u64 a2_0, .int .u64 a2_1] 24 (0, 0))) ∧ (Below w.heap.size w w')) ?_ ?_
                                rotate_left
                                · intro hJ2
                                  refine join_ (σ := Nat) 5 #[true, true, false, true, true, false, true, false, false, false] (fun s_ => [(7, .pointer (some ⟨s_, 0, none⟩))]) (fun s_ w' => (w'.cell? ⟨gb176, 0, none⟩ = some (.int .u64 a0_0) ∧ w'.cell? ⟨gb176, 1, none⟩ = some (.int .u64 a0_1) ∧ w'.cell? ⟨gb177, 0, none⟩ = some (.int .u64 a1_0) ∧ w'.cell? ⟨gb177, 1, none⟩ = some (.int .u64 a1_1)) ∧ (w'.heap[gb176]? = some (.cells #[.int .u64 a0_0, .int .u64 a0_1] 24 (0, 0))) ∧ (w'.heap[gb177]? = some (.cells #[.int .u64 a1_0, .int .u64 a1_1] 24 (0, 0))) ∧ (w'.heap[gb178]? = some (.cells #[.int .u64 a2_0, .int .u64 a2_1] 24 (0, 0))) ∧ (w'.heap[s_]? = some (.cells #[.int .u64 0, .int .u64 0] 24 (0, 0))) ∧ (w.heap.size ≤ s_) ∧ (w.heap.size ≤ s_) ∧ (gb176 ≠ s_) ∧ (s_ ≠ gb176) ∧ (gb177 ≠ s_) ∧ (s_ ≠ gb177) ∧ (gb178 ≠ s_) ∧ (s_ ≠ gb178) ∧ (Below w.heap.size w w')) ?_ ?_
                                  rotate_left
                                  · intro hJ6
                                    refine join_ (σ := Nat) 5 #[true, true, false, true, true, false, false, true, false, false] (fun s_ => [(8, .pointer (some ⟨s_, 0, none⟩))]) (fun s_ w' => (w'.cell? ⟨gb176, 0, none⟩ = some (.int .u64 a0_0) ∧ w'.cell? ⟨gb176, 1, none⟩ = some (.int .u64 a0_1) ∧ w'.cell? ⟨gb177, 0, none⟩ = some (.int .u64 a1_0) ∧ w'.cell? ⟨gb177, 1, none⟩ = some (.int .u64 a1_1)) ∧ (w'.heap[gb176]? = some (.cells #[.int .u64 a0_0, .int .u64 a0_1] 24 (0, 0))) ∧ (w'.heap[gb177]? = some (.cells #[.int .u64 a1_0, .int .u64 a1_1] 24 (0, 0))) ∧ (w'.heap[gb178]? = some (.cells #[.int .u64 a2_0, .int .u64 a2_1] 24 (0, 0))) ∧ (w'.heap[s_]? = some (.cells #[.int .u64 0, .int .u64 0] 24 (0, 0))) ∧ (w.heap.size ≤ s_) ∧ (w.heap.size ≤ s_) ∧ (gb176 ≠ s_) ∧ (s_ ≠ gb176) ∧ (gb177 ≠ s_) ∧ (s_ ≠ gb177) ∧ (gb178 ≠ s_) ∧ (s_ ≠ gb178) ∧ (Below w.heap.size w w')) ?_ ?_
                                    rotate_left
                                    · intro hJ7
                                      refine three_ (i := 2) (j := 6) (k := 7) (Ni := some 11) (Nj := some 7) (Nk := some 8) #[true, true, true, true, true, false, false, false, false, false] #[true, true, false, true, true, false, true, false, false, false] #[true, true, false, true, true, false, false, true, false, false] rfl rfl rfl rfl rfl rfl (three_of HT_.out (by kernel_rfl)) (by decide) (by decide) (by decide) (fun K hK => ?_) (fun K hK => ?_) (fun K hK => ?_)
                                      · skip
                                        refine goes_ Try.func27 (by kernel_rfl) rfl #[.agg #[.int .u64 a0_0, .int .u64 a0_1], .agg #[.int .u64 a1_0, .int .u64 a1_1]] (by rfl) rfl rfl (by (try simp only [List.map_toArray, List.map_cons, List.map_nil]); first | done | rfl | (simp only [List.length_drop, List.length_take]; rfl)) ?_
                                        with_reducible refine (word_Xor.calls a0_0 a0_1 a1_0 a1_1 t179 t180 _ A4.out).mono ?_
                                        rintro e w38 ⟨rfl, hb⟩
                                        refine ⟨_, rfl, ?_⟩
                                        have n0_ := Aside0.mk (blk_below (bkA BK176.out) hb); have n1_ := Aside0.mk (blk_below (bkA BK177.out) hb); have n2_ := Aside0.mk (blk_below (bkA BK178.out) hb)
                                        have n3_ := Aside0.mk (below_step (by repeat (first | (with_reducible first | exact HB.out | apply below_alloc | apply pw_below_drewN | apply below_drew1 | refine below_set ?_ GE176.out | refine below_set ?_ GE177.out | refine below_set ?_ GE178.out) | exact HB.out)) hb)
                                        clear BK176; clear BK177; clear BK178; clear HB; have BK176 := n0_; have BK177 := n1_; have BK178 := n2_; have HB := n3_; clear n0_ n1_ n2_ n3_; (try clear hb); (try clear hb2); (try clear hk); (try clear hi)
                                        refine hK.out _ _ ⟨(blk_cell BK176.out 0).trans rfl, (blk_cell BK176.out 1).trans rfl, (blk_cell BK177.out 0).trans rfl, (blk_cell BK177.out 1).trans rfl⟩ (fun hHeld => ?_)
                                        clear hK K
                                        refine norm_ (a' := ?_) ?_ ?_
                                        rotate_left
                                        · show Act.put _ (some 11) _ = _
                                          simp only [Act.put, List.setIfInBounds_toArray, List.set_cons_zero, List.set_cons_succ, i64_w, i32_w]
                                          rfl
                                        exact norm_ (by first | (simp only [putAll, Act.put, List.setIfInBounds_toArray, List.set_cons_zero, List.set_cons_succ]; done) | (simp only [putAll, Act.put, List.setIfInBounds_toArray, List.set_cons_zero, List.set_cons_succ]; rfl)) (hJ2 () _ ⟨hHeld, (bkA BK176.out), (bkA BK177.out), (bkA BK178.out), (by repeat (first | (with_reducible first | exact HB.out | apply below_alloc | apply pw_below_drewN | apply below_drew1 | refine below_set ?_ GE176.out | refine below_set ?_ GE177.out | refine below_set ?_ GE178.out) | exact HB.out))⟩)
                                      · skip
                                        refine box_step ?hg (N := 7) ?hd (cs := #[.int .u64 0, .int .u64 0]) (t := 24) ?hr ?_; (case hd => rfl); (case hg => rfl); (case hr => first | (go_simp; done) | (go_simp; rfl))
                                        intro gb183 hg w38 hbox hb
                                        have n0_ := Aside0.mk (blk_below (bkA BK176.out) hb); have n1_ := Aside0.mk (blk_below (bkA BK177.out) hb); have n2_ := Aside0.mk (blk_below (bkA BK178.out) hb)
                                        have n3_ := Aside0.mk (below_step (by repeat (first | (with_reducible first | exact HB.out | apply below_alloc | apply pw_below_drewN | apply below_drew1 | refine below_set ?_ GE176.out | refine below_set ?_ GE177.out | refine below_set ?_ GE178.out) | exact HB.out)) hb)
                                        have n4_ := Aside0.mk (hbox)
                                        have n5_ := Aside0.mk ((by rw [hg]; exact (below_size (by repeat (first | (with_reducible first | exact HB.out | apply below_alloc | apply pw_below_drewN | apply below_drew1 | refine below_set ?_ GE176.out | refine below_set ?_ GE177.out | refine below_set ?_ GE178.out) | exact HB.out))) : w.heap.size ≤ gb183))
                                        have n6_ := Aside0.mk ((by rw [hg]; exact (below_size (by repeat (first | (with_reducible first | exact HB.out | apply below_alloc | apply pw_below_drewN | apply below_drew1 | refine below_set ?_ GE176.out | refine below_set ?_ GE177.out | refine below_set ?_ GE178.out) | exact HB.out))) : w.heap.size ≤ gb183))
                                        have n7_ := Aside0.mk ((by rw [hg]; exact Nat.ne_of_lt (blk_lt (bkA BK176.out)) : gb176 ≠ gb183))
                                        have n8_ := Aside0.mk ((by rw [hg]; exact Nat.ne_of_gt (blk_lt (bkA BK176.out)) : gb183 ≠ gb176))
                                        have n9_ := Aside0.mk ((by rw [hg]; exact Nat.ne_of_lt (blk_lt (bkA BK177.out)) : gb177 ≠ gb183))
                                        have n10_ := Aside0.mk ((by rw [hg]; exact Nat.ne_of_gt (blk_lt (bkA BK177.out)) : gb183 ≠ gb177))
                                        have n11_ := Aside0.mk ((by rw [hg]; exact Nat.ne_of_lt (blk_lt (bkA BK178.out)) : gb178 ≠ gb183))
                                        have n12_ := Aside0.mk ((by rw [hg]; exact Nat.ne_of_gt (blk_lt (bkA BK178.out)) : gb183 ≠ gb178))
                                        clear BK176; clear BK177; clear BK178; clear HB; have BK176 := n0_; have BK177 := n1_; have BK178 := n2_; have HB := n3_; have BK183 := n4_; have GW183 := n5_; have GE183 := n6_; have NB176_183 := n7_; have NB183_176 := n8_; have NB177_183 := n9_; have NB183_177 := n10_; have NB178_183 := n11_; have NB183_178 := n12_; clear n0_ n1_ n2_ n3_ n4_ n5_ n6_ n7_ n8_ n9_ n10_ n11_ n12_; clear hb hbox hg
                                        refine hK.out _ _ ⟨(blk_cell BK176.out 0).trans rfl, (blk_cell BK176.out 1).trans rfl, (blk_cell BK177.out 0).trans rfl, (blk_cell BK177.out 1).trans rfl⟩ (fun hHeld => ?_)
                                        clear hK K
                                        refine norm_ (a' := ?_) ?_ ?_
                                        rotate_left
                                        · show Act.put _ (some 7) _ = _
                                          simp only [Act.put, List.setIfInBounds_toArray, List.set_cons_zero, List.set_cons_succ, i64_w, i32_w]
                                          rfl
                                        exact norm_ (by first | (simp only [putAll, Act.put, List.setIfInBounds_toArray, List.set_cons_zero, List.set_cons_succ]; done) | (simp only [putAll, Act.put, List.setIfInBounds_toArray, List.set_cons_zero, List.set_cons_succ]; rfl)) (hJ6 (gb183) _ ⟨hHeld, (bkA BK176.out), (bkA BK177.out), (bkA BK178.out), (bkA BK183.out), GW183.out, GE183.out, NB176_183.out, NB183_176.out, NB177_183.out, NB183_177.out, NB178_183.out, NB183_178.out, (by repeat (first | (with_reducible first | exact HB.out | apply below_alloc | apply pw_below_drewN | apply below_drew1 | refine below_set ?_ GE176.out | refine below_set ?_ GE177.out | refine below_set ?_ GE178.out | refine below_set ?_ GE183.out) | exact HB.out))⟩)
                                      · skip
                                        refine box_step ?hg (N := 8) ?hd (cs := #[.int .u64 0, .int .u64 0]) (t := 24) ?hr ?_; (case hd => rfl); (case hg => rfl); (case hr => first | (go_simp; done) | (go_simp; rfl))
                                        intro gb184 hg w38 hbox hb
                                        have n0_ := Aside0.mk (blk_below (bkA BK176.out) hb); have n1_ := Aside0.mk (blk_below (bkA BK177.out) hb); have n2_ := Aside0.mk (blk_below (bkA BK178.out) hb)
                                        have n3_ := Aside0.mk (below_step (by repeat (first | (with_reducible first | exact HB.out | apply below_alloc | apply pw_below_drewN | apply below_drew1 | refine below_set ?_ GE176.out | refine below_set ?_ GE177.out | refine below_set ?_ GE178.out) | exact HB.out)) hb)
                                        have n4_ := Aside0.mk (hbox)
                                        have n5_ := Aside0.mk ((by rw [hg]; exact (below_size (by repeat (first | (with_reducible first | exact HB.out | apply below_alloc | apply pw_below_drewN | apply below_drew1 | refine below_set ?_ GE176.out | refine below_set ?_ GE177.out | refine below_set ?_ GE178.out) | exact HB.out))) : w.heap.size ≤ gb184))
                                        have n6_ := Aside0.mk ((by rw [hg]; exact (below_size (by repeat (first | (with_reducible first | exact HB.out | apply below_alloc | apply pw_below_drewN | apply below_drew1 | refine below_set ?_ GE176.out | refine below_set ?_ GE177.out | refine below_set ?_ GE178.out) | exact HB.out))) : w.heap.size ≤ gb184))
                                        have n7_ := Aside0.mk ((by rw [hg]; exact Nat.ne_of_lt (blk_lt (bkA BK176.out)) : gb176 ≠ gb184))
                                        have n8_ := Aside0.mk ((by rw [hg]; exact Nat.ne_of_gt (blk_lt (bkA BK176.out)) : gb184 ≠ gb176))
                                        have n9_ := Aside0.mk ((by rw [hg]; exact Nat.ne_of_lt (blk_lt (bkA BK177.out)) : gb177 ≠ gb184))
                                        have n10_ := Aside0.mk ((by rw [hg]; exact Nat.ne_of_gt (blk_lt (bkA BK177.out)) : gb184 ≠ gb177))
                                        have n11_ := Aside0.mk ((by rw [hg]; exact Nat.ne_of_lt (blk_lt (bkA BK178.out)) : gb178 ≠ gb184))
                                        have n12_ := Aside0.mk ((by rw [hg]; exact Nat.ne_of_gt (blk_lt (bkA BK178.out)) : gb184 ≠ gb178))
                                        clear BK176; clear BK177; clear BK178; clear HB; have BK176 := n0_; have BK177 := n1_; have BK178 := n2_; have HB := n3_; have BK184 := n4_; have GW184 := n5_; have GE184 := n6_; have NB176_184 := n7_; have NB184_176 := n8_; have NB177_184 := n9_; have NB184_177 := n10_; have NB178_184 := n11_; have NB184_178 := n12_; clear n0_ n1_ n2_ n3_ n4_ n5_ n6_ n7_ n8_ n9_ n10_ n11_ n12_; clear hb hbox hg
                                        refine hK.out _ _ ⟨(blk_cell BK176.out 0).trans rfl, (blk_cell BK176.out 1).trans rfl, (blk_cell BK177.out 0).trans rfl, (blk_cell BK177.out 1).trans rfl⟩ (fun hHeld => ?_)
                                        clear hK K
                                        refine norm_ (a' := ?_) ?_ ?_
                                        rotate_left
                                        · show Act.put _ (some 8) _ = _
                                          simp only [Act.put, List.setIfInBounds_toArray, List.set_cons_zero, List.set_cons_succ, i64_w, i32_w]
                                          rfl
                                        exact norm_ (by first | (simp only [putAll, Act.put, List.setIfInBounds_toArray, List.set_cons_zero, List.set_cons_succ]; done) | (simp only [putAll, Act.put, List.setIfInBounds_toArray, List.set_cons_zero, List.set_cons_succ]; rfl)) (hJ7 (gb184) _ ⟨hHeld, (bkA BK176.out), (bkA BK177.out), (bkA BK178.out), (bkA BK184.out), GW184.out, GE184.out, NB176_184.out, NB184_176.out, NB177_184.out, NB184_177.out, NB178_184.out, NB184_178.out, (by repeat (first | (with_reducible first | exact HB.out | apply below_alloc | apply pw_below_drewN | apply below_drew1 | refine below_set ?_ GE176.out | refine below_set ?_ GE177.out | refine below_set ?_ GE178.out | refine below_set ?_ GE184.out) | exact HB.out))⟩)
                                    · skip
                                      rintro gb184 w39 ⟨hS_, h0_, h1_, h2_, h3_, h4_, h5_, h6_, h7_, h8_, h9_, h10_, h11_, h12_⟩
                                      have n0_ : Aside0 (w39.heap[gb176]? = some (.cells #[.int .u64 a0_0, .int .u64 a0_1] 24 (0, 0))) := ⟨h0_⟩
                                      have n1_ : Aside0 (w39.heap[gb177]? = some (.cells #[.int .u64 a1_0, .int .u64 a1_1] 24 (0, 0))) := ⟨h1_⟩
                                      have n2_ : Aside0 (w39.heap[gb178]? = some (.cells #[.int .u64 a2_0, .int .u64 a2_1] 24 (0, 0))) := ⟨h2_⟩
                                      have n3_ : Aside0 (w39.heap[gb184]? = some (.cells #[.int .u64 0, .int .u64 0] 24 (0, 0))) := ⟨h3_⟩
                                      have n4_ : Aside0 (w.heap.size ≤ gb184) := ⟨h4_⟩
                                      have n5_ : Aside0 (w.heap.size ≤ gb184) := ⟨h5_⟩
                                      have n6_ : Aside0 (gb176 ≠ gb184) := ⟨h6_⟩
                                      have n7_ : Aside0 (gb184 ≠ gb176) := ⟨h7_⟩
                                      have n8_ : Aside0 (gb177 ≠ gb184) := ⟨h8_⟩
                                      have n9_ : Aside0 (gb184 ≠ gb177) := ⟨h9_⟩
                                      have n10_ : Aside0 (gb178 ≠ gb184) := ⟨h10_⟩
                                      have n11_ : Aside0 (gb184 ≠ gb178) := ⟨h11_⟩
                                      have n12_ : Aside0 (Below w.heap.size w w39) := ⟨h12_⟩
                                      clear BK176; clear BK177; clear BK178; clear HB; clear h0_ h1_ h2_ h3_ h4_ h5_ h6_ h7_ h8_ h9_ h10_ h11_ h12_; have BK176 := n0_; have BK177 := n1_; have BK178 := n2_; have BK184 := n3_; have GW184 := n4_; have GE184 := n5_; have NB176_184 := n6_; have NB184_176 := n7_; have NB177_184 := n8_; have NB184_177 := n9_; have NB178_184 := n10_; have NB184_178 := n11_; have HB := n12_; clear n0_ n1_ n2_ n3_ n4_ n5_ n6_ n7_ n8_ n9_ n10_ n11_ n12_
                                      have hHeld : w39.cell? ⟨gb176, 0, none⟩ = some (.int .u64 a0_0) ∧ w39.cell? ⟨gb176, 1, none⟩ = some (.int .u64 a0_1) ∧ w39.cell? ⟨gb177, 0, none⟩ = some (.int .u64 a1_0) ∧ w39.cell? ⟨gb177, 1, none⟩ = some (.int .u64 a1_1) := hS_
                                      refine norm_ (a' := ?_) ?_ ?_
                                      rotate_left
                                      · simp only [putAll, Act.put, List.setIfInBounds_toArray, List.set_cons_zero, List.set_cons_succ]
                                        rfl
                                      refine two_ (i := 2) (j := 6) (Ni := some 11) (Nj := some 7) #[true, true, true, true, true, false, false, true, false, false] #[true, true, false, true, true, false, true, true, false, false] rfl rfl rfl rfl (two_of HT_.out (by kernel_rfl)) (by decide) (by decide) (fun K hK => ?_) (fun K hK => ?_)
                                      · skip
                                        refine goes_ Try.func27 (by kernel_rfl) rfl #[.agg #[.int .u64 a0_0, .int .u64 a0_1], .agg #[.int .u64 a1_0, .int .u64 a1_1]] (by rfl) rfl rfl (by (try simp only [List.map_toArray, List.map_cons, List.map_nil]); first | done | rfl | (simp only [List.length_drop, List.length_take]; rfl)) ?_
                                        with_reducible refine (word_Xor.calls a0_0 a0_1 a1_0 a1_1 t179 t180 _ A4.out).mono ?_
                                        rintro e w40 ⟨rfl, hb⟩
                                        refine ⟨_, rfl, ?_⟩
                                        have n0_ := Aside0.mk (blk_below (bkA BK176.out) hb); have n1_ := Aside0.mk (blk_below (bkA BK177.out) hb); have n2_ := Aside0.mk (blk_below (bkA BK178.out) hb); have n3_ := Aside0.mk (blk_below (bkA BK184.out) hb)
                                        have n4_ := Aside0.mk (below_step (by repeat (first | (with_reducible first | exact HB.out | apply below_alloc | apply pw_below_drewN | apply below_drew1 | refine below_set ?_ GE176.out | refine below_set ?_ GE177.out | refine below_set ?_ GE178.out | refine below_set ?_ GE184.out) | exact HB.out)) hb)
                                        clear BK176; clear BK177; clear BK178; clear BK184; clear HB; have BK176 := n0_; have BK177 := n1_; have BK178 := n2_; have BK184 := n3_; have HB := n4_; clear n0_ n1_ n2_ n3_ n4_; (try clear hb); (try clear hb2); (try clear hk); (try clear hi)
                                        refine hK.out _ _ ⟨(blk_cell BK176.out 0).trans rfl, (blk_cell BK176.out 1).trans rfl, (blk_cell BK177.out 0).trans rfl, (blk_cell BK177.out 1).trans rfl⟩ (fun hHeld => ?_)
                                        clear hK K
                                        refine norm_ (a' := ?_) ?_ ?_
                                        rotate_left
                                        · show Act.put _ (some 11) _ = _
                                          simp only [Act.put, List.setIfInBounds_toArray, List.set_cons_zero, List.set_cons_succ, i64_w, i32_w]
                                          rfl
                                        exact norm_ (by first | (simp only [putAll, Act.put, List.setIfInBounds_toArray, List.set_cons_zero, List.set_cons_succ]; done) | (simp only [putAll, Act.put, List.setIfInBounds_toArray, List.set_cons_zero, List.set_cons_succ]; rfl)) (hJ2_7 (gb184) _ ⟨hHeld, (bkA BK176.out), (bkA BK177.out), (bkA BK178.out), (bkA BK184.out), GW184.out, GE184.out, NB176_184.out, NB184_176.out, NB177_184.out, NB184_177.out, NB178_184.out, NB184_178.out, (by repeat (first | (with_reducible first | exact HB.out | apply below_alloc | apply pw_below_drewN | apply below_drew1 | refine below_set ?_ GE176.out | refine below_set ?_ GE177.out | refine below_set ?_ GE178.out | refine below_set ?_ GE184.out) | exact HB.out))⟩)
                                      · skip
                                        refine box_step ?hg (N := 7) ?hd (cs := #[.int .u64 0, .int .u64 0]) (t := 24) ?hr ?_; (case hd => rfl); (case hg => rfl); (case hr => first | (go_simp; done) | (go_simp; rfl))
                                        intro gb183 hg w40 hbox hb
                                        have n0_ := Aside0.mk (blk_below (bkA BK176.out) hb); have n1_ := Aside0.mk (blk_below (bkA BK177.out) hb); have n2_ := Aside0.mk (blk_below (bkA BK178.out) hb); have n3_ := Aside0.mk (blk_below (bkA BK184.out) hb)
                                        have n4_ := Aside0.mk (below_step (by repeat (first | (with_reducible first | exact HB.out | apply below_alloc | apply pw_below_drewN | apply below_drew1 | refine below_set ?_ GE176.out | refine below_set ?_ GE177.out | refine below_set ?_ GE178.out | refine below_set ?_ GE184.out) | exact HB.out)) hb)
                                        have n5_ := Aside0.mk (hbox)
                                        have n6_ := Aside0.mk ((by rw [hg]; exact (below_size (by repeat (first | (with_reducible first | exact HB.out | apply below_alloc | apply pw_below_drewN | apply below_drew1 | refine below_set ?_ GE176.out | refine below_set ?_ GE177.out | refine below_set ?_ GE178.out | refine below_set ?_ GE184.out) | exact HB.out))) : w.heap.size ≤ gb183))
                                        have n7_ := Aside0.mk ((by rw [hg]; exact (below_size (by repeat (first | (with_reducible first | exact HB.out | apply below_alloc | apply pw_below_drewN | apply below_drew1 | refine below_set ?_ GE176.out | refine below_set ?_ GE177.out | refine below_set ?_ GE178.out | refine below_set ?_ GE184.out) | exact HB.out))) : w.heap.size ≤ gb183))
                                        have n8_ := Aside0.mk ((by rw [hg]; exact Nat.ne_of_lt (blk_lt (bkA BK176.out)) : gb176 ≠ gb183))
                                        have n9_ := Aside0.mk ((by rw [hg]; exact Nat.ne_of_gt (blk_lt (bkA BK176.out)) : gb183 ≠ gb176))
                                        have n10_ := Aside0.mk ((by rw [hg]; exact Nat.ne_of_lt (blk_lt (bkA BK177.out)) : gb177 ≠ gb183))
                                        have n11_ := Aside0.mk ((by rw [hg]; exact Nat.ne_of_gt (blk_lt (bkA BK177.out)) : gb183 ≠ gb177))
                                        have n12_ := Aside0.mk ((by rw [hg]; exact Nat.ne_of_lt (blk_lt (bkA BK178.out)) : gb178 ≠ gb183))
                                        have n13_ := Aside0.mk ((by rw [hg]; exact Nat.ne_of_gt (blk_lt (bkA BK178.out)) : gb183 ≠ gb178))
                                        have n14_ := Aside0.mk ((by rw [hg]; exact Nat.ne_of_lt (blk_lt (bkA BK184.out)) : gb184 ≠ gb183))
                                        have n15_ := Aside0.mk ((by rw [hg]; exact Nat.ne_of_gt (blk_lt (bkA BK184.out)) : gb183 ≠ gb184))
                                        clear BK176; clear BK177; clear BK178; clear BK184; clear HB; have BK176 := n0_; have BK177 := n1_; have BK178 := n2_; have BK184 := n3_; have HB := n4_; have BK183 := n5_; have GW183 := n6_; have GE183 := n7_; have NB176_183 := n8_; have NB183_176 := n9_; have NB177_183 := n10_; have NB183_177 := n11_; have NB178_183 := n12_; have NB183_178 := n13_; have NB184_183 := n14_; have NB183_184 := n15_; clear n0_ n1_ n2_ n3_ n4_ n5_ n6_ n7_ n8_ n9_ n10_ n11_ n12_ n13_ n14_ n15_; clear hb hbox hg
                                        refine hK.out _ _ ⟨(blk_cell BK176.out 0).trans rfl, (blk_cell BK176.out 1).trans rfl, (blk_cell BK177.out 0).trans rfl, (blk_cell BK177.out 1).trans rfl⟩ (fun hHeld => ?_)
                                        clear hK K
                                        refine norm_ (a' := ?_) ?_ ?_
                                        rotate_left
                                        · show Act.put _ (some 7) _ = _
                                          simp only [Act.put, List.setIfInBounds_toArray, List.set_cons_zero, List.set_cons_succ, i64_w, i32_w]
                                          rfl
                                        exact norm_ (by first | (simp only [putAll, Act.put, List.setIfInBounds_toArray, List.set_cons_zero, List.set_cons_succ]; done) | (simp only [putAll, Act.put, List.setIfInBounds_toArray, List.set_cons_zero, List.set_cons_succ]; rfl)) (hJ6_7 (gb183, gb184) _ ⟨hHeld, (bkA BK176.out), (bkA BK177.out), (bkA BK178.out), (bkA BK183.out), (bkA BK184.out), GW183.out, GE183.out, NB176_183.out, NB183_176.out, NB177_183.out, NB183_177.out, NB178_183.out, NB183_178.out, NB184_183.out, NB183_184.out, GW184.out, GE184.out, NB176_184.out, NB184_176.out, NB177_184.out, NB184_177.out, NB178_184.out, NB184_178.out, (by repeat (first | (with_reducible first | exact HB.out | apply below_alloc | apply pw_below_drewN | apply below_drew1 | refine below_set ?_ GE176.out | refine below_set ?_ GE177.out | refine below_set ?_ GE178.out | refine below_set ?_ GE184.out | refine below_set ?_ GE183.out) | exact HB.out))⟩)
                                  · skip
                                    rintro gb183 w39 ⟨hS_, h0_, h1_, h2_, h3_, h4_, h5_, h6_, h7_, h8_, h9_, h10_, h11_, h12_⟩
                                    have n0_ : Aside0 (w39.heap[gb176]? = some (.cells #[.int .u64 a0_0, .int .u64 a0_1] 24 (0, 0))) := ⟨h0_⟩
                                    have n1_ : Aside0 (w39.heap[gb177]? = some (.cells #[.int .u64 a1_0, .int .u64 a1_1] 24 (0, 0))) := ⟨h1_⟩
                                    have n2_ : Aside0 (w39.heap[gb178]? = some (.cells #[.int .u64 a2_0, .int .u64 a2_1] 24 (0, 0))) := ⟨h2_⟩
                                    have n3_ : Aside0 (w39.heap[gb183]? = some (.cells #[.int .u64 0, .int .u64 0] 24 (0, 0))) := ⟨h3_⟩
                                    have n4_ : Aside0 (w.heap.size ≤ gb183) := ⟨h4_⟩
                                    have n5_ : Aside0 (w.heap.size ≤ gb183) := ⟨h5_⟩
                                    have n6_ : Aside0 (gb176 ≠ gb183) := ⟨h6_⟩
                                    have n7_ : Aside0 (gb183 ≠ gb176) := ⟨h7_⟩
                                    have n8_ : Aside0 (gb177 ≠ gb183) := ⟨h8_⟩
                                    have n9_ : Aside0 (gb183 ≠ gb177) := ⟨h9_⟩
                                    have n10_ : Aside0 (gb178 ≠ gb183) := ⟨h10_⟩
                                    have n11_ : Aside0 (gb183 ≠ gb178) := ⟨h11_⟩
                                    have n12_ : Aside0 (Below w.heap.size w w39) := ⟨h12_⟩
                                    clear BK176; clear BK177; clear BK178; clear HB; clear h0_ h1_ h2_ h3_ h4_ h5_ h6_ h7_ h8_ h9_ h10_ h11_ h12_; have BK176 := n0_; have BK177 := n1_; have BK178 := n2_; have BK183 := n3_; have GW183 := n4_; have GE183 := n5_; have NB176_183 := n6_; have NB183_176 := n7_; have NB177_183 := n8_; have NB183_177 := n9_; have NB178_183 := n10_; have NB183_178 := n11_; have HB := n12_; clear n0_ n1_ n2_ n3_ n4_ n5_ n6_ n7_ n8_ n9_ n10_ n11_ n12_
                                    have hHeld : w39.cell? ⟨gb176, 0, none⟩ = some (.int .u64 a0_0) ∧ w39.cell? ⟨gb176, 1, none⟩ = some (.int .u64 a0_1) ∧ w39.cell? ⟨gb177, 0, none⟩ = some (.int .u64 a1_0) ∧ w39.cell? ⟨gb177, 1, none⟩ = some (.int .u64 a1_1) := hS_
                                    refine norm_ (a' := ?_) ?_ ?_
                                    rotate_left
                                    · simp only [putAll, Act.put, List.setIfInBounds_toArray, List.set_cons_zero, List.set_cons_succ]
                                      rfl
                                    refine two_ (i := 2) (j := 7) (Ni := some 11) (Nj := some 8) #[true, true, true, true, true, false, true, false, false, false] #[true, true, false, true, true, false, true, true, false, false] rfl rfl rfl rfl (two_of HT_.out (by kernel_rfl)) (by decide) (by decide) (fun K hK => ?_) (fun K hK => ?_)
                                    · skip
                                      refine goes_ Try.func27 (by kernel_rfl) rfl #[.agg #[.int .u64 a0_0, .int .u64 a0_1], .agg #[.int .u64 a1_0, .int .u64 a1_1]] (by rfl) rfl rfl (by (try simp only [List.map_toArray, List.map_cons, List.map_nil]); first | done | rfl | (simp only [List.length_drop, List.length_take]; rfl)) ?_
                                      with_reducible refine (word_Xor.calls a0_0 a0_1 a1_0 a1_1 t179 t180 _ A4.out).mono ?_
                                      rintro e w40 ⟨rfl, hb⟩
                                      refine ⟨_, rfl, ?_⟩
                                      have n0_ := Aside0.mk (blk_below (bkA BK176.out) hb); have n1_ := Aside0.mk (blk_below (bkA BK177.out) hb); have n2_ := Aside0.mk (blk_below (bkA BK178.out) hb); have n3_ := Aside0.mk (blk_below (bkA BK183.out) hb)
                                      have n4_ := Aside0.mk (below_step (by repeat (first | (with_reducible first | exact HB.out | apply below_alloc | apply pw_below_drewN | apply below_drew1 | refine below_set ?_ GE176.out | refine below_set ?_ GE177.out | refine below_set ?_ GE178.out | refine below_set ?_ GE183.out) | exact HB.out)) hb)
                                      clear BK176; clear BK177; clear BK178; clear BK183; clear HB; have BK176 := n0_; have BK177 := n1_; have BK178 := n2_; have BK183 := n3_; have HB := n4_; clear n0_ n1_ n2_ n3_ n4_; (try clear hb); (try clear hb2); (try clear hk); (try clear hi)
                                      refine hK.out _ _ ⟨(blk_cell BK176.out 0).trans rfl, (blk_cell BK176.out 1).trans rfl, (blk_cell BK177.out 0).trans rfl, (blk_cell BK177.out 1).trans rfl⟩ (fun hHeld => ?_)
                                      clear hK K
                                      refine norm_ (a' := ?_) ?_ ?_
                                      rotate_left
                                      · show Act.put _ (some 11) _ = _
                                        simp only [Act.put, List.setIfInBounds_toArray, List.set_cons_zero, List.set_cons_succ, i64_w, i32_w]
                                        rfl
                                      exact norm_ (by first | (simp only [putAll, Act.put, List.setIfInBounds_toArray, List.set_cons_zero, List.set_cons_succ]; done) | (simp only [putAll, Act.put, List.setIfInBounds_toArray, List.set_cons_zero, List.set_cons_succ]; rfl)) (hJ2_6 (gb183) _ ⟨hHeld, (bkA BK176.out), (bkA BK177.out), (bkA BK178.out), (bkA BK183.out), GW183.out, GE183.out, NB176_183.out, NB183_176.out, NB177_183.out, NB183_177.out, NB178_183.out, NB183_178.out, (by repeat (first | (with_reducible first | exact HB.out | apply below_alloc | apply pw_below_drewN | apply below_drew1 | refine below_set ?_ GE176.out | refine below_set ?_ GE177.out | refine below_set ?_ GE178.out | refine below_set ?_ GE183.out) | exact HB.out))⟩)
                                    · skip
                                      refine box_step ?hg (N := 8) ?hd (cs := #[.int .u64 0, .int .u64 0]) (t := 24) ?hr ?_; (case hd => rfl); (case hg => rfl); (case hr => first | (go_simp; done) | (go_simp; rfl))
                                      intro gb184 hg w40 hbox hb
                                      have n0_ := Aside0.mk (blk_below (bkA BK176.out) hb); have n1_ := Aside0.mk (blk_below (bkA BK177.out) hb); have n2_ := Aside0.mk (blk_below (bkA BK178.out) hb); have n3_ := Aside0.mk (blk_below (bkA BK183.out) hb)
                                      have n4_ := Aside0.mk (below_step (by repeat (first | (with_reducible first | exact HB.out | apply below_alloc | apply pw_below_drewN | apply below_drew1 | refine below_set ?_ GE176.out | refine below_set ?_ GE177.out | refine below_set ?_ GE178.out | refine below_set ?_ GE183.out) | exact HB.out)) hb)
                                      have n5_ := Aside0.mk (hbox)
                                      have n6_ := Aside0.mk ((by rw [hg]; exact (below_size (by repeat (first | (with_reducible first | exact HB.out | apply below_alloc | apply pw_below_drewN | apply below_drew1 | refine below_set ?_ GE176.out | refine below_set ?_ GE177.out | refine below_set ?_ GE178.out | refine below_set ?_ GE183.out) | exact HB.out))) : w.heap.size ≤ gb184))
                                      have n7_ := Aside0.mk ((by rw [hg]; exact (below_size (by repeat (first | (with_reducible first | exact HB.out | apply below_alloc | apply pw_below_drewN | apply below_drew1 | refine below_set ?_ GE176.out | refine below_set ?_ GE177.out | refine below_set ?_ GE178.out | refine below_set ?_ GE183.out) | exact HB.out))) : w.heap.size ≤ gb184))
                                      have n8_ := Aside0.mk ((by rw [hg]; exact Nat.ne_of_lt (blk_lt (bkA BK176.out)) : gb176 ≠ gb184))
                                      have n9_ := Aside0.mk ((by rw [hg]; exact Nat.ne_of_gt (blk_lt (bkA BK176.out)) : gb184 ≠ gb176))
                                      have n10_ := Aside0.mk ((by rw [hg]; exact Nat.ne_of_lt (blk_lt (bkA BK177.out)) : gb177 ≠ gb184))
                                      have n11_ := Aside0.mk ((by rw [hg]; exact Nat.ne_of_gt (blk_lt (bkA BK177.out)) : gb184 ≠ gb177))
                                      have n12_ := Aside0.mk ((by rw [hg]; exact Nat.ne_of_lt (blk_lt (bkA BK178.out)) : gb178 ≠ gb184))
                                      have n13_ := Aside0.mk ((by rw [hg]; exact Nat.ne_of_gt (blk_lt (bkA BK178.out)) : gb184 ≠ gb178))
                                      have n14_ := Aside0.mk ((by rw [hg]; exact Nat.ne_of_lt (blk_lt (bkA BK183.out)) : gb183 ≠ gb184))
                                      have n15_ := Aside0.mk ((by rw [hg]; exact Nat.ne_of_gt (blk_lt (bkA BK183.out)) : gb184 ≠ gb183))
                                      clear BK176; clear BK177; clear BK178; clear BK183; clear HB; have BK176 := n0_; have BK177 := n1_; have BK178 := n2_; have BK183 := n3_; have HB := n4_; have BK184 := n5_; have GW184 := n6_; have GE184 := n7_; have NB176_184 := n8_; have NB184_176 := n9_; have NB177_184 := n10_; have NB184_177 := n11_; have NB178_184 := n12_; have NB184_178 := n13_; have NB183_184 := n14_; have NB184_183 := n15_; clear n0_ n1_ n2_ n3_ n4_ n5_ n6_ n7_ n8_ n9_ n10_ n11_ n12_ n13_ n14_ n15_; clear hb hbox hg
                                      refine hK.out _ _ ⟨(blk_cell BK176.out 0).trans rfl, (blk_cell BK176.out 1).trans rfl, (blk_cell BK177.out 0).trans rfl, (blk_cell BK177.out 1).trans rfl⟩ (fun hHeld => ?_)
                                      clear hK K
                                      refine norm_ (a' := ?_) ?_ ?_
                                      rotate_left
                                      · show Act.put _ (some 8) _ = _
                                        simp only [Act.put, List.setIfInBounds_toArray, List.set_cons_zero, List.set_cons_succ, i64_w, i32_w]
                                        rfl
                                      exact norm_ (by first | (simp only [putAll, Act.put, List.setIfInBounds_toArray, List.set_cons_zero, List.set_cons_succ]; done) | (simp only [putAll, Act.put, List.setIfInBounds_toArray, List.set_cons_zero, List.set_cons_succ]; rfl)) (hJ6_7 (gb183, gb184) _ ⟨hHeld, (bkA BK176.out), (bkA BK177.out), (bkA BK178.out), (bkA BK183.out), (bkA BK184.out), GW183.out, GE183.out, NB176_183.out, NB183_176.out, NB177_183.out, NB183_177.out, NB178_183.out, NB183_178.out, NB184_183.out, NB183_184.out, GW184.out, GE184.out, NB176_184.out, NB184_176.out, NB177_184.out, NB184_177.out, NB178_184.out, NB184_178.out, (by repeat (first | (with_reducible first | exact HB.out | apply below_alloc | apply pw_below_drewN | apply below_drew1 | refine below_set ?_ GE176.out | refine below_set ?_ GE177.out | refine below_set ?_ GE178.out | refine below_set ?_ GE183.out | refine below_set ?_ GE184.out) | exact HB.out))⟩)
                                · skip
                                  rintro _ w39 ⟨hS_, h0_, h1_, h2_, h3_⟩
                                  have n0_ : Aside0 (w39.heap[gb176]? = some (.cells #[.int .u64 a0_0, .int .u64 a0_1] 24 (0, 0))) := ⟨h0_⟩
                                  have n1_ : Aside0 (w39.heap[gb177]? = some (.cells #[.int .u64 a1_0, .int .u64 a1_1] 24 (0, 0))) := ⟨h1_⟩
                                  have n2_ : Aside0 (w39.heap[gb178]? = some (.cells #[.int .u64 a2_0, .int .u64 a2_1] 24 (0, 0))) := ⟨h2_⟩
                                  have n3_ : Aside0 (Below w.heap.size w w39) := ⟨h3_⟩
                                  clear BK176; clear BK177; clear BK178; clear HB; clear h0_ h1_ h2_ h3_; have BK176 := n0_; have BK177 := n1_; have BK178 := n2_; have HB := n3_; clear n0_ n1_ n2_ n3_
                                  have hHeld : w39.cell? ⟨gb176, 0, none⟩ = some (.int .u64 a0_0) ∧ w39.cell? ⟨gb176, 1, none⟩ = some (.int .u64 a0_1) ∧ w39.cell? ⟨gb177, 0, none⟩ = some (.int .u64 a1_0) ∧ w39.cell? ⟨gb177, 1, none⟩ = some (.int .u64 a1_1) := hS_
                                  refine norm_ (a' := ?_) ?_ ?_
                                  rotate_left
                                  · simp only [putAll, Act.put, List.setIfInBounds_toArray, List.set_cons_zero, List.set_cons_succ]
                                    rfl
                                  refine three_ (i := 5) (j := 6) (k := 7) (Ni := some 14) (Nj := some 7) (Nk := some 8) #[true, true, true, true, true, true, false, false, false, false] #[true, true, true, true, true, false, true, false, false, false] #[true, true, true, true, true, false, false, true, false, false] rfl rfl rfl rfl rfl rfl (three_of HT_.out (by kernel_rfl)) (by decide) (by decide) (by decide) (fun K hK => ?_) (fun K hK => ?_) (fun K hK => ?_)
                                  · skip
                                    refine goes_ Try.func23 (by kernel_rfl) rfl #[.agg #[.int .u64 a0_0, .int .u64 a0_1], .agg #[.int .u64 a1_0, .int .u64 a1_1]] (by rfl) rfl rfl (by (try simp only [List.map_toArray, List.map_cons, List.map_nil]); first | done | rfl | (simp only [List.length_drop, List.length_take]; rfl)) ?_
                                    with_reducible refine (word_And.calls a0_0 a0_1 a1_0 a1_1 t181 t182 _ A5.out).mono ?_
                                    rintro e w40 ⟨rfl, hb⟩
                                    refine ⟨_, rfl, ?_⟩
                                    have n0_ := Aside0.mk (blk_below (bkA BK176.out) hb); have n1_ := Aside0.mk (blk_below (bkA BK177.out) hb); have n2_ := Aside0.mk (blk_below (bkA BK178.out) hb)
                                    have n3_ := Aside0.mk (below_step (by repeat (first | (with_reducible first | exact HB.out | apply below_alloc | apply pw_below_drewN | apply below_drew1 | refine below_set ?_ GE176.out | refine below_set ?_ GE177.out | refine below_set ?_ GE178.out) | exact HB.out)) hb)
                                    clear BK176; clear BK177; clear BK178; clear HB; have BK176 := n0_; have BK177 := n1_; have BK178 := n2_; have HB := n3_; clear n0_ n1_ n2_ n3_; (try clear hb); (try clear hb2); (try clear hk); (try clear hi)
                                    refine hK.out _ _ ⟨(blk_cell BK176.out 0).trans rfl, (blk_cell BK176.out 1).trans rfl, (blk_cell BK177.out 0).trans rfl, (blk_cell BK177.out 1).trans rfl⟩ (fun hHeld => ?_)
                                    clear hK K
                                    refine norm_ (a' := ?_) ?_ ?_
                                    rotate_left
                                    · show Act.put _ (some 14) _ = _
                                      simp only [Act.put, List.setIfInBounds_toArray, List.set_cons_zero, List.set_cons_succ, i64_w, i32_w]
                                      rfl
                                    exact norm_ (by first | (simp only [putAll, Act.put, List.setIfInBounds_toArray, List.set_cons_zero, List.set_cons_succ]; done) | (simp only [putAll, Act.put, List.setIfInBounds_toArray, List.set_cons_zero, List.set_cons_succ]; rfl)) (hJ2_5 () _ ⟨hHeld, (bkA BK176.out), (bkA BK177.out), (bkA BK178.out), (by repeat (first | (with_reducible first | exact HB.out | apply below_alloc | apply pw_below_drewN | apply below_drew1 | refine below_set ?_ GE176.out | refine below_set ?_ GE177.out | refine below_set ?_ GE178.out) | exact HB.out))⟩)
                                  · skip
                                    refine box_step ?hg (N := 7) ?hd (cs := #[.int .u64 0, .int .u64 0]) (t := 24) ?hr ?_; (case hd => rfl); (case hg => rfl); (case hr => first | (go_simp; done) | (go_simp; rfl))
                                    intro gb183 hg w40 hbox hb
                                    have n0_ := Aside0.mk (blk_below (bkA BK176.out) hb); have n1_ := Aside0.mk (blk_below (bkA BK177.out) hb); have n2_ := Aside0.mk (blk_below (bkA BK178.out) hb)
                                    have n3_ := Aside0.mk (below_step (by repeat (first | (with_reducible first | exact HB.out | apply below_alloc | apply pw_below_drewN | apply below_drew1 | refine below_set ?_ GE176.out | refine below_set ?_ GE177.out | refine below_set ?_ GE178.out) | exact HB.out)) hb)
                                    have n4_ := Aside0.mk (hbox)
                                    have n5_ := Aside0.mk ((by rw [hg]; exact (below_size (by repeat (first | (with_reducible first | exact HB.out | apply below_alloc | apply pw_below_drewN | apply below_drew1 | refine below_set ?_ GE176.out | refine below_set ?_ GE177.out | refine below_set ?_ GE178.out) | exact HB.out))) : w.heap.size ≤ gb183))
                                    have n6_ := Aside0.mk ((by rw [hg]; exact (below_size (by repeat (first | (with_reducible first | exact HB.out | apply below_alloc | apply pw_below_drewN | apply below_drew1 | refine below_set ?_ GE176.out | refine below_set ?_ GE177.out | refine below_set ?_ GE178.out) | exact HB.out))) : w.heap.size ≤ gb183))
                                    have n7_ := Aside0.mk ((by rw [hg]; exact Nat.ne_of_lt (blk_lt (bkA BK176.out)) : gb176 ≠ gb183))
                                    have n8_ := Aside0.mk ((by rw [hg]; exact Nat.ne_of_gt (blk_lt (bkA BK176.out)) : gb183 ≠ gb176))
                                    have n9_ := Aside0.mk ((by rw [hg]; exact Nat.ne_of_lt (blk_lt (bkA BK177.out)) : gb177 ≠ gb183))
                                    have n10_ := Aside0.mk ((by rw [hg]; exact Nat.ne_of_gt (blk_lt (bkA BK177.out)) : gb183 ≠ gb177))
                                    have n11_ := Aside0.mk ((by rw [hg]; exact Nat.ne_of_lt (blk_lt (bkA BK178.out)) : gb178 ≠ gb183))
                                    have n12_ := Aside0.mk ((by rw [hg]; exact Nat.ne_of_gt (blk_lt (bkA BK178.out)) : gb183 ≠ gb178))
                                    clear BK176; clear BK177; clear BK178; clear HB; have BK176 := n0_; have BK177 := n1_; have BK178 := n2_; have HB := n3_; have BK183 := n4_; have GW183 := n5_; have GE183 := n6_; have NB176_183 := n7_; have NB183_176 := n8_; have NB177_183 := n9_; have NB183_177 := n10_; have NB178_183 := n11_; have NB183_178 := n12_; clear n0_ n1_ n2_ n3_ n4_ n5_ n6_ n7_ n8_ n9_ n10_ n11_ n12_; clear hb hbox hg
                                    refine hK.out _ _ ⟨(blk_cell BK176.out 0).trans rfl, (blk_cell BK176.out 1).trans rfl, (blk_cell BK177.out 0).trans rfl, (blk_cell BK177.out 1).trans rfl⟩ (fun hHeld => ?_)
                                    clear hK K
                                    refine norm_ (a' := ?_) ?_ ?_
                                    rotate_left
                                    · show Act.put _ (some 7) _ = _
                                      simp only [Act.put, List.setIfInBounds_toArray, List.set_cons_zero, List.set_cons_succ, i64_w, i32_w]
                                      rfl
                                    exact norm_ (by first | (simp only [putAll, Act.put, List.setIfInBounds_toArray, List.set_cons_zero, List.set_cons_succ]; done) | (simp only [putAll, Act.put, List.setIfInBounds_toArray, List.set_cons_zero, List.set_cons_succ]; rfl)) (hJ2_6 (gb183) _ ⟨hHeld, (bkA BK176.out), (bkA BK177.out), (bkA BK178.out), (bkA BK183.out), GW183.out, GE183.out, NB176_183.out, NB183_176.out, NB177_183.out, NB183_177.out, NB178_183.out, NB183_178.out, (by repeat (first | (with_reducible first | exact HB.out | apply below_alloc | apply pw_below_drewN | apply below_drew1 | refine below_set ?_ GE176.out | refine below_set ?_ GE177.out | refine below_set ?_ GE178.out | refine below_set ?_ GE183.out) | exact HB.out))⟩)
                                  · skip
                                    refine box_step ?hg (N := 8) ?hd (cs := #[.int .u64 0, .int .u64 0]) (t := 24) ?hr ?_; (case hd => rfl); (case hg => rfl); (case hr => first | (go_simp; done) | (go_simp; rfl))
                                    intro gb184 hg w40 hbox hb
                                    have n0_ := Aside0.mk (blk_below (bkA BK176.out) hb); have n1_ := Aside0.mk (blk_below (bkA BK177.out) hb); have n2_ := Aside0.mk (blk_below (bkA BK178.out) hb)
                                    have n3_ := Aside0.mk (below_step (by repeat (first | (with_reducible first | exact HB.out | apply below_alloc | apply pw_below_drewN | apply below_drew1 | refine below_set ?_ GE176.out | refine below_set ?_ GE177.out | refine below_set ?_ GE178.out) | exact HB.out)) hb)
                                    have n4_ := Aside0.mk (hbox)
                                    have n5_ := Aside0.mk ((by rw [hg]; exact (below_size (by repeat (first | (with_reducible first | exact HB.out | apply below_alloc | apply pw_below_drewN | apply below_drew1 | refine below_set ?_ GE176.out | refine below_set ?_ GE177.out | refine below_set ?_ GE178.out) | exact HB.out))) : w.heap.size ≤ gb184))
                                    have n6_ := Aside0.mk ((by rw [hg]; exact (below_size (by repeat (first | (with_reducible first | exact HB.out | apply below_alloc | apply pw_below_drewN | apply below_drew1 | refine below_set ?_ GE176.out | refine below_set ?_ GE177.out | refine below_set ?_ GE178.out) | exact HB.out))) : w.heap.size ≤ gb184))
                                    have n7_ := Aside0.mk ((by rw [hg]; exact Nat.ne_of_lt (blk_lt (bkA BK176.out)) : gb176 ≠ gb184))
                                    have n8_ := Aside0.mk ((by rw [hg]; exact Nat.ne_of_gt (blk_lt (bkA BK176.out)) : gb184 ≠ gb176))
                                    have n9_ := Aside0.mk ((by rw [hg]; exact Nat.ne_of_lt (blk_lt (bkA BK177.out)) : gb177 ≠ gb184))
                                    have n10_ := Aside0.mk ((by rw [hg]; exact Nat.ne_of_gt (blk_lt (bkA BK177.out)) : gb184 ≠ gb177))
                                    have n11_ := Aside0.mk ((by rw [hg]; exact Nat.ne_of_lt (blk_lt (bkA BK178.out)) : gb178 ≠ gb184))
                                    have n12_ := Aside0.mk ((by rw [hg]; exact Nat.ne_of_gt (blk_lt (bkA BK178.out)) : gb184 ≠ gb178))
                                    clear BK176; clear BK177; clear BK178; clear HB; have BK176 := n0_; have BK177 := n1_; have BK178 := n2_; have HB := n3_; have BK184 := n4_; have GW184 := n5_; have GE184 := n6_; have NB176_184 := n7_; have NB184_176 := n8_; have NB177_184 := n9_; have NB184_177 := n10_; have NB178_184 := n11_; have NB184_178 := n12_; clear n0_ n1_ n2_ n3_ n4_ n5_ n6_ n7_ n8_ n9_ n10_ n11_ n12_; clear hb hbox hg
                                    refine hK.out _ _ ⟨(blk_cell BK176.out 0).trans rfl, (blk_cell BK176.out 1).trans rfl, (blk_cell BK177.out 0).trans rfl, (blk_cell BK177.out 1).trans rfl⟩ (fun hHeld => ?_)
                                    clear hK K
                                    refine norm_ (a' := ?_) ?_ ?_
                                    rotate_left
                                    · show Act.put _ (some 8) _ = _
                                      simp only [Act.put, List.setIfInBounds_toArray, List.set_cons_zero, List.set_cons_succ, i64_w, i32_w]
                                      rfl
                                    exact norm_ (by first | (simp only [putAll, Act.put, List.setIfInBounds_toArray, List.set_cons_zero, List.set_cons_succ]; done) | (simp only [putAll, Act.put, List.setIfInBounds_toArray, List.set_cons_zero, List.set_cons_succ]; rfl)) (hJ2_7 (gb184) _ ⟨hHeld, (bkA BK176.out), (bkA BK177.out), (bkA BK178.out), (bkA BK184.out), GW184.out, GE184.out, NB176_184.out, NB184_176.out, NB177_184.out, NB184_177.out, NB178_184.out, NB184_178.out, (by repeat (first | (with_reducible first | exact HB.out | apply below_alloc | apply pw_below_drewN | apply below_drew1 | refine below_set ?_ GE176.out | refine below_set ?_ GE177.out | refine below_set ?_ GE178.out | refine below_set ?_ GE184.out) | exact HB.out))⟩)
                              · skip
                                rintro ⟨gb183, gb184⟩ w40 ⟨hS_, h0_, h1_, h2_, h3_, h4_, h5_, h6_, h7_, h8_, h9_, h10_, h11_, h12_, h13_, h14_, h15_, h16_, h17_, h18_, h19_, h20_, h21_, h22_, h23_⟩
                                have n0_ : Aside0 (w40.heap[gb176]? = some (.cells #[.int .u64 a0_0, .int .u64 a0_1] 24 (0, 0))) := ⟨h0_⟩
                                have n1_ : Aside0 (w40.heap[gb177]? = some (.cells #[.int .u64 a1_0, .int .u64 a1_1] 24 (0, 0))) := ⟨h1_⟩
                                have n2_ : Aside0 (w40.heap[gb178]? = some (.cells #[.int .u64 a2_0, .int .u64 a2_1] 24 (0, 0))) := ⟨h2_⟩
                                have n3_ : Aside0 (w40.heap[gb183]? = some (.cells #[.int .u64 0, .int .u64 0] 24 (0, 0))) := ⟨h3_⟩
                                have n4_ : Aside0 (w40.heap[gb184]? = some (.cells #[.int .u64 0, .int .u64 0] 24 (0, 0))) := ⟨h4_⟩
                                have n5_ : Aside0 (w.heap.size ≤ gb183) := ⟨h5_⟩
                                have n6_ : Aside0 (w.heap.size ≤ gb183) := ⟨h6_⟩
                                have n7_ : Aside0 (gb176 ≠ gb183) := ⟨h7_⟩
                                have n8_ : Aside0 (gb183 ≠ gb176) := ⟨h8_⟩
                                have n9_ : Aside0 (gb177 ≠ gb183) := ⟨h9_⟩
                                have n10_ : Aside0 (gb183 ≠ gb177) := ⟨h10_⟩
                                have n11_ : Aside0 (gb178 ≠ gb183) := ⟨h11_⟩
                                have n12_ : Aside0 (gb183 ≠ gb178) := ⟨h12_⟩
                                have n13_ : Aside0 (gb184 ≠ gb183) := ⟨h13_⟩
                                have n14_ : Aside0 (gb183 ≠ gb184) := ⟨h14_⟩
                                have n15_ : Aside0 (w.heap.size ≤ gb184) := ⟨h15_⟩
                                have n16_ : Aside0 (w.heap.size ≤ gb184) := ⟨h16_⟩
                                have n17_ : Aside0 (gb176 ≠ gb184) := ⟨h17_⟩
                                have n18_ : Aside0 (gb184 ≠ gb176) := ⟨h18_⟩
                                have n19_ : Aside0 (gb177 ≠ gb184) := ⟨h19_⟩
                                have n20_ : Aside0 (gb184 ≠ gb177) := ⟨h20_⟩
                                have n21_ : Aside0 (gb178 ≠ gb184) := ⟨h21_⟩
                                have n22_ : Aside0 (gb184 ≠ gb178) := ⟨h22_⟩
                                have n23_ : Aside0 (Below w.heap.size w w40) := ⟨h23_⟩
                                clear BK176; clear BK177; clear BK178; clear HB; clear h0_ h1_ h2_ h3_ h4_ h5_ h6_ h7_ h8_ h9_ h10_ h11_ h12_ h13_ h14_ h15_ h16_ h17_ h18_ h19_ h20_ h21_ h22_ h23_; have BK176 := n0_; have BK177 := n1_; have BK178 := n2_; have BK183 := n3_; have BK184 := n4_; have GW183 := n5_; have GE183 := n6_; have NB176_183 := n7_; have NB183_176 := n8_; have NB177_183 := n9_; have NB183_177 := n10_; have NB178_183 := n11_; have NB183_178 := n12_; have NB184_183 := n13_; have NB183_184 := n14_; have GW184 := n15_; have GE184 := n16_; have NB176_184 := n17_; have NB184_176 := n18_; have NB177_184 := n19_; have NB184_177 := n20_; have NB178_184 := n21_; have NB184_178 := n22_; have HB := n23_; clear n0_ n1_ n2_ n3_ n4_ n5_ n6_ n7_ n8_ n9_ n10_ n11_ n12_ n13_ n14_ n15_ n16_ n17_ n18_ n19_ n20_ n21_ n22_ n23_
                                have hHeld : w40.cell? ⟨gb176, 0, none⟩ = some (.int .u64 a0_0) ∧ w40.cell? ⟨gb176, 1, none⟩ = some (.int .u64 a0_1) ∧ w40.cell? ⟨gb177, 0, none⟩ = some (.int .u64 a1_0) ∧ w40.cell? ⟨gb177, 1, none⟩ = some (.int .u64 a1_1) := hS_
                                refine norm_ (a' := ?_) ?_ ?_
                                rotate_left
                                · simp only [putAll, Act.put, List.setIfInBounds_toArray, List.set_cons_zero, List.set_cons_succ]
                                  rfl
                                refine one_ (i := 2) (N := some 11) #[true, true, true, true, true, false, true, true, false, false] rfl rfl (one_of HT_.out (by kernel_rfl)) (by decide) (fun K hK => ?_)
                                refine goes_ Try.func27 (by kernel_rfl) rfl #[.agg #[.int .u64 a0_0, .int .u64 a0_1], .agg #[.int .u64 a1_0, .int .u64 a1_1]] (by rfl) rfl rfl (by (try simp only [List.map_toArray, List.map_cons, List.map_nil]); first | done | rfl | (simp only [List.length_drop, List.length_take]; rfl)) ?_
                                with_reducible refine (word_Xor.calls a0_0 a0_1 a1_0 a1_1 t179 t180 _ A4.out).mono ?_
                                rintro e w41 ⟨rfl, hb⟩
                                refine ⟨_, rfl, ?_⟩
                                have n0_ := Aside0.mk (blk_below (bkA BK176.out) hb); have n1_ := Aside0.mk (blk_below (bkA BK177.out) hb); have n2_ := Aside0.mk (blk_below (bkA BK178.out) hb); have n3_ := Aside0.mk (blk_below (bkA BK183.out) hb); have n4_ := Aside0.mk (blk_below (bkA BK184.out) hb)
                                have n5_ := Aside0.mk (below_step (by repeat (first | (with_reducible first | exact HB.out | apply below_alloc | apply pw_below_drewN | apply below_drew1 | refine below_set ?_ GE176.out | refine below_set ?_ GE177.out | refine below_set ?_ GE178.out | refine below_set ?_ GE183.out | refine below_set ?_ GE184.out) | exact HB.out)) hb)
                                clear BK176; clear BK177; clear BK178; clear BK183; clear BK184; clear HB; have BK176 := n0_; have BK177 := n1_; have BK178 := n2_; have BK183 := n3_; have BK184 := n4_; have HB := n5_; clear n0_ n1_ n2_ n3_ n4_ n5_; (try clear hb); (try clear hb2); (try clear hk); (try clear hi)
                                refine hK.out _ _ ⟨(blk_cell BK176.out 0).trans rfl, (blk_cell BK176.out 1).trans rfl, (blk_cell BK177.out 0).trans rfl, (blk_cell BK177.out 1).trans rfl⟩ (fun hHeld => ?_)
                                clear hK K
                                refine norm_ (a' := ?_) ?_ ?_
                                rotate_left
                                · show Act.put _ (some 11) _ = _
                                  simp only [Act.put, List.setIfInBounds_toArray, List.set_cons_zero, List.set_cons_succ, i64_w, i32_w]
                                  rfl
                                exact norm_ (by first | (simp only [putAll, Act.put, List.setIfInBounds_toArray, List.set_cons_zero, List.set_cons_succ]; done) | (simp only [putAll, Act.put, List.setIfInBounds_toArray, List.set_cons_zero, List.set_cons_succ]; rfl)) (hJ2_6_7 (gb183, gb184) _ ⟨hHeld, (bkA BK176.out), (bkA BK177.out), (bkA BK178.out), (bkA BK183.out), (bkA BK184.out), GW183.out, GE183.out, NB176_183.out, NB183_176.out, NB177_183.out, NB183_177.out, NB178_183.out, NB183_178.out, NB184_183.out, NB183_184.out, GW184.out, GE184.out, NB176_184.out, NB184_176.out, NB177_184.out, NB184_177.out, NB178_184.out, NB184_178.out, (by repeat (first | (with_reducible first | exact HB.out | apply below_alloc | apply pw_below_drewN | apply below_drew1 | refine below_set ?_ GE176.out | refine below_set ?_ GE177.out | refine below_set ?_ GE178.out | refine below_set ?_ GE183.out | refine below_set ?_ GE184.out) | exact HB.out))⟩)
                            · skip
                              rintro gb184 w40 ⟨hS_, h0_, h1_, h2_, h3_, h4_, h5_, h6_, h7_, h8_, h9_, h10_, h11_, h12_⟩
                              have n0_ : Aside0 (w40.heap[gb176]? = some (.cells #[.int .u64 a0_0, .int .u64 a0_1] 24 (0, 0))) := ⟨h0_⟩
                              have n1_ : Aside0 (w40.heap[gb177]? = some (.cells #[.int .u64 a1_0, .int .u64 a1_1] 24 (0, 0))) := ⟨h1_⟩
                              have n2_ : Aside0 (w40.heap[gb178]? = some (.cells #[.int .u64 a2_0, .int .u64 a2_1] 24 (0, 0))) := ⟨h2_⟩
                              have n3_ : Aside0 (w40.heap[gb184]? = some (.cells #[.int .u64 0, .int .u64 0] 24 (0, 0))) := ⟨h3_⟩
                              have n4_ : Aside0 (w.heap.size ≤ gb184) := ⟨h4_⟩
                              have n5_ : Aside0 (w.heap.size ≤ gb184) := ⟨h5_⟩
                              have n6_ : Aside0 (gb176 ≠ gb184) := ⟨h6_⟩
                              have n7_ : Aside0 (gb184 ≠ gb176) := ⟨h7_⟩
                              have n8_ : Aside0 (gb177 ≠ gb184) := ⟨h8_⟩
                              have n9_ : Aside0 (gb184 ≠ gb177) := ⟨h9_⟩
                              have n10_ : Aside0 (gb178 ≠ gb184) := ⟨h10_⟩
                              have n11_ : Aside0 (gb184 ≠ gb178) := ⟨h11_⟩
                              have n12_ : Aside0 (Below w.heap.size w w40) := ⟨h12_⟩
                              clear BK176; clear BK177; clear BK178; clear HB; clear h0_ h1_ h2_ h3_ h4_ h5_ h6_ h7_ h8_ h9_ h10_ h11_ h12_; have BK176 := n0_; have BK177 := n1_; have BK178 := n2_; have BK184 := n3_; have GW184 := n4_; have GE184 := n5_; have NB176_184 := n6_; have NB184_176 := n7_; have NB177_184 := n8_; have NB184_177 := n9_; have NB178_184 := n10_; have NB184_178 := n11_; have HB := n12_; clear n0_ n1_ n2_ n3_ n4_ n5_ n6_ n7_ n8_ n9_ n10_ n11_ n12_
                              have hHeld : w40.cell? ⟨gb176, 0, none⟩ = some (.int .u64 a0_0) ∧ w40.cell? ⟨gb176, 1, none⟩ = some (.int .u64 a0_1) ∧ w40.cell? ⟨gb177, 0, none⟩ = some (.int .u64 a1_0) ∧ w40.cell? ⟨gb177, 1, none⟩ = some (.int .u64 a1_1) := hS_
                              refine norm_ (a' := ?_) ?_ ?_
                              rotate_left
                              · simp only [putAll, Act.put, List.setIfInBounds_toArray, List.set_cons_zero, List.set_cons_succ]
                                rfl
                              refine two_ (i := 5) (j := 6) (Ni := some 14) (Nj := some 7) #[true, true, true, true, true, true, false, true, false, false] #[true, true, true, true, true, false, true, true, false, false] rfl rfl rfl rfl (two_of HT_.out (by kernel_rfl)) (by decide) (by decide) (fun K hK => ?_) (fun K hK => ?_)
                              · skip
                                refine goes_ Try.func23 (by kernel_rfl) rfl #[.agg #[.int .u64 a0_0, .int .u64 a0_1], .agg #[.int .u64 a1_0, .int .u64 a1_1]] (by rfl) rfl rfl (by (try simp only [List.map_toArray, List.map_cons, List.map_nil]); first | done | rfl | (simp only [List.length_drop, List.length_take]; rfl)) ?_
                                with_reducible refine (word_And.calls a0_0 a0_1 a1_0 a1_1 t181 t182 _ A5.out).mono ?_
                                rintro e w41 ⟨rfl, hb⟩
                                refine ⟨_, rfl, ?_⟩
                                have n0_ := Aside0.mk (blk_below (bkA BK176.out) hb); have n1_ := Aside0.mk (blk_below (bkA BK177.out) hb); have n2_ := Aside0.mk (blk_below (bkA BK178.out) hb); have n3_ := Aside0.mk (blk_below (bkA BK184.out) hb)
                                have n4_ := Aside0.mk (below_step (by repeat (first | (with_reducible first | exact HB.out | apply below_alloc | apply pw_below_drewN | apply below_drew1 | refine below_set ?_ GE176.out | refine below_set ?_ GE177.out | refine below_set ?_ GE178.out | refine below_set ?_ GE184.out) | exact HB.out)) hb)
                                clear BK176; clear BK177; clear BK178; clear BK184; clear HB; have BK176 := n0_; have BK177 := n1_; have BK178 := n2_; have BK184 := n3_; have HB := n4_; clear n0_ n1_ n2_ n3_ n4_; (try clear hb); (try clear hb2); (try clear hk); (try clear hi)
                                refine hK.out _ _ ⟨(blk_cell BK176.out 0).trans rfl, (blk_cell BK176.out 1).trans rfl, (blk_cell BK177.out 0).trans rfl, (blk_cell BK177.out 1).trans rfl⟩ (fun hHeld => ?_)
                                clear hK K
                                refine norm_ (a' := ?_) ?_ ?_
                                rotate_left
                                · show Act.put _ (some 14) _ = _
                                  simp only [Act.put, List.setIfInBounds_toArray, List.set_cons_zero, List.set_cons_succ, i64_w, i32_w]
                                  rfl
                                exact norm_ (by first | (simp only [putAll, Act.put, List.setIfInBounds_toArray, List.set_cons_zero, List.set_cons_succ]; done) | (simp only [putAll, Act.put, List.setIfInBounds_toArray, List.set_cons_zero, List.set_cons_succ]; rfl)) (hJ2_5_7 (gb184) _ ⟨hHeld, (bkA BK176.out), (bkA BK177.out), (bkA BK178.out), (bkA BK184.out), GW184.out, GE184.out, NB176_184.out, NB184_176.out, NB177_184.out, NB184_177.out, NB178_184.out, NB184_178.out, (by repeat (first | (with_reducible first | exact HB.out | apply below_alloc | apply pw_below_drewN | apply below_drew1 | refine below_set ?_ GE176.out | refine below_set ?_ GE177.out | refine below_set ?_ GE178.out | refine below_set ?_ GE184.out) | exact HB.out))⟩)
                              · skip
                                refine box_step ?hg (N := 7) ?hd (cs := #[.int .u64 0, .int .u64 0]) (t := 24) ?hr ?_; (case hd => rfl); (case hg => rfl); (case hr => first | (go_simp; done) | (go_simp; rfl))
                                intro gb183 hg w41 hbox hb
                                have n0_ := Aside0.mk (blk_below (bkA BK176.out) hb); have n1_ := Aside0.mk (blk_below (bkA BK177.out) hb); have n2_ := Aside0.mk (blk_below (bkA BK178.out) hb); have n3_ := Aside0.mk (blk_below (bkA BK184.out) hb)
                                have n4_ := Aside0.mk (below_step (by repeat (first | (with_reducible first | exact HB.out | apply below_alloc | apply pw_below_drewN | apply below_drew1 | refine below_set ?_ GE176.out | refine below_set ?_ GE177.out | refine below_set ?_ GE178.out | refine below_set ?_ GE184.out) | exact HB.out)) hb)
                                have n5_ := Aside0.mk (hbox)
                                have n6_ := Aside0.mk ((by rw [hg]; exact (below_size (by repeat (first | (with_reducible first | exact HB.out | apply below_alloc | apply pw_below_drewN | apply below_drew1 | refine below_set ?_ GE176.out | refine below_set ?_ GE177.out | refine below_set ?_ GE178.out | refine below_set ?_ GE184.out) | exact HB.out))) : w.heap.size ≤ gb183))
                                have n7_ := Aside0.mk ((by rw [hg]; exact (below_size (by repeat (first | (with_reducible first | exact HB.out | apply below_alloc | apply pw_below_drewN | apply below_drew1 | refine below_set ?_ GE176.out | refine below_set ?_ GE177.out | refine below_set ?_ GE178.out | refine below_set ?_ GE184.out) | exact HB.out))) : w.heap.size ≤ gb183))
                                have n8_ := Aside0.mk ((by rw [hg]; exact Nat.ne_of_lt (blk_lt (bkA BK176.out)) : gb176 ≠ gb183))
                                have n9_ := Aside0.mk ((by rw [hg]; exact Nat.ne_of_gt (blk_lt (bkA BK176.out)) : gb183 ≠ gb176))
                                have n10_ := Aside0.mk ((by rw [hg]; exact Nat.ne_of_lt (blk_lt (bkA BK177.out)) : gb177 ≠ gb183))
                                have n11_ := Aside0.mk ((by rw [hg]; exact Nat.ne_of_gt (blk_lt (bkA BK177.out)) : gb183 ≠ gb177))
                                have n12_ := Aside0.mk ((by rw [hg]; exact Nat.ne_of_lt (blk_lt (bkA BK178.out)) : gb178 ≠ gb183))
                                have n13_ := Aside0.mk ((by rw [hg]; exact Nat.ne_of_gt (blk_lt (bkA BK178.out)) : gb183 ≠ gb178))
                                have n14_ := Aside0.mk ((by rw [hg]; exact Nat.ne_of_lt (blk_lt (bkA BK184.out)) : gb184 ≠ gb183))
                                have n15_ := Aside0.mk ((by rw [hg]; exact Nat.ne_of_gt (blk_lt (bkA BK184.out)) : gb183 ≠ gb184))
                                clear BK176; clear BK177; clear BK178; clear BK184; clear HB; have BK176 := n0_; have BK177 := n1_; have BK178 := n2_; have BK184 := n3_; have HB := n4_; have BK183 := n5_; have GW183 := n6_; have GE183 := n7_; have NB176_183 := n8_; have NB183_176 := n9_; have NB177_183 := n10_; have NB183_177 := n11_; have NB178_183 := n12_; have NB183_178 := n13_; have NB184_183 := n14_; have NB183_184 := n15_; clear n0_ n1_ n2_ n3_ n4_ n5_ n6_ n7_ n8_ n9_ n10_ n11_ n12_ n13_ n14_ n15_; clear hb hbox hg
                                refine hK.out _ _ ⟨(blk_cell BK176.out 0).trans rfl, (blk_cell BK176.out 1).trans rfl, (blk_cell BK177.out 0).trans rfl, (blk_cell BK177.out 1).trans rfl⟩ (fun hHeld => ?_)
                                clear hK K
                                refine norm_ (a' := ?_) ?_ ?_
                                rotate_left
                                · show Act.put _ (some 7) _ = _
                                  simp only [Act.put, List.setIfInBounds_toArray, List.set_cons_zero, List.set_cons_succ, i64_w, i32_w]
                                  rfl
                                exact norm_ (by first | (simp only [putAll, Act.put, List.setIfInBounds_toArray, List.set_cons_zero, List.set_cons_succ]; done) | (simp only [putAll, Act.put, List.setIfInBounds_toArray, List.set_cons_zero, List.set_cons_succ]; rfl)) (hJ2_6_7 (gb183, gb184) _ ⟨hHeld, (bkA BK176.out), (bkA BK177.out), (bkA BK178.out), (bkA BK183.out), (bkA BK184.out), GW183.out, GE183.out, NB176_183.out, NB183_176.out, NB177_183.out, NB183_177.out, NB178_183.out, NB183_178.out, NB184_183.out, NB183_184.out, GW184.out, GE184.out, NB176_184.out, NB184_176.out, NB177_184.out, NB184_177.out, NB178_184.out, NB184_178.out, (by repeat (first | (with_reducible first | exact HB.out | apply below_alloc | apply pw_below_drewN | apply below_drew1 | refine below_set ?_ GE176.out | refine below_set ?_ GE177.out | refine below_set ?_ GE178.out | refine below_set ?_ GE184.out | refine below_set ?_ GE183.out) | exact HB.out))⟩)
                          · skip
                            rintro gb183 w40 ⟨hS_, h0_, h1_, h2_, h3_, h4_, h5_, h6_, h7_, h8_, h9_, h10_, h11_, h12_⟩
                            have n0_ : Aside0 (w40.heap[gb176]? = some (.cells #[.int .u64 a0_0, .int .u64 a0_1] 24 (0, 0))) := ⟨h0_⟩
                            have n1_ : Aside0 (w40.heap[gb177]? = some (.cells #[.int .u64 a1_0, .int .u64 a1_1] 24 (0, 0))) := ⟨h1_⟩
                            have n2_ : Aside0 (w40.heap[gb178]? = some (.cells #[.int .u64 a2_0, .int .u64 a2_1] 24 (0, 0))) := ⟨h2_⟩
                            have n3_ : Aside0 (w40.heap[gb183]? = some (.cells #[.int .u64 0, .int .u64 0] 24 (0, 0))) := ⟨h3_⟩
                            have n4_ : Aside0 (w.heap.size ≤ gb183) := ⟨h4_⟩
                            have n5_ : Aside0 (w.heap.size ≤ gb183) := ⟨h5_⟩
                            have n6_ : Aside0 (gb176 ≠ gb183) := ⟨h6_⟩
                            have n7_ : Aside0 (gb183 ≠ gb176) := ⟨h7_⟩
                            have n8_ : Aside0 (gb177 ≠ gb183) := ⟨h8_⟩
                            have n9_ : Aside0 (gb183 ≠ gb177) := ⟨h9_⟩
                            have n10_ : Aside0 (gb178 ≠ gb183) := ⟨h10_⟩
                            have n11_ : Aside0 (gb183 ≠ gb178) := ⟨h11_⟩
                            have n12_ : Aside0 (Below w.heap.size w w40) := ⟨h12_⟩
                            clear BK176; clear BK177; clear BK178; clear HB; clear h0_ h1_ h2_ h3_ h4_ h5_ h6_ h7_ h8_ h9_ h10_ h11_ h12_; have BK176 := n0_; have BK177 := n1_; have BK178 := n2_; have BK183 := n3_; have GW183 := n4_; have GE183 := n5_; have NB176_183 := n6_; have NB183_176 := n7_; have NB177_183 := n8_; have NB183_177 := n9_; have NB178_183 := n10_; have NB183_178 := n11_; have HB := n12_; clear n0_ n1_ n2_ n3_ n4_ n5_ n6_ n7_ n8_ n9_ n10_ n11_ n12_
                            have hHeld : w40.cell? ⟨gb176, 0, none⟩ = some (.int .u64 a0_0) ∧ w40.cell? ⟨gb176, 1, none⟩ = some (.int .u64 a0_1) ∧ w40.cell? ⟨gb177, 0, none⟩ = some (.int .u64 a1_0) ∧ w40.cell? ⟨gb177, 1, none⟩ = some (.int .u64 a1_1) := hS_
                            refine norm_ (a' := ?_) ?_ ?_
                            rotate_left
                            · simp only [putAll, Act.put, List.setIfInBounds_toArray, List.set_cons_zero, List.set_cons_succ]
                              rfl
                            refine two_ (i := 5) (j := 7) (Ni := some 14) (Nj := some 8) #[true, true, true, true, true, true, true, false, false, false] #[true, true, true, true, true, false, true, true, false, false] rfl rfl rfl rfl (two_of HT_.out (by kernel_rfl)) (by decide) (by decide) (fun K hK => ?_) (fun K hK => ?_)
                            · skip
                              refine goes_ Try.func23 (by kernel_rfl) rfl #[.agg #[.int .u64 a0_0, .int .u64 a0_1], .agg #[.int .u64 a1_0, .int .u64 a1_1]] (by rfl) rfl rfl (by (try simp only [List.map_toArray, List.map_cons, List.map_nil]); first | done | rfl | (simp only [List.length_drop, List.length_take]; rfl)) ?_
                              with_reducible refine (word_And.calls a0_0 a0_1 a1_0 a1_1 t181 t182 _ A5.out).mono ?_
                              rintro e w41 ⟨rfl, hb⟩
                              refine ⟨_, rfl, ?_⟩
                              have n0_ := Aside0.mk (blk_below (bkA BK176.out) hb); have n1_ := Aside0.mk (blk_below (bkA BK177.out) hb); have n2_ := Aside0.mk (blk_below (bkA BK178.out) hb); have n3_ := Aside0.mk (blk_below (bkA BK183.out) hb)
                              have n4_ := Aside0.mk (below_step (by repeat (first | (with_reducible first | exact HB.out | apply below_alloc | apply pw_below_drewN | apply below_drew1 | refine below_set ?_ GE176.out | refine below_set ?_ GE177.out | refine below_set ?_ GE178.out | refine below_set ?_ GE183.out) | exact HB.out)) hb)
                              clear BK176; clear BK177; clear BK178; clear BK183; clear HB; have BK176 := n0_; have BK177 := n1_; have BK178 := n2_; have BK183 := n3_; have HB := n4_; clear n0_ n1_ n2_ n3_ n4_; (try clear hb); (try clear hb2); (try clear hk); (try clear hi)
                              refine hK.out _ _ ⟨(blk_cell BK176.out 0).trans rfl, (blk_cell BK176.out 1).trans rfl, (blk_cell BK177.out 0).trans rfl, (blk_cell BK177.out 1).trans rfl⟩ (fun hHeld => ?_)
                              clear hK K
                              refine norm_ (a' := ?_) ?_ ?_
                              rotate_left
                              · show Act.put _ (some 14) _ = _
                                simp only [Act.put, List.setIfInBounds_toArray, List.set_cons_zero, List.set_cons_succ, i64_w, i32_w]
                                rfl
                              exact norm_ (by first | (simp only [putAll, Act.put, List.setIfInBounds_toArray, List.set_cons_zero, List.set_cons_succ]; done) | (simp only [putAll, Act.put, List.setIfInBounds_toArray, List.set_cons_zero, List.set_cons_succ]; rfl)) (hJ2_5_6 (gb183) _ ⟨hHeld, (bkA BK176.out), (bkA BK177.out), (bkA BK178.out), (bkA BK183.out), GW183.out, GE183.out, NB176_183.out, NB183_176.out, NB177_183.out, NB183_177.out, NB178_183.out, NB183_178.out, (by repeat (first | (with_reducible first | exact HB.out | apply below_alloc | apply pw_below_drewN | apply below_drew1 | refine below_set ?_ GE176.out | refine below_set ?_ GE177.out | refine below_set ?_ GE178.out | refine below_set ?_ GE183.out) | exact HB.out))⟩)
                            · skip
                              refine box_step ?hg (N := 8) ?hd (cs := #[.int .u64 0, .int .u64 0]) (t := 24) ?hr ?_; (case hd => rfl); (case hg => rfl); (case hr => first | (go_simp; done) | (go_simp; rfl))
                              intro gb184 hg w41 hbox hb
                              have n0_ := Aside0.mk (blk_below (bkA BK176.out) hb); have n1_ := Aside0.mk (blk_below (bkA BK177.out) hb); have n2_ := Aside0.mk (blk_below (bkA BK178.out) hb); have n3_ := Aside0.mk (blk_below (bkA BK183.out) hb)
                              have n4_ := Aside0.mk (below_step (by repeat (first | (with_reducible first | exact HB.out | apply below_alloc | apply pw_below_drewN | apply below_drew1 | refine below_set ?_ GE176.out | refine below_set ?_ GE177.out | refine below_set ?_ GE178.out | refine below_set ?_ GE183.out) | exact HB.out)) hb)
                              have n5_ := Aside0.mk (hbox)
                              have n6_ := Aside0.mk ((by rw [hg]; exact (below_size (by repeat (first | (with_reducible first | exact HB.out | apply below_alloc | apply pw_below_drewN | apply below_drew1 | refine below_set ?_ GE176.out | refine below_set ?_ GE177.out | refine below_set ?_ GE178.out | refine below_set ?_ GE183.out) | exact HB.out))) : w.heap.size ≤ gb184))
                              have n7_ := Aside0.mk ((by rw [hg]; exact (below_size (by repeat (first | (with_reducible first | exact HB.out | apply below_alloc | apply pw_below_drewN | apply below_drew1 | refine below_set ?_ GE176.out | refine below_set ?_ GE177.out | refine below_set ?_ GE178.out | refine below_set ?_ GE183.out) | exact HB.out))) : w.heap.size ≤ gb184))
                              have n8_ := Aside0.mk ((by rw [hg]; exact Nat.ne_of_lt (blk_lt (bkA BK176.out)) : gb176 ≠ gb184))
                              have n9_ := Aside0.mk ((by rw [hg]; exact Nat.ne_of_gt (blk_lt (bkA BK176.out)) : gb184 ≠ gb176))
                              have n10_ := Aside0.mk ((by rw [hg]; exact Nat.ne_of_lt (blk_lt (bkA BK177.out)) : gb177 ≠ gb184))
                              have n11_ := Aside0.mk ((by rw [hg]; exact Nat.ne_of_gt (blk_lt (bkA BK177.out)) : gb184 ≠ gb177))
                              have n12_ := Aside0.mk ((by rw [hg]; exact Nat.ne_of_lt (blk_lt (bkA BK178.out)) : gb178 ≠ gb184))
                              have n13_ := Aside0.mk ((by rw [hg]; exact Nat.ne_of_gt (blk_lt (bkA BK178.out)) : gb184 ≠ gb178))
                              have n14_ := Aside0.mk ((by rw [hg]; exact Nat.ne_of_lt (blk_lt (bkA BK183.out)) : gb183 ≠ gb184))
                              have n15_ := Aside0.mk ((by rw [hg]; exact Nat.ne_of_gt (blk_lt (bkA BK183.out)) : gb184 ≠ gb183))
                              clear BK176; clear BK177; clear BK178; clear BK183; clear HB; have BK176 := n0_; have BK177 := n1_; have BK178 := n2_; have BK183 := n3_; have HB := n4_; have BK184 := n5_; have GW184 := n6_; have GE184 := n7_; have NB176_184 := n8_; have NB184_176 := n9_; have NB177_184 := n10_; have NB184_177 := n11_; have NB178_184 := n12_; have NB184_178 := n13_; have NB183_184 := n14_; have NB184_183 := n15_; clear n0_ n1_ n2_ n3_ n4_ n5_ n6_ n7_ n8_ n9_ n10_ n11_ n12_ n13_ n14_ n15_; clear hb hbox hg
                              refine hK.out _ _ ⟨(blk_cell BK176.out 0).trans rfl, (blk_cell BK176.out 1).trans rfl, (blk_cell BK177.out 0).trans rfl, (blk_cell BK177.out 1).trans rfl⟩ (fun hHeld => ?_)
                              clear hK K
                              refine norm_ (a' := ?_) ?_ ?_
                              rotate_left
                              · show Act.put _ (some 8) _ = _
                                simp only [Act.put, List.setIfInBounds_toArray, List.set_cons_zero, List.set_cons_succ, i64_w, i32_w]
                                rfl
                              exact norm_ (by first | (simp only [putAll, Act.put, List.setIfInBounds_toArray, List.set_cons_zero, List.set_cons_succ]; done) | (simp only [putAll, Act.put, List.setIfInBounds_toArray, List.set_cons_zero, List.set_cons_succ]; rfl)) (hJ2_6_7 (gb183, gb184) _ ⟨hHeld, (bkA BK176.out), (bkA BK177.out), (bkA BK178.out), (bkA BK183.out), (bkA BK184.out), GW183.out, GE183.out, NB176_183.out, NB183_176.out, NB177_183.out, NB183_177.out, NB178_183.out, NB183_178.out, NB184_183.out, NB183_184.out, GW184.out, GE184.out, NB176_184.out, NB184_176.out, NB177_184.out, NB184_177.out, NB178_184.out, NB184_178.out, (by repeat (first | (with_reducible first | exact HB.out | apply below_alloc | apply pw_below_drewN | apply below_drew1 | refine below_set ?_ GE176.out | refine below_set ?_ GE177.out | refine below_set ?_ GE178.out | refine below_set ?_ GE183.out | refine below_set ?_ GE184.out) | exact HB.out))⟩)
                        · skip
                          rintro _ w40 ⟨hS_, h0_, h1_, h2_, h3_⟩
                          have n0_ : Aside0 (w40.heap[gb176]? = some (.cells #[.int .u64 a0_0, .int .u64 a0_1] 24 (0, 0))) := ⟨h0_⟩
                          have n1_ : Aside0 (w40.heap[gb177]? = some (.cells #[.int .u64 a1_0, .int .u64 a1_1] 24 (0, 0))) := ⟨h1_⟩
                          have n2_ : Aside0 (w40.heap[gb178]? = some (.cells #[.int .u64 a2_0, .int .u64 a2_1] 24 (0, 0))) := ⟨h2_⟩
                          have n3_ : Aside0 (Below w.heap.size w w40) := ⟨h3_⟩
                          clear BK176; clear BK177; clear BK178; clear HB; clear h0_ h1_ h2_ h3_; have BK176 := n0_; have BK177 := n1_; have BK178 := n2_; have HB := n3_; clear n0_ n1_ n2_ n3_
                          have hHeld : w40.cell? ⟨gb176, 0, none⟩ = some (.int .u64 a0_0) ∧ w40.cell? ⟨gb176, 1, none⟩ = some (.int .u64 a0_1) ∧ w40.cell? ⟨gb177, 0, none⟩ = some (.int .u64 a1_0) ∧ w40.cell? ⟨gb177, 1, none⟩ = some (.int .u64 a1_1) := hS_
                          refine norm_ (a' := ?_) ?_ ?_
                          rotate_left
                          · simp only [putAll, Act.put, List.setIfInBounds_toArray, List.set_cons_zero, List.set_cons_succ]
                            rfl
                          refine two_ (i := 6) (j := 7) (Ni := some 7) (Nj := some 8) #[true, true, true, true, true, true, true, false, false, false] #[true, true, true, true, true, true, false, true, false, false] rfl rfl rfl rfl (two_of HT_.out (by kernel_rfl)) (by decide) (by decide) (fun K hK => ?_) (fun K hK => ?_)
                          · skip
                            refine box_step ?hg (N := 7) ?hd (cs := #[.int .u64 0, .int .u64 0]) (t := 24) ?hr ?_; (case hd => rfl); (case hg => rfl); (case hr => first | (go_simp; done) | (go_simp; rfl))
                            intro gb183 hg w41 hbox hb
                            have n0_ := Aside0.mk (blk_below (bkA BK176.out) hb); have n1_ := Aside0.mk (blk_below (bkA BK177.out) hb); have n2_ := Aside0.mk (blk_below (bkA BK178.out) hb)
                            have n3_ := Aside0.mk (below_step (by repeat (first | (with_reducible first | exact HB.out | apply below_alloc | apply pw_below_drewN | apply below_drew1 | refine below_set ?_ GE176.out | refine below_set ?_ GE177.out | refine below_set ?_ GE178.out) | exact HB.out)) hb)
                            have n4_ := Aside0.mk (hbox)
                            have n5_ := Aside0.mk ((by rw [hg]; exact (below_size (by repeat (first | (with_reducible first | exact HB.out | apply below_alloc | apply pw_below_drewN | apply below_drew1 | refine below_set ?_ GE176.out | refine below_set ?_ GE177.out | refine below_set ?_ GE178.out) | exact HB.out))) : w.heap.size ≤ gb183))
                            have n6_ := Aside0.mk ((by rw [hg]; exact (below_size (by repeat (first | (with_reducible first | exact HB.out | apply below_alloc | apply pw_below_drewN | apply below_drew1 | refine below_set ?_ GE176.out | refine below_set ?_ GE177.out | refine below_set ?_ GE178.out) | exact HB.out))) : w.heap.size ≤ gb183))
                            have n7_ := Aside0.mk ((by rw [hg]; exact Nat.ne_of_lt (blk_lt (bkA BK176.out)) : gb176 ≠ gb183))
                            have n8_ := Aside0.mk ((by rw [hg]; exact Nat.ne_of_gt (blk_lt (bkA BK176.out)) : gb183 ≠ gb176))
                            have n9_ := Aside0.mk ((by rw [hg]; exact Nat.ne_of_lt (blk_lt (bkA BK177.out)) : gb177 ≠ gb183))
                            have n10_ := Aside0.mk ((by rw [hg]; exact Nat.ne_of_gt (blk_lt (bkA BK177.out)) : gb183 ≠ gb177))
                            have n11_ := Aside0.mk ((by rw [hg]; exact Nat.ne_of_lt (blk_lt (bkA BK178.out)) : gb178 ≠ gb183))
                            have n12_ := Aside0.mk ((by rw [hg]; exact Nat.ne_of_gt (blk_lt (bkA BK178.out)) : gb183 ≠ gb178))
                            clear BK176; clear BK177; clear BK178; clear HB; have BK176 := n0_; have BK177 := n1_; have BK178 := n2_; have HB := n3_; have BK183 := n4_; have GW183 := n5_; have GE183 := n6_; have NB176_183 := n7_; have NB183_176 := n8_; have NB177_183 := n9_; have NB183_177 := n10_; have NB178_183 := n11_; have NB183_178 := n12_; clear n0_ n1_ n2_ n3_ n4_ n5_ n6_ n7_ n8_ n9_ n10_ n11_ n12_; clear hb hbox hg
                            refine hK.out _ _ ⟨(blk_cell BK176.out 0).trans rfl, (blk_cell BK176.out 1).trans rfl, (blk_cell BK177.out 0).trans rfl, (blk_cell BK177.out 1).trans rfl⟩ (fun hHeld => ?_)
                            clear hK K
                            refine norm_ (a' := ?_) ?_ ?_
                            rotate_left
                            · show Act.put _ (some 7) _ = _
                              simp only [Act.put, List.setIfInBounds_toArray, List.set_cons_zero, List.set_cons_succ, i64_w, i32_w]
                              rfl
                            exact norm_ (by first | (simp only [putAll, Act.put, List.setIfInBounds_toArray, List.set_cons_zero, List.set_cons_succ]; done) | (simp only [putAll, Act.put, List.setIfInBounds_toArray, List.set_cons_zero, List.set_cons_succ]; rfl)) (hJ2_5_6 (gb183) _ ⟨hHeld, (bkA BK176.out), (bkA BK177.out), (bkA BK178.out), (bkA BK183.out), GW183.out, GE183.out, NB176_183.out, NB183_176.out, NB177_183.out, NB183_177.out, NB178_183.out, NB183_178.out, (by repeat (first | (with_reducible first | exact HB.out | apply below_alloc | apply pw_below_drewN | apply below_drew1 | refine below_set ?_ GE176.out | refine below_set ?_ GE177.out | refine below_set ?_ GE178.out | refine below_set ?_ GE183.out) | exact HB.out))⟩)
                          · skip
                            refine box_step ?hg (N := 8) ?hd (cs := #[.int .u64 0, .int .u64 0]) (t := 24) ?hr ?_; (case hd => rfl); (case hg => rfl); (case hr => first | (go_simp; done) | (go_simp; rfl))
                            intro gb184 hg w41 hbox hb
                            have n0_ := Aside0.mk (blk_below (bkA BK176.out) hb); have n1_ := Aside0.mk (blk_below (bkA BK177.out) hb); have n2_ := Aside0.mk (blk_below (bkA BK178.out) hb)
                            have n3_ := Aside0.mk (below_step (by repeat (first | (with_reducible first | exact HB.out | apply below_alloc | apply pw_below_drewN | apply below_drew1 | refine below_set ?_ GE176.out | refine below_set ?_ GE177.out | refine below_set ?_ GE178.out) | exact HB.out)) hb)
                            have n4_ := Aside0.mk (hbox)
                            have n5_ := Aside0.mk ((by rw [hg]; exact (below_size (by repeat (first | (with_reducible first | exact HB.out | apply below_alloc | apply pw_below_drewN | apply below_drew1 | refine below_set ?_ GE176.out | refine below_set ?_ GE177.out | refine below_set ?_ GE178.out) | exact HB.out))) : w.heap.size ≤ gb184))
                            have n6_ := Aside0.mk ((by rw [hg]; exact (below_size (by repeat (first | (with_reducible first | exact HB.out | apply below_alloc | apply pw_below_drewN | apply below_drew1 | refine below_set ?_ GE176.out | refine below_set ?_ GE177.out | refine below_set ?_ GE178.out) | exact HB.out))) : w.heap.size ≤ gb184))
                            have n7_ := Aside0.mk ((by rw [hg]; exact Nat.ne_of_lt (blk_lt (bkA BK176.out)) : gb176 ≠ gb184))
                            have n8_ := Aside0.mk ((by rw [hg]; exact Nat.ne_of_gt (blk_lt (bkA BK176.out)) : gb184 ≠ gb176))
                            have n9_ := Aside0.mk ((by rw [hg]; exact Nat.ne_of_lt (blk_lt (bkA BK177.out)) : gb177 ≠ gb184))
                            have n10_ := Aside0.mk ((by rw [hg]; exact Nat.ne_of_gt (blk_lt (bkA BK177.out)) : gb184 ≠ gb177))
                            have n11_ := Aside0.mk ((by rw [hg]; exact Nat.ne_of_lt (blk_lt (bkA BK178.out)) : gb178 ≠ gb184))
                            have n12_ := Aside0.mk ((by rw [hg]; exact Nat.ne_of_gt (blk_lt (bkA BK178.out)) : gb184 ≠ gb178))
                            clear BK176; clear BK177; clear BK178; clear HB; have BK176 := n0_; have BK177 := n1_; have BK178 := n2_; have HB := n3_; have BK184 := n4_; have GW184 := n5_; have GE184 := n6_; have NB176_184 := n7_; have NB184_176 := n8_; have NB177_184 := n9_; have NB184_177 := n10_; have NB178_184 := n11_; have NB184_178 := n12_; clear n0_ n1_ n2_ n3_ n4_ n5_ n6_ n7_ n8_ n9_ n10_ n11_ n12_; clear hb hbox hg
                            refine hK.out _ _ ⟨(blk_cell BK176.out 0).trans rfl, (blk_cell BK176.out 1).trans rfl, (blk_cell BK177.out 0).trans rfl, (blk_cell BK177.out 1).trans rfl⟩ (fun hHeld => ?_)
                            clear hK K
                            refine norm_ (a' := ?_) ?_ ?_
                            rotate_left
                            · show Act.put _ (some 8) _ = _
                              simp only [Act.put, List.setIfInBounds_toArray, List.set_cons_zero, List.set_cons_succ, i64_w, i32_w]
                              rfl
                            exact norm_ (by first | (simp only [putAll, Act.put, List.setIfInBounds_toArray, List.set_cons_zero, List.set_cons_succ]; done) | (simp only [putAll, Act.put, List.setIfInBounds_toArray, List.set_cons_zero, List.set_cons_succ]; rfl)) (hJ2_5_7 (gb184) _ ⟨hHeld, (bkA BK176.out), (bkA BK177.out), (bkA BK178.out), (bkA BK184.out), GW184.out, GE184.out, NB176_184.out, NB184_176.out, NB177_184.out, NB184_177.out, NB178_184.out, NB184_178.out, (by repeat (first | (with_reducible first | exact HB.out | apply below_alloc | apply pw_below_drewN | apply below_drew1 | refine below_set ?_ GE176.out | refine below_set ?_ GE177.out | refine below_set ?_ GE178.out | refine below_set ?_ GE184.out) | exact HB.out))⟩)
                      · skip
                        rintro ⟨gb183, gb184⟩ w41 ⟨hS_, h0_, h1_, h2_, h3_, h4_, h5_, h6_, h7_, h8_, h9_, h10_, h11_, h12_, h13_, h14_, h15_, h16_, h17_, h18_, h19_, h20_, h21_, h22_, h23_⟩
                        have n0_ : Aside0 (w41.heap[gb176]? = some (.cells #[.int .u64 a0_0, .int .u64 a0_1] 24 (0, 0))) := ⟨h0_⟩
                        have n1_ : Aside0 (w41.heap[gb177]? = some (.cells #[.int .u64 a1_0, .int .u64 a1_1] 24 (0, 0))) := ⟨h1_⟩
                        have n2_ : Aside0 (w41.heap[gb178]? = some (.cells #[.int .u64 a2_0, .int .u64 a2_1] 24 (0, 0))) := ⟨h2_⟩
                        have n3_ : Aside0 (w41.heap[gb183]? = some (.cells #[.int .u64 0, .int .u64 0] 24 (0, 0))) := ⟨h3_⟩
                        have n4_ : Aside0 (w41.heap[gb184]? = some (.cells #[.int .u64 0, .int .u64 0] 24 (0, 0))) := ⟨h4_⟩
                        have n5_ : Aside0 (w.heap.size ≤ gb183) := ⟨h5_⟩
                        have n6_ : Aside0 (w.heap.size ≤ gb183) := ⟨h6_⟩
                        have n7_ : Aside0 (gb176 ≠ gb183) := ⟨h7_⟩
                        have n8_ : Aside0 (gb183 ≠ gb176) := ⟨h8_⟩
                        have n9_ : Aside0 (gb177 ≠ gb183) := ⟨h9_⟩
                        have n10_ : Aside0 (gb183 ≠ gb177) := ⟨h10_⟩
                        have n11_ : Aside0 (gb178 ≠ gb183) := ⟨h11_⟩
                        have n12_ : Aside0 (gb183 ≠ gb178) := ⟨h12_⟩
                        have n13_ : Aside0 (gb184 ≠ gb183) := ⟨h13_⟩
                        have n14_ : Aside0 (gb183 ≠ gb184) := ⟨h14_⟩
                        have n15_ : Aside0 (w.heap.size ≤ gb184) := ⟨h15_⟩
                        have n16_ : Aside0 (w.heap.size ≤ gb184) := ⟨h16_⟩
                        have n17_ : Aside0 (gb176 ≠ gb184) := ⟨h17_⟩
                        have n18_ : Aside0 (gb184 ≠ gb176) := ⟨h18_⟩
                        have n19_ : Aside0 (gb177 ≠ gb184) := ⟨h19_⟩
                        have n20_ : Aside0 (gb184 ≠ gb177) := ⟨h20_⟩
                        have n21_ : Aside0 (gb178 ≠ gb184) := ⟨h21_⟩
                        have n22_ : Aside0 (gb184 ≠ gb178) := ⟨h22_⟩
                        have n23_ : Aside0 (Below w.heap.size w w41) := ⟨h23_⟩
                        clear BK176; clear BK177; clear BK178; clear HB; clear h0_ h1_ h2_ h3_ h4_ h5_ h6_ h7_ h8_ h9_ h10_ h11_ h12_ h13_ h14_ h15_ h16_ h17_ h18_ h19_ h20_ h21_ h22_ h23_; have BK176 := n0_; have BK177 := n1_; have BK178 := n2_; have BK183 := n3_; have BK184 := n4_; have GW183 := n5_; have GE183 := n6_; have NB176_183 := n7_; have NB183_176 := n8_; have NB177_183 := n9_; have NB183_177 := n10_; have NB178_183 := n11_; have NB183_178 := n12_; have NB184_183 := n13_; have NB183_184 := n14_; have GW184 := n15_; have GE184 := n16_; have NB176_184 := n17_; have NB184_176 := n18_; have NB177_184 := n19_; have NB184_177 := n20_; have NB178_184 := n21_; have NB184_178 := n22_; have HB := n23_; clear n0_ n1_ n2_ n3_ n4_ n5_ n6_ n7_ n8_ n9_ n10_ n11_ n12_ n13_ n14_ n15_ n16_ n17_ n18_ n19_ n20_ n21_ n22_ n23_
                        have hHeld : w41.cell? ⟨gb176, 0, none⟩ = some (.int .u64 a0_0) ∧ w41.cell? ⟨gb176, 1, none⟩ = some (.int .u64 a0_1) ∧ w41.cell? ⟨gb177, 0, none⟩ = some (.int .u64 a1_0) ∧ w41.cell? ⟨gb177, 1, none⟩ = some (.int .u64 a1_1) := hS_
                        refine norm_ (a' := ?_) ?_ ?_
                        rotate_left
                        · simp only [putAll, Act.put, List.setIfInBounds_toArray, List.set_cons_zero, List.set_cons_succ]
                          rfl
                        refine one_ (i := 5) (N := some 14) #[true, true, true, true, true, true, true, true, false, false] rfl rfl (one_of HT_.out (by kernel_rfl)) (by decide) (fun K hK => ?_)
                        refine goes_ Try.func23 (by kernel_rfl) rfl #[.agg #[.int .u64 a0_0, .int .u64 a0_1], .agg #[.int .u64 a1_0, .int .u64 a1_1]] (by rfl) rfl rfl (by (try simp only [List.map_toArray, List.map_cons, List.map_nil]); first | done | rfl | (simp only [List.length_drop, List.length_take]; rfl)) ?_
                        with_reducible refine (word_And.calls a0_0 a0_1 a1_0 a1_1 t181 t182 _ A5.out).mono ?_
                        rintro e w42 ⟨rfl, hb⟩
                        refine ⟨_, rfl, ?_⟩
                        have n0_ := Aside0.mk (blk_below (bkA BK176.out) hb); have n1_ := Aside0.mk (blk_below (bkA BK177.out) hb); have n2_ := Aside0.mk (blk_below (bkA BK178.out) hb); have n3_ := Aside0.mk (blk_below (bkA BK183.out) hb); have n4_ := Aside0.mk (blk_below (bkA BK184.out) hb)
                        have n5_ := Aside0.mk (below_step (by repeat (first | (with_reducible first | exact HB.out | apply below_alloc | apply pw_below_drewN | apply below_drew1 | refine below_set ?_ GE176.out | refine below_set ?_ GE177.out | refine below_set ?_ GE178.out | refine below_set ?_ GE183.out | refine below_set ?_ GE184.out) | exact HB.out)) hb)
                        clear BK176; clear BK177; clear BK178; clear BK183; clear BK184; clear HB; have BK176 := n0_; have BK177 := n1_; have BK178 := n2_; have BK183 := n3_; have BK184 := n4_; have HB := n5_; clear n0_ n1_ n2_ n3_ n4_ n5_; (try clear hb); (try clear hb2); (try clear hk); (try clear hi)
                        refine hK.out _ _ ⟨(blk_cell BK176.out 0).trans rfl, (blk_cell BK176.out 1).trans rfl, (blk_cell BK177.out 0).trans rfl, (blk_cell BK177.out 1).trans rfl⟩ (fun hHeld => ?_)
                        clear hK K
                        refine norm_ (a' := ?_) ?_ ?_
                        rotate_left
                        · show Act.put _ (some 14) _ = _
                          simp only [Act.put, List.setIfInBounds_toArray, List.set_cons_zero, List.set_cons_succ, i64_w, i32_w]
                          rfl
                        exact norm_ (by first | (simp only [putAll, Act.put, List.setIfInBounds_toArray, List.set_cons_zero, List.set_cons_succ]; done) | (simp only [putAll, Act.put, List.setIfInBounds_toArray, List.set_cons_zero, List.set_cons_succ]; rfl)) (hJ2_5_6_7 (gb183, gb184) _ ⟨hHeld, (bkA BK176.out), (bkA BK177.out), (bkA BK178.out), (bkA BK183.out), (bkA BK184.out), GW183.out, GE183.out, NB176_183.out, NB183_176.out, NB177_183.out, NB183_177.out, NB178_183.out, NB183_178.out, NB184_183.out, NB183_184.out, GW184.out, GE184.out, NB176_184.out, NB184_176.out, NB177_184.out, NB184_177.out, NB178_184.out, NB184_178.out, (by repeat (first | (with_reducible first | exact HB.out | apply below_alloc | apply pw_below_drewN | apply below_drew1 | refine below_set ?_ GE176.out | refine below_set ?_ GE177.out | refine below_set ?_ GE178.out | refine below_set ?_ GE183.out | refine below_set ?_ GE184.out) | exact HB.out))⟩)
                    · skip
                      rintro gb184 w41 ⟨hS_, h0_, h1_, h2_, h3_, h4_, h5_, h6_, h7_, h8_, h9_, h10_, h11_, h12_⟩
                      have n0_ : Aside0 (w41.heap[gb176]? = some (.cells #[.int .u64 a0_0, .int .u64 a0_1] 24 (0, 0))) := ⟨h0_⟩
                      have n1_ : Aside0 (w41.heap[gb177]? = some (.cells #[.int .u64 a1_0, .int .u64 a1_1] 24 (0, 0))) := ⟨h1_⟩
                      have n2_ : Aside0 (w41.heap[gb178]? = some (.cells #[.int .u64 a2_0, .int .u64 a2_1] 24 (0, 0))) := ⟨h2_⟩
                      have n3_ : Aside0 (w41.heap[gb184]? = some (.cells #[.int .u64 0, .int .u64 0] 24 (0, 0))) := ⟨h3_⟩
                      have n4_ : Aside0 (w.heap.size ≤ gb184) := ⟨h4_⟩
                      have n5_ : Aside0 (w.heap.size ≤ gb184) := ⟨h5_⟩
                      have n6_ : Aside0 (gb176 ≠ gb184) := ⟨h6_⟩
                      have n7_ : Aside0 (gb184 ≠ gb176) := ⟨h7_⟩
                      have n8_ : Aside0 (gb177 ≠ gb184) := ⟨h8_⟩
                      have n9_ : Aside0 (gb184 ≠ gb177) := ⟨h9_⟩
                      have n10_ : Aside0 (gb178 ≠ gb184) := ⟨h10_⟩
                      have n11_ : Aside0 (gb184 ≠ gb178) := ⟨h11_⟩
                      have n12_ : Aside0 (Below w.heap.size w w41) := ⟨h12_⟩
                      clear BK176; clear BK177; clear BK178; clear HB; clear h0_ h1_ h2_ h3_ h4_ h5_ h6_ h7_ h8_ h9_ h10_ h11_ h12_; have BK176 := n0_; have BK177 := n1_; have BK178 := n2_; have BK184 := n3_; have GW184 := n4_; have GE184 := n5_; have NB176_184 := n6_; have NB184_176 := n7_; have NB177_184 := n8_; have NB184_177 := n9_; have NB178_184 := n10_; have NB184_178 := n11_; have HB := n12_; clear n0_ n1_ n2_ n3_ n4_ n5_ n6_ n7_ n8_ n9_ n10_ n11_ n12_
                      have hHeld : w41.cell? ⟨gb176, 0, none⟩ = some (.int .u64 a0_0) ∧ w41.cell? ⟨gb176, 1, none⟩ = some (.int .u64 a0_1) ∧ w41.cell? ⟨gb177, 0, none⟩ = some (.int .u64 a1_0) ∧ w41.cell? ⟨gb177, 1, none⟩ = some (.int .u64 a1_1) := hS_
                      refine norm_ (a' := ?_) ?_ ?_
                      rotate_left
                      · simp only [putAll, Act.put, List.setIfInBounds_toArray, List.set_cons_zero, List.set_cons_succ]
                        rfl
                      refine one_ (i := 6) (N := some 7) #[true, true, true, true, true, true, true, true, false, false] rfl rfl (one_of HT_.out (by kernel_rfl)) (by decide) (fun K hK => ?_)
                      refine box_step ?hg (N := 7) ?hd (cs := #[.int .u64 0, .int .u64 0]) (t := 24) ?hr ?_; (case hd => rfl); (case hg => rfl); (case hr => first | (go_simp; done) | (go_simp; rfl))
                      intro gb183 hg w42 hbox hb
                      have n0_ := Aside0.mk (blk_below (bkA BK176.out) hb); have n1_ := Aside0.mk (blk_below (bkA BK177.out) hb); have n2_ := Aside0.mk (blk_below (bkA BK178.out) hb); have n3_ := Aside0.mk (blk_below (bkA BK184.out) hb)
                      have n4_ := Aside0.mk (below_step (by repeat (first | (with_reducible first | exact HB.out | apply below_alloc | apply pw_below_drewN | apply below_drew1 | refine below_set ?_ GE176.out | refine below_set ?_ GE177.out | refine below_set ?_ GE178.out | refine below_set ?_ GE184.out) | exact HB.out)) hb)
                      have n5_ := Aside0.mk (hbox)
                      have n6_ := Aside0.mk ((by rw [hg]; exact (below_size (by repeat (first | (with_reducible first | exact HB.out | apply below_alloc | apply pw_below_drewN | apply below_drew1 | refine below_set ?_ GE176.out | refine below_set ?_ GE177.out | refine below_set ?_ GE178.out | refine below_set ?_ GE184.out) | exact HB.out))) : w.heap.size ≤ gb183))
                      have n7_ := Aside0.mk ((by rw [hg]; exact (below_size (by repeat (first | (with_reducible first | exact HB.out | apply below_alloc | apply pw_below_drewN | apply below_drew1 | refine below_set ?_ GE176.out | refine below_set ?_ GE177.out | refine below_set ?_ GE178.out | refine below_set ?_ GE184.out) | exact HB.out))) : w.heap.size ≤ gb183))
                      have n8_ := Aside0.mk ((by rw [hg]; exact Nat.ne_of_lt (blk_lt (bkA BK176.out)) : gb176 ≠ gb183))
                      have n9_ := Aside0.mk ((by rw [hg]; exact Nat.ne_of_gt (blk_lt (bkA BK176.out)) : gb183 ≠ gb176))
                      have n10_ := Aside0.mk ((by rw [hg]; exact Nat.ne_of_lt (blk_lt (bkA BK177.out)) : gb177 ≠ gb183))
                      have n11_ := Aside0.mk ((by rw [hg]; exact Nat.ne_of_gt (blk_lt (bkA BK177.out)) : gb183 ≠ gb177))
                      have n12_ := Aside0.mk ((by rw [hg]; exact Nat.ne_of_lt (blk_lt (bkA BK178.out)) : gb178 ≠ gb183))
                      have n13_ := Aside0.mk ((by rw [hg]; exact Nat.ne_of_gt (blk_lt (bkA BK178.out)) : gb183 ≠ gb178))
                      have n14_ := Aside0.mk ((by rw [hg]; exact Nat.ne_of_lt (blk_lt (bkA BK184.out)) : gb184 ≠ gb183))
                      have n15_ := Aside0.mk ((by rw [hg]; exact Nat.ne_of_gt (blk_lt (bkA BK184.out)) : gb183 ≠ gb184))
                      clear BK176; clear BK177; clear BK178; clear BK184; clear HB; have BK176 := n0_; have BK177 := n1_; have BK178 := n2_; have BK184 := n3_; have HB := n4_; have BK183 := n5_; have GW183 := n6_; have GE183 := n7_; have NB176_183 := n8_; have NB183_176 := n9_; have NB177_183 := n10_; have NB183_177 := n11_; have NB178_183 := n12_; have NB183_178 := n13_; have NB184_183 := n14_; have NB183_184 := n15_; clear n0_ n1_ n2_ n3_ n4_ n5_ n6_ n7_ n8_ n9_ n10_ n11_ n12_ n13_ n14_ n15_; clear hb hbox hg
                      refine hK.out _ _ ⟨(blk_cell BK176.out 0).trans rfl, (blk_cell BK176.out 1).trans rfl, (blk_cell BK177.out 0).trans rfl, (blk_cell BK177.out 1).trans rfl⟩ (fun hHeld => ?_)
                      clear hK K
                      refine norm_ (a' := ?_) ?_ ?_
                      rotate_left
                      · show Act.put _ (some 7) _ = _
                        simp only [Act.put, List.setIfInBounds_toArray, List.set_cons_zero, List.set_cons_succ, i64_w, i32_w]
                        rfl
                      exact norm_ (by first | (simp only [putAll, Act.put, List.setIfInBounds_toArray, List.set_cons_zero, List.set_cons_succ]; done) | (simp only [putAll, Act.put, List.setIfInBounds_toArray, List.set_cons_zero, List.set_cons_succ]; rfl)) (hJ2_5_6_7 (gb183, gb184) _ ⟨hHeld, (bkA BK176.out), (bkA BK177.out), (bkA BK178.out), (bkA BK183.out), (bkA BK184.out), GW183.out, GE183.out, NB176_183.out, NB183_176.out, NB177_183.out, NB183_177.out, NB178_183.out, NB183_178.out, NB184_183.out, NB183_184.out, GW184.out, GE184.out, NB176_184.out, NB184_176.out, NB177_184.out, NB184_177.out, NB178_184.out, NB184_178.out, (by repeat (first | (with_reducible first | exact HB.out | apply below_alloc | apply pw_below_drewN | apply below_drew1 | refine below_set ?_ GE176.out | refine below_set ?_ GE177.out | refine below_set ?_ GE178.out | refine below_set ?_ GE184.out | refine below_set ?_ GE183.out) | exact HB.out))⟩)
                  · skip
                    rintro gb183 w41 ⟨hS_, h0_, h1_, h2_, h3_, h4_, h5_, h6_, h7_, h8_, h9_, h10_, h11_, h12_⟩
                    have n0_ : Aside0 (w41.heap[gb176]? = some (.cells #[.int .u64 a0_0, .int .u64 a0_1] 24 (0, 0))) := ⟨h0_⟩
                    have n1_ : Aside0 (w41.heap[gb177]? = some (.cells #[.int .u64 a1_0, .int .u64 a1_1] 24 (0, 0))) := ⟨h1_⟩
                    have n2_ : Aside0 (w41.heap[gb178]? = some (.cells #[.int .u64 a2_0, .int .u64 a2_1] 24 (0, 0))) := ⟨h2_⟩
                    have n3_ : Aside0 (w41.heap[gb183]? = some (.cells #[.int .u64 0, .int .u64 0] 24 (0, 0))) := ⟨h3_⟩
                    have n4_ : Aside0 (w.heap.size ≤ gb183) := ⟨h4_⟩
                    have n5_ : Aside0 (w.heap.size ≤ gb183) := ⟨h5_⟩
                    have n6_ : Aside0 (gb176 ≠ gb183) := ⟨h6_⟩
                    have n7_ : Aside0 (gb183 ≠ gb176) := ⟨h7_⟩
                    have n8_ : Aside0 (gb177 ≠ gb183) := ⟨h8_⟩
                    have n9_ : Aside0 (gb183 ≠ gb177) := ⟨h9_⟩
                    have n10_ : Aside0 (gb178 ≠ gb183) := ⟨h10_⟩
                    have n11_ : Aside0 (gb183 ≠ gb178) := ⟨h11_⟩
                    have n12_ : Aside0 (Below w.heap.size w w41) := ⟨h12_⟩
                    clear BK176; clear BK177; clear BK178; clear HB; clear h0_ h1_ h2_ h3_ h4_ h5_ h6_ h7_ h8_ h9_ h10_ h11_ h12_; have BK176 := n0_; have BK177 := n1_; have BK178 := n2_; have BK183 := n3_; have GW183 := n4_; have GE183 := n5_; have NB176_183 := n6_; have NB183_176 := n7_; have NB177_183 := n8_; have NB183_177 := n9_; have NB178_183 := n10_; have NB183_178 := n11_; have HB := n12_; clear n0_ n1_ n2_ n3_ n4_ n5_ n6_ n7_ n8_ n9_ n10_ n11_ n12_
                    have hHeld : w41.cell? ⟨gb176, 0, none⟩ = some (.int .u64 a0_0) ∧ w41.cell? ⟨gb176, 1, none⟩ = some (.int .u64 a0_1) ∧ w41.cell? ⟨gb177, 0, none⟩ = some (.int .u64 a1_0) ∧ w41.cell? ⟨gb177, 1, none⟩ = some (.int .u64 a1_1) := hS_
                    refine norm_ (a' := ?_) ?_ ?_
                    rotate_left
                    · simp only [putAll, Act.put, List.setIfInBounds_toArray, List.set_cons_zero, List.set_cons_succ]
                      rfl
                    refine one_ (i := 7) (N := some 8) #[true, true, true, true, true, true, true, true, false, false] rfl rfl (one_of HT_.out (by kernel_rfl)) (by decide) (fun K hK => ?_)
                    refine box_step ?hg (N := 8) ?hd (cs := #[.int .u64 0, .int .u64 0]) (t := 24) ?hr ?_; (case hd => rfl); (case hg => rfl); (case hr => first | (go_simp; done) | (go_simp; rfl))
                    intro gb184 hg w42 hbox hb
                    have n0_ := Aside0.mk (blk_below (bkA BK176.out) hb); have n1_ := Aside0.mk (blk_below (bkA BK177.out) hb); have n2_ := Aside0.mk (blk_below (bkA BK178.out) hb); have n3_ := Aside0.mk (blk_below (bkA BK183.out) hb)
                    have n4_ := Aside0.mk (below_step (by repeat (first | (with_reducible first | exact HB.out | apply below_alloc | apply pw_below_drewN | apply below_drew1 | refine below_set ?_ GE176.out | refine below_set ?_ GE177.out | refine below_set ?_ GE178.out | refine below_set ?_ GE183.out) | exact HB.out)) hb)
                    have n5_ := Aside0.mk (hbox)
                    have n6_ := Aside0.mk ((by rw [hg]; exact (below_size (by repeat (first | (with_reducible first | exact HB.out | apply below_alloc | apply pw_below_drewN | apply below_drew1 | refine below_set ?_ GE176.out | refine below_set ?_ GE177.out | refine below_set ?_ GE178.out | refine below_set ?_ GE183.out) | exact HB.out))) : w.heap.size ≤ gb184))
                    have n7_ := Aside0.mk ((by rw [hg]; exact (below_size (by repeat (first | (with_reducible first | exact HB.out | apply below_alloc | apply pw_below_drewN | apply below_drew1 | refine below_set ?_ GE176.out | refine below_set ?_ GE177.out | refine below_set ?_ GE178.out | refine below_set ?_ GE183.out) | exact HB.out))) : w.heap.size ≤ gb184))
                    have n8_ := Aside0.mk ((by rw [hg]; exact Nat.ne_of_lt (blk_lt (bkA BK176.out)) : gb176 ≠ gb184))
                    have n9_ := Aside0.mk ((by rw [hg]; exact Nat.ne_of_gt (blk_lt (bkA BK176.out)) : gb184 ≠ gb176))
                    have n10_ := Aside0.mk ((by rw [hg]; exact Nat.ne_of_lt (blk_lt (bkA BK177.out)) : gb177 ≠ gb184))
                    have n11_ := Aside0.mk ((by rw [hg]; exact Nat.ne_of_gt (blk_lt (bkA BK177.out)) : gb184 ≠ gb177))
                    have n12_ := Aside0.mk ((by rw [hg]; exact Nat.ne_of_lt (blk_lt (bkA BK178.out)) : gb178 ≠ gb184))
                    have n13_ := Aside0.mk ((by rw [hg]; exact Nat.ne_of_gt (blk_lt (bkA BK178.out)) : gb184 ≠ gb178))
                    have n14_ := Aside0.mk ((by rw [hg]; exact Nat.ne_of_lt (blk_lt (bkA BK183.out)) : gb183 ≠ gb184))
                    have n15_ := Aside0.mk ((by rw [hg]; exact Nat.ne_of_gt (blk_lt (bkA BK183.out)) : gb184 ≠ gb183))
                    clear BK176; clear BK177; clear BK178; clear BK183; clear HB; have BK176 := n0_; have BK177 := n1_; have BK178 := n2_; have BK183 := n3_; have HB := n4_; have BK184 := n5_; have GW184 := n6_; have GE184 := n7_; have NB176_184 := n8_; have NB184_176 := n9_; have NB177_184 := n10_; have NB184_177 := n11_; have NB178_184 := n12_; have NB184_178 := n13_; have NB183_184 := n14_; have NB184_183 := n15_; clear n0_ n1_ n2_ n3_ n4_ n5_ n6_ n7_ n8_ n9_ n10_ n11_ n12_ n13_ n14_ n15_; clear hb hbox hg
                    refine hK.out _ _ ⟨(blk_cell BK176.out 0).trans rfl, (blk_cell BK176.out 1).trans rfl, (blk_cell BK177.out 0).trans rfl, (blk_cell BK177.out 1).trans rfl⟩ (fun hHeld => ?_)
                    clear hK K
                    refine norm_ (a' := ?_) ?_ ?_
                    rotate_left
                    · show Act.put _ (some 8) _ = _
                      simp only [Act.put, List.setIfInBounds_toArray, List.set_cons_zero, List.set_cons_succ, i64_w, i32_w]
                      rfl
                    exact norm_ (by first | (simp only [putAll, Act.put, List.setIfInBounds_toArray, List.set_cons_zero, List.set_cons_succ]; done) | (simp only [putAll, Act.put, List.setIfInBounds_toArray, List.set_cons_zero, List.set_cons_succ]; rfl)) (hJ2_5_6_7 (gb183, gb184) _ ⟨hHeld, (bkA BK176.out), (bkA BK177.out), (bkA BK178.out), (bkA BK183.out), (bkA BK184.out), GW183.out, GE183.out, NB176_183.out, NB183_176.out, NB177_183.out, NB183_177.out, NB178_183.out, NB183_178.out, NB184_183.out, NB183_184.out, GW184.out, GE184.out, NB176_184.out, NB184_176.out, NB177_184.out, NB184_177.out, NB178_184.out, NB184_178.out, (by repeat (first | (with_reducible first | exact HB.out | apply below_alloc | apply pw_below_drewN | apply below_drew1 | refine below_set ?_ GE176.out | refine below_set ?_ GE177.out | refine below_set ?_ GE178.out | refine below_set ?_ GE183.out | refine below_set ?_ GE184.out) | exact HB.out))⟩)
                rintro ⟨gb183, gb184⟩ w42 ⟨hS_, h0_, h1_, h2_, h3_, h4_, h5_, h6_, h7_, h8_, h9_, h10_, h11_, h12_, h13_, h14_, h15_, h16_, h17_, h18_, h19_, h20_, h21_, h22_, h23_⟩
                have n0_ : Aside0 (w42.heap[gb176]? = some (.cells #[.int .u64 a0_0, .int .u64 a0_1] 24 (0, 0))) := ⟨h0_⟩
                have n1_ : Aside0 (w42.heap[gb177]? = some (.cells #[.int .u64 a1_0, .int .u64 a1_1] 24 (0, 0))) := ⟨h1_⟩
                have n2_ : Aside0 (w42.heap[gb178]? = some (.cells #[.int .u64 a2_0, .int .u64 a2_1] 24 (0, 0))) := ⟨h2_⟩
                have n3_ : Aside0 (w42.heap[gb183]? = some (.cells #[.int .u64 0, .int .u64 0] 24 (0, 0))) := ⟨h3_⟩
                have n4_ : Aside0 (w42.heap[gb184]? = some (.cells #[.int .u64 0, .int .u64 0] 24 (0, 0))) := ⟨h4_⟩
                have n5_ : Aside0 (w.heap.size ≤ gb183) := ⟨h5_⟩
                have n6_ : Aside0 (w.heap.size ≤ gb183) := ⟨h6_⟩
                have n7_ : Aside0 (gb176 ≠ gb183) := ⟨h7_⟩
                have n8_ : Aside0 (gb183 ≠ gb176) := ⟨h8_⟩
                have n9_ : Aside0 (gb177 ≠ gb183) := ⟨h9_⟩
                have n10_ : Aside0 (gb183 ≠ gb177) := ⟨h10_⟩
                have n11_ : Aside0 (gb178 ≠ gb183) := ⟨h11_⟩
                have n12_ : Aside0 (gb183 ≠ gb178) := ⟨h12_⟩
                have n13_ : Aside0 (gb184 ≠ gb183) := ⟨h13_⟩
                have n14_ : Aside0 (gb183 ≠ gb184) := ⟨h14_⟩
                have n15_ : Aside0 (w.heap.size ≤ gb184) := ⟨h15_⟩
                have n16_ : Aside0 (w.heap.size ≤ gb184) := ⟨h16_⟩
                have n17_ : Aside0 (gb176 ≠ gb184) := ⟨h17_⟩
                have n18_ : Aside0 (gb184 ≠ gb176) := ⟨h18_⟩
                have n19_ : Aside0 (gb177 ≠ gb184) := ⟨h19_⟩
                have n20_ : Aside0 (gb184 ≠ gb177) := ⟨h20_⟩
                have n21_ : Aside0 (gb178 ≠ gb184) := ⟨h21_⟩
                have n22_ : Aside0 (gb184 ≠ gb178) := ⟨h22_⟩
                have n23_ : Aside0 (Below w.heap.size w w42) := ⟨h23_⟩
                clear BK176; clear BK177; clear BK178; clear HB; clear h0_ h1_ h2_ h3_ h4_ h5_ h6_ h7_ h8_ h9_ h10_ h11_ h12_ h13_ h14_ h15_ h16_ h17_ h18_ h19_ h20_ h21_ h22_ h23_; have BK176 := n0_; have BK177 := n1_; have BK178 := n2_; have BK183 := n3_; have BK184 := n4_; have GW183 := n5_; have GE183 := n6_; have NB176_183 := n7_; have NB183_176 := n8_; have NB177_183 := n9_; have NB183_177 := n10_; have NB178_183 := n11_; have NB183_178 := n12_; have NB184_183 := n13_; have NB183_184 := n14_; have GW184 := n15_; have GE184 := n16_; have NB176_184 := n17_; have NB184_176 := n18_; have NB177_184 := n19_; have NB184_177 := n20_; have NB178_184 := n21_; have NB184_178 := n22_; have HB := n23_; clear n0_ n1_ n2_ n3_ n4_ n5_ n6_ n7_ n8_ n9_ n10_ n11_ n12_ n13_ n14_ n15_ n16_ n17_ n18_ n19_ n20_ n21_ n22_ n23_
                have hHeld : w42.cell? ⟨gb176, 0, none⟩ = some (.int .u64 a0_0) ∧ w42.cell? ⟨gb176, 1, none⟩ = some (.int .u64 a0_1) ∧ w42.cell? ⟨gb177, 0, none⟩ = some (.int .u64 a1_0) ∧ w42.cell? ⟨gb177, 1, none⟩ = some (.int .u64 a1_1) := hS_
                refine norm_ (a' := ?_) ?_ ?_
                rotate_left
                · simp only [putAll, Act.put, List.setIfInBounds_toArray, List.set_cons_zero, List.set_cons_succ]
                  rfl
                refine one_ (i := 8) (N := none) #[true, true, true, true, true, true, true, true, true, false] rfl rfl (one_of HT_.out (by kernel_rfl)) (by decide) (fun K hK => ?_)
                have hs43 : w42.cell? ⟨gb183, 0, none⟩ = some (.int .u64 0) := (blk_cell BK183.out 0).trans rfl
                have hfs43 := blk_frozen BK183.out 0
                have hns43_0 := NB176_183.out
                have hns43_1 := NB177_183.out
                have hns43_2 := NB178_183.out
                have hns43_4 := NB184_183.out
                have hms43_0 := NB183_176.out
                have hms43_1 := NB183_177.out
                have hms43_2 := NB183_178.out
                have hms43_4 := NB183_184.out
                have hs44 : w42.cell? ⟨gb183, 1, none⟩ = some (.int .u64 0) := (blk_cell BK183.out 1).trans rfl
                have hfs44 := blk_frozen BK183.out 1
                have hns44_0 := NB176_183.out
                have hns44_1 := NB177_183.out
                have hns44_2 := NB178_183.out
                have hns44_4 := NB184_183.out
                have hms44_0 := NB183_176.out
                have hms44_1 := NB183_177.out
                have hms44_2 := NB183_178.out
                have hms44_4 := NB183_184.out
                refine skip_ (w1 := ?_) (by rfl) rfl ?_ ?_
                rotate_left
                · go_simp
                  rfl
                refine hK.out _ _ ⟨((cell_far (p := ⟨gb183, _, none⟩) NB176_183.out _).trans (((cell_far (p := ⟨gb183, _, none⟩) NB176_183.out _).trans (hHeld.1)))), ((cell_far (p := ⟨gb183, _, none⟩) NB176_183.out _).trans (((cell_far (p := ⟨gb183, _, none⟩) NB176_183.out _).trans (hHeld.2.1)))), ((cell_far (p := ⟨gb183, _, none⟩) NB177_183.out _).trans (((cell_far (p := ⟨gb183, _, none⟩) NB177_183.out _).trans (hHeld.2.2.1)))), ((cell_far (p := ⟨gb183, _, none⟩) NB177_183.out _).trans (((cell_far (p := ⟨gb183, _, none⟩) NB177_183.out _).trans (hHeld.2.2.2))))⟩ (fun hHeld => ?_)
                clear hK K
                refine one_ (i := 9) (N := none) #[true, true, true, true, true, true, true, true, true, true] rfl rfl (one_of HT_.out (by kernel_rfl)) (by decide) (fun K hK => ?_)
                have hs45 : w42.cell? ⟨gb184, 0, none⟩ = some (.int .u64 0) := (blk_cell BK184.out 0).trans rfl
                have hfs45 := blk_frozen BK184.out 0
                have hns45_0 := NB176_184.out
                have hns45_1 := NB177_184.out
                have hns45_2 := NB178_184.out
                have hns45_3 := NB183_184.out
                have hms45_0 := NB184_176.out
                have hms45_1 := NB184_177.out
                have hms45_2 := NB184_178.out
                have hms45_3 := NB184_183.out
                have hs46 : w42.cell? ⟨gb184, 1, none⟩ = some (.int .u64 0) := (blk_cell BK184.out 1).trans rfl
                have hfs46 := blk_frozen BK184.out 1
                have hns46_0 := NB176_184.out
                have hns46_1 := NB177_184.out
                have hns46_2 := NB178_184.out
                have hns46_3 := NB183_184.out
                have hms46_0 := NB184_176.out
                have hms46_1 := NB184_177.out
                have hms46_2 := NB184_178.out
                have hms46_3 := NB184_183.out
                refine skip_ (w1 := ?_) (by rfl) rfl ?_ ?_
                rotate_left
                · go_simp
                  rfl
                refine hK.out _ _ ⟨((cell_far (p := ⟨gb184, _, none⟩) NB176_184.out _).trans (((cell_far (p := ⟨gb184, _, none⟩) NB176_184.out _).trans (hHeld.1)))), ((cell_far (p := ⟨gb184, _, none⟩) NB176_184.out _).trans (((cell_far (p := ⟨gb184, _, none⟩) NB176_184.out _).trans (hHeld.2.1)))), ((cell_far (p := ⟨gb184, _, none⟩) NB177_184.out _).trans (((cell_far (p := ⟨gb184, _, none⟩) NB177_184.out _).trans (hHeld.2.2.1)))), ((cell_far (p := ⟨gb184, _, none⟩) NB177_184.out _).trans (((cell_far (p := ⟨gb184, _, none⟩) NB177_184.out _).trans (hHeld.2.2.2))))⟩ (fun hHeld => ?_)
                clear hK K
                refine done_ (done_of HT_.out (by kernel_rfl)) ?_
                try go_wp2
                have n0_ : Aside0 (((((w42.setCell ⟨gb183, 0, none⟩ (.int .u64 t179)).setCell ⟨gb183, 1, none⟩ (.int .u64 t180)).setCell ⟨gb184, 0, none⟩ (.int .u64 t181)).setCell ⟨gb184, 1, none⟩ (.int .u64 t182)).heap[gb176]? = some (.cells #[.int .u64 a0_0, .int .u64 a0_1] 24 (0, 0))) := ⟨by (with_reducible repeat (first | refine blk_drewN ?_ _ | refine blk_drew ?_ | refine blk_alloc ?_ _)); refine blk_far ?_ NB176_184.out _; (with_reducible repeat (first | refine blk_drewN ?_ _ | refine blk_drew ?_ | refine blk_alloc ?_ _)); refine blk_far ?_ NB176_184.out _; (with_reducible repeat (first | refine blk_drewN ?_ _ | refine blk_drew ?_ | refine blk_alloc ?_ _)); refine blk_far ?_ NB176_183.out _; (with_reducible repeat (first | refine blk_drewN ?_ _ | refine blk_drew ?_ | refine blk_alloc ?_ _)); refine blk_far ?_ NB176_183.out _; (with_reducible repeat (first | refine blk_drewN ?_ _ | refine blk_drew ?_ | refine blk_alloc ?_ _)); exact BK176.out⟩
                have n1_ : Aside0 (((((w42.setCell ⟨gb183, 0, none⟩ (.int .u64 t179)).setCell ⟨gb183, 1, none⟩ (.int .u64 t180)).setCell ⟨gb184, 0, none⟩ (.int .u64 t181)).setCell ⟨gb184, 1, none⟩ (.int .u64 t182)).heap[gb177]? = some (.cells #[.int .u64 a1_0, .int .u64 a1_1] 24 (0, 0))) := ⟨by (with_reducible repeat (first | refine blk_drewN ?_ _ | refine blk_drew ?_ | refine blk_alloc ?_ _)); refine blk_far ?_ NB177_184.out _; (with_reducible repeat (first | refine blk_drewN ?_ _ | refine blk_drew ?_ | refine blk_alloc ?_ _)); refine blk_far ?_ NB177_184.out _; (with_reducible repeat (first | refine blk_drewN ?_ _ | refine blk_drew ?_ | refine blk_alloc ?_ _)); refine blk_far ?_ NB177_183.out _; (with_reducible repeat (first | refine blk_drewN ?_ _ | refine blk_drew ?_ | refine blk_alloc ?_ _)); refine blk_far ?_ NB177_183.out _; (with_reducible repeat (first | refine blk_drewN ?_ _ | refine blk_drew ?_ | refine blk_alloc ?_ _)); exact BK177.out⟩
                have n2_ : Aside0 (((((w42.setCell ⟨gb183, 0, none⟩ (.int .u64 t179)).setCell ⟨gb183, 1, none⟩ (.int .u64 t180)).setCell ⟨gb184, 0, none⟩ (.int .u64 t181)).setCell ⟨gb184, 1, none⟩ (.int .u64 t182)).heap[gb178]? = some (.cells #[.int .u64 a2_0, .int .u64 a2_1] 24 (0, 0))) := ⟨by (with_reducible repeat (first | refine blk_drewN ?_ _ | refine blk_drew ?_ | refine blk_alloc ?_ _)); refine blk_far ?_ NB178_184.out _; (with_reducible repeat (first | refine blk_drewN ?_ _ | refine blk_drew ?_ | refine blk_alloc ?_ _)); refine blk_far ?_ NB178_184.out _; (with_reducible repeat (first | refine blk_drewN ?_ _ | refine blk_drew ?_ | refine blk_alloc ?_ _)); refine blk_far ?_ NB178_183.out _; (with_reducible repeat (first | refine blk_drewN ?_ _ | refine blk_drew ?_ | refine blk_alloc ?_ _)); refine blk_far ?_ NB178_183.out _; (with_reducible repeat (first | refine blk_drewN ?_ _ | refine blk_drew ?_ | refine blk_alloc ?_ _)); exact BK178.out⟩
                have n3_ : Aside0 (((((w42.setCell ⟨gb183, 0, none⟩ (.int .u64 t179)).setCell ⟨gb183, 1, none⟩ (.int .u64 t180)).setCell ⟨gb184, 0, none⟩ (.int .u64 t181)).setCell ⟨gb184, 1, none⟩ (.int .u64 t182)).heap[gb183]? = some (.cells #[.int .u64 t179, .int .u64 t180] 24 (0, 0))) := ⟨by (with_reducible repeat (first | refine blk_drewN ?_ _ | refine blk_drew ?_ | refine blk_alloc ?_ _)); refine blk_far ?_ NB183_184.out _; (with_reducible repeat (first | refine blk_drewN ?_ _ | refine blk_drew ?_ | refine blk_alloc ?_ _)); refine blk_far ?_ NB183_184.out _; (with_reducible repeat (first | refine blk_drewN ?_ _ | refine blk_drew ?_ | refine blk_alloc ?_ _)); refine blk_put (cs := #[.int .u64 t179, .int .u64 0]) ?_ 1 _ rfl; (with_reducible repeat (first | refine blk_drewN ?_ _ | refine blk_drew ?_ | refine blk_alloc ?_ _)); refine blk_put (cs := #[.int .u64 0, .int .u64 0]) ?_ 0 _ rfl; (with_reducible repeat (first | refine blk_drewN ?_ _ | refine blk_drew ?_ | refine blk_alloc ?_ _)); exact BK183.out⟩
                have n4_ : Aside0 (((((w42.setCell ⟨gb183, 0, none⟩ (.int .u64 t179)).setCell ⟨gb183, 1, none⟩ (.int .u64 t180)).setCell ⟨gb184, 0, none⟩ (.int .u64 t181)).setCell ⟨gb184, 1, none⟩ (.int .u64 t182)).heap[gb184]? = some (.cells #[.int .u64 t181, .int .u64 t182] 24 (0, 0))) := ⟨by (with_reducible repeat (first | refine blk_drewN ?_ _ | refine blk_drew ?_ | refine blk_alloc ?_ _)); refine blk_put (cs := #[.int .u64 t181, .int .u64 0]) ?_ 1 _ rfl; (with_reducible repeat (first | refine blk_drewN ?_ _ | refine blk_drew ?_ | refine blk_alloc ?_ _)); refine blk_put (cs := #[.int .u64 0, .int .u64 0]) ?_ 0 _ rfl; (with_reducible repeat (first | refine blk_drewN ?_ _ | refine blk_drew ?_ | refine blk_alloc ?_ _)); refine blk_far ?_ NB184_183.out _; (with_reducible repeat (first | refine blk_drewN ?_ _ | refine blk_drew ?_ | refine blk_alloc ?_ _)); refine blk_far ?_ NB184_183.out _; (with_reducible repeat (first | refine blk_drewN ?_ _ | refine blk_drew ?_ | refine blk_alloc ?_ _)); exact BK184.out⟩
                have n5_ : Aside0 (Below w.heap.size w ((((w42.setCell ⟨gb183, 0, none⟩ (.int .u64 t179)).setCell ⟨gb183, 1, none⟩ (.int .u64 t180)).setCell ⟨gb184, 0, none⟩ (.int .u64 t181)).setCell ⟨gb184, 1, none⟩ (.int .u64 t182))) := ⟨by repeat (first | (with_reducible first | exact HB.out | apply below_alloc | apply pw_below_drewN | apply below_drew1 | refine below_set ?_ GE176.out | refine below_set ?_ GE177.out | refine below_set ?_ GE178.out | refine below_set ?_ GE183.out | refine below_set ?_ GE184.out) | exact HB.out)⟩
                (try clear BK176); (try clear BK177); (try clear BK178); (try clear BK183); (try clear BK184); (try clear HB); generalize ((((w42.setCell ⟨gb183, 0, none⟩ (.int .u64 t179)).setCell ⟨gb183, 1, none⟩ (.int .u64 t180)).setCell ⟨gb184, 0, none⟩ (.int .u64 t181)).setCell ⟨gb184, 1, none⟩ (.int .u64 t182)) = w47 at n0_ n1_ n2_ n3_ n4_ n5_ ⊢; have BK176 := n0_; have BK177 := n1_; have BK178 := n2_; have BK183 := n3_; have BK184 := n4_; have HB := n5_; clear n0_ n1_ n2_ n3_ n4_ n5_; replace BK176 := Aside0.mk (blk_drew BK176.out); replace BK177 := Aside0.mk (blk_drew BK177.out); replace BK178 := Aside0.mk (blk_drew BK178.out); replace BK183 := Aside0.mk (blk_drew BK183.out); replace BK184 := Aside0.mk (blk_drew BK184.out); replace HB := Aside0.mk (below_drew1 HB.out)
                refine start_ (n := 71) (S := fun w' => w'.cell? ⟨gb176, 0, none⟩ = some (.int .u64 a0_0) ∧ w'.cell? ⟨gb176, 1, none⟩ = some (.int .u64 a0_1) ∧ w'.cell? ⟨gb177, 0, none⟩ = some (.int .u64 a1_0) ∧ w'.cell? ⟨gb177, 1, none⟩ = some (.int .u64 a1_1) ∧ w'.cell? ⟨gb183, 0, none⟩ = some (.int .u64 t179) ∧ w'.cell? ⟨gb183, 1, none⟩ = some (.int .u64 t180) ∧ w'.cell? ⟨gb184, 0, none⟩ = some (.int .u64 t181) ∧ w'.cell? ⟨gb184, 1, none⟩ = some (.int .u64 t182) ∧ w'.cell? ⟨gb178, 0, none⟩ = some (.int .u64 a2_0) ∧ w'.cell? ⟨gb178, 1, none⟩ = some (.int .u64 a2_1)) (ds := []) #[false, false, false, false, false, false, false, false, false, false, false, false, false, false, false, false, false, false, false, false, false, false, false, false, false, false, false, false, false, false, false, false, false, false, false, false, false, false, false, false, false, false, false, false, false, false, false, false, false, false, false, false, false, false, false, false, false, false, false, false, false, false, false, false, false, false, false, false, false, false, false] (by kernel_rfl) rfl rfl ⟨(blk_cell BK176.out 0).trans rfl, (blk_cell BK176.out 1).trans rfl, (blk_cell BK177.out 0).trans rfl, (blk_cell BK177.out 1).trans rfl, (blk_cell BK183.out 0).trans rfl, (blk_cell BK183.out 1).trans rfl, (blk_cell BK184.out 0).trans rfl, (blk_cell BK184.out 1).trans rfl, (blk_cell BK178.out 0).trans rfl, (blk_cell BK178.out 1).trans rfl⟩ (fun hHeld => ?_); refine with_tabW turnoutlaw01_WordLogic.tab2 turnoutlaw01_WordLogic.bits2 (fun HT_ HW_ => ?_)
                generalize w47.drew = w48 at BK176 BK177 BK178 BK183 BK184 HB hHeld ⊢
                refine one_ (i := 0) (N := some 15) #[true, false, false, false, false, false, false, false, false, false, false, false, false, false, false, false, false, false, false, false, false, false, false, false, false, false, false, false, false, false, false, false, false, false, false, false, false, false, false, false, false, false, false, false, false, false, false, false, false, false, false, false, false, false, false, false, false, false, false, false, false, false, false, false, false, false, false, false, false, false, false] rfl rfl (one_of HT_.out (by kernel_rfl)) (by decide) (fun K hK => ?_)
                refine goes_ Try.func20 (by kernel_rfl) rfl #[] (by rfl) rfl rfl (by (try simp only [List.map_toArray, List.map_cons, List.map_nil]); first | done | rfl | (simp only [List.length_drop, List.length_take]; rfl)) ?_
                with_reducible refine (turnoutlaw01_awake.calls k  true _ A6.out ⟨HAW20.out _ _ A6.out⟩).mono ?_
                rintro e w49 ⟨rfl, hb⟩
                refine ⟨_, rfl, ?_⟩
                have n0_ := Aside0.mk (blk_below (bkA BK176.out) hb); have n1_ := Aside0.mk (blk_below (bkA BK177.out) hb); have n2_ := Aside0.mk (blk_below (bkA BK178.out) hb); have n3_ := Aside0.mk (blk_below (bkA BK183.out) hb); have n4_ := Aside0.mk (blk_below (bkA BK184.out) hb)
                have n5_ := Aside0.mk (below_step (by repeat (first | (with_reducible first | exact HB.out | apply below_alloc | apply pw_below_drewN | apply below_drew1 | refine below_set ?_ GE176.out | refine below_set ?_ GE177.out | refine below_set ?_ GE178.out | refine below_set ?_ GE183.out | refine below_set ?_ GE184.out) | exact HB.out)) hb)
                clear BK176; clear BK177; clear BK178; clear BK183; clear BK184; clear HB; have BK176 := n0_; have BK177 := n1_; have BK178 := n2_; have BK183 := n3_; have BK184 := n4_; have HB := n5_; clear n0_ n1_ n2_ n3_ n4_ n5_; (try clear hb); (try clear hb2); (try clear hk); (try clear hi)
                refine hK.out _ _ ⟨(blk_cell BK176.out 0).trans rfl, (blk_cell BK176.out 1).trans rfl, (blk_cell BK177.out 0).trans rfl, (blk_cell BK177.out 1).trans rfl, (blk_cell BK183.out 0).trans rfl, (blk_cell BK183.out 1).trans rfl, (blk_cell BK184.out 0).trans rfl, (blk_cell BK184.out 1).trans rfl, (blk_cell BK178.out 0).trans rfl, (blk_cell BK178.out 1).trans rfl⟩ (fun hHeld => ?_)
                clear hK K
                refine norm_ (a' := ?_) ?_ ?_
                rotate_left
                · show Act.put _ (some 15) _ = _
                  simp only [Act.put, List.setIfInBounds_toArray, List.set_cons_zero, List.set_cons_succ, i64_w, i32_w]
                  rfl
                refine pure_ (i := 1) (N := some 16) (v := ?_) (a' := ?_) #[true, true, false, false, false, false, false, false, false, false, false, false, false, false, false, false, false, false, false, false, false, false, false, false, false, false, false, false, false, false, false, false, false, false, false, false, false, false, false, false, false, false, false, false, false, false, false, false, false, false, false, false, false, false, false, false, false, false, false, false, false, false, false, false, false, false, false, false, false, false, false] rfl rfl (any_of HT_.out (by kernel_rfl)) (fun _ _ _ h => h) (Or.inl ⟨by rfl, ?_⟩) ?_ ?_
                rotate_left
                · intro w'
                  go_simp
                  with_reducible rfl
                rotate_left
                · simp only [Act.put, List.setIfInBounds_toArray, List.set_cons_zero, List.set_cons_succ, i64_w, i32_w]
                  rfl
                refine take_ (i := 2) (N := some 17) (v := ?_) (a' := ?_) #[true, true, true, false, false, false, false, false, false, false, false, false, false, false, false, false, false, false, false, false, false, false, false, false, false, false, false, false, false, false, false, false, false, false, false, false, false, false, false, false, false, false, false, false, false, false, false, false, false, false, false, false, false, false, false, false, false, false, false, false, false, false, false, false, false, false, false, false, false, false, false] rfl rfl (take_ofW HT_.out HW_.out (by kernel_rfl)) (fun _ _ _ h => h) (Or.inl ⟨by rfl, ?_⟩) hHeld ?_ ?_
                rotate_left
                · rintro w' ⟨s0, s1, s2, s3, s4, s5, s6, s7, s8, s9⟩
                  go_simp
                  with_reducible rfl
                rotate_left
                · simp only [Act.put, List.setIfInBounds_toArray, List.set_cons_zero, List.set_cons_succ, i64_w, i32_w]
                  rfl
                refine take_ (i := 3) (N := some 18) (v := ?_) (a' := ?_) #[true, true, true, true, false, false, false, false, false, false, false, false, false, false, false, false, false, false, false, false, false, false, false, false, false, false, false, false, false, false, false, false, false, false, false, false, false, false, false, false, false, false, false, false, false, false, false, false, false, false, false, false, false, false, false, false, false, false, false, false, false, false, false, false, false, false, false, false, false, false, false] rfl rfl (take_ofW HT_.out HW_.out (by kernel_rfl)) (fun _ _ _ h => h) (Or.inl ⟨by rfl, ?_⟩) hHeld ?_ ?_
                rotate_left
                · rintro w' ⟨s0, s1, s2, s3, s4, s5, s6, s7, s8, s9⟩
                  go_simp
                  with_reducible rfl
                rotate_left
                · simp only [Act.put, List.setIfInBounds_toArray, List.set_cons_zero, List.set_cons_succ, i64_w, i32_w]
                  rfl
                refine take_ (i := 5) (N := some 20) (v := ?_) (a' := ?_) #[true, true, true, true, false, true, false, false, false, false, false, false, false, false, false, false, false, false, false, false, false, false, false, false, false, false, false, false, false, false, false, false, false, false, false, false, false, false, false, false, false, false, false, false, false, false, false, false, false, false, false, false, false, false, false, false, false, false, false, false, false, false, false, false, false, false, false, false, false, false, false] rfl rfl (take_ofW HT_.out HW_.out (by kernel_rfl)) (fun _ _ _ h => h) (Or.inl ⟨by rfl, ?_⟩) hHeld ?_ ?_
                rotate_left
                · rintro w' ⟨s0, s1, s2, s3, s4, s5, s6, s7, s8, s9⟩
                  go_simp
                  with_reducible rfl
                rotate_left
                · simp only [Act.put, List.setIfInBounds_toArray, List.set_cons_zero, List.set_cons_succ, i64_w, i32_w]
                  rfl
                refine take_ (i := 6) (N := some 21) (v := ?_) (a' := ?_) #[true, true, true, true, false, true, true, false, false, false, false, false, false, false, false, false, false, false, false, false, false, false, false, false, false, false, false, false, false, false, false, false, false, false, false, false, false, false, false, false, false, false, false, false, false, false, false, false, false, false, false, false, false, false, false, false, false, false, false, false, false, false, false, false, false, false, false, false, false, false, false] rfl rfl (take_ofW HT_.out HW_.out (by kernel_rfl)) (fun _ _ _ h => h) (Or.inl ⟨by rfl, ?_⟩) hHeld ?_ ?_
                rotate_left
                · rintro w' ⟨s0, s1, s2, s3, s4, s5, s6, s7, s8, s9⟩
                  go_simp
                  with_reducible rfl
                rotate_left
                · simp only [Act.put, List.setIfInBounds_toArray, List.set_cons_zero, List.set_cons_succ, i64_w, i32_w]
                  rfl
                refine one_ (i := 4) (N := some 19) #[true, true, true, true, true, true, true, false, false, false, false, false, false, false, false, false, false, false, false, false, false, false, false, false, false, false, false, false, false, false, false, false, false, false, false, false, false, false, false, false, false, false, false, false, false, false, false, false, false, false, false, false, false, false, false, false, false, false, false, false, false, false, false, false, false, false, false, false, false, false, false] rfl rfl (one_of HT_.out (by kernel_rfl)) (by decide) (fun K hK => ?_)
                refine goes_ Try.func16 (by kernel_rfl) rfl #[.agg #[.int .u64 a0_0, .int .u64 a0_1], .agg #[.int .u64 a1_0, .int .u64 a1_1]] (by rfl) rfl rfl (by (try simp only [List.map_toArray, List.map_cons, List.map_nil]); first | done | rfl | (simp only [List.length_drop, List.length_take]; rfl)) ?_
                with_reducible refine (word_Add.calls a0_0 a0_1 a1_0 a1_1 t186 t187 _ A8.out).mono ?_
                rintro e w50 ⟨rfl, hb⟩
                refine ⟨_, rfl, ?_⟩
                have n0_ := Aside0.mk (blk_below (bkA BK176.out) hb); have n1_ := Aside0.mk (blk_below (bkA BK177.out) hb); have n2_ := Aside0.mk (blk_below (bkA BK178.out) hb); have n3_ := Aside0.mk (blk_below (bkA BK183.out) hb); have n4_ := Aside0.mk (blk_below (bkA BK184.out) hb)
                have n5_ := Aside0.mk (below_step (by repeat (first | (with_reducible first | exact HB.out | apply below_alloc | apply pw_below_drewN | apply below_drew1 | refine below_set ?_ GE176.out | refine below_set ?_ GE177.out | refine below_set ?_ GE178.out | refine below_set ?_ GE183.out | refine below_set ?_ GE184.out) | exact HB.out)) hb)
                clear BK176; clear BK177; clear BK178; clear BK183; clear BK184; clear HB; have BK176 := n0_; have BK177 := n1_; have BK178 := n2_; have BK183 := n3_; have BK184 := n4_; have HB := n5_; clear n0_ n1_ n2_ n3_ n4_ n5_; (try clear hb); (try clear hb2); (try clear hk); (try clear hi)
                refine hK.out _ _ ⟨(blk_cell BK176.out 0).trans rfl, (blk_cell BK176.out 1).trans rfl, (blk_cell BK177.out 0).trans rfl, (blk_cell BK177.out 1).trans rfl, (blk_cell BK183.out 0).trans rfl, (blk_cell BK183.out 1).trans rfl, (blk_cell BK184.out 0).trans rfl, (blk_cell BK184.out 1).trans rfl, (blk_cell BK178.out 0).trans rfl, (blk_cell BK178.out 1).trans rfl⟩ (fun hHeld => ?_)
                clear hK K
                refine norm_ (a' := ?_) ?_ ?_
                rotate_left
                · show Act.put _ (some 19) _ = _
                  simp only [Act.put, List.setIfInBounds_toArray, List.set_cons_zero, List.set_cons_succ, i64_w, i32_w]
                  rfl
                refine one_ (i := 7) (N := some 22) #[true, true, true, true, true, true, true, true, false, false, false, false, false, false, false, false, false, false, false, false, false, false, false, false, false, false, false, false, false, false, false, false, false, false, false, false, false, false, false, false, false, false, false, false, false, false, false, false, false, false, false, false, false, false, false, false, false, false, false, false, false, false, false, false, false, false, false, false, false, false, false] rfl rfl (one_of HT_.out (by kernel_rfl)) (by decide) (fun K hK => ?_)
                refine goes_ Try.func30 (by kernel_rfl) rfl #[.agg #[.int .u64 t181, .int .u64 t182], .int .i64 1] (by rfl) rfl rfl (by (try simp only [List.map_toArray, List.map_cons, List.map_nil]); first | done | rfl | (simp only [List.length_drop, List.length_take]; rfl)) ?_
                with_reducible refine (word_Left.calls t181 t182 1 t188 t189 _ A9.out).mono ?_
                rintro e w51 ⟨rfl, hb⟩
                refine ⟨_, rfl, ?_⟩
                have n0_ := Aside0.mk (blk_below (bkA BK176.out) hb); have n1_ := Aside0.mk (blk_below (bkA BK177.out) hb); have n2_ := Aside0.mk (blk_below (bkA BK178.out) hb); have n3_ := Aside0.mk (blk_below (bkA BK183.out) hb); have n4_ := Aside0.mk (blk_below (bkA BK184.out) hb)
                have n5_ := Aside0.mk (below_step (by repeat (first | (with_reducible first | exact HB.out | apply below_alloc | apply pw_below_drewN | apply below_drew1 | refine below_set ?_ GE176.out | refine below_set ?_ GE177.out | refine below_set ?_ GE178.out | refine below_set ?_ GE183.out | refine below_set ?_ GE184.out) | exact HB.out)) hb)
                clear BK176; clear BK177; clear BK178; clear BK183; clear BK184; clear HB; have BK176 := n0_; have BK177 := n1_; have BK178 := n2_; have BK183 := n3_; have BK184 := n4_; have HB := n5_; clear n0_ n1_ n2_ n3_ n4_ n5_; (try clear hb); (try clear hb2); (try clear hk); (try clear hi)
                refine hK.out _ _ ⟨(blk_cell BK176.out 0).trans rfl, (blk_cell BK176.out 1).trans rfl, (blk_cell BK177.out 0).trans rfl, (blk_cell BK177.out 1).trans rfl, (blk_cell BK183.out 0).trans rfl, (blk_cell BK183.out 1).trans rfl, (blk_cell BK184.out 0).trans rfl, (blk_cell BK184.out 1).trans rfl, (blk_cell BK178.out 0).trans rfl, (blk_cell BK178.out 1).trans rfl⟩ (fun hHeld => ?_)
                clear hK K
                refine norm_ (a' := ?_) ?_ ?_
                rotate_left
                · show Act.put _ (some 22) _ = _
                  simp only [Act.put, List.setIfInBounds_toArray, List.set_cons_zero, List.set_cons_succ, i64_w, i32_w]
                  rfl
                refine one_ (i := 8) (N := some 23) #[true, true, true, true, true, true, true, true, true, false, false, false, false, false, false, false, false, false, false, false, false, false, false, false, false, false, false, false, false, false, false, false, false, false, false, false, false, false, false, false, false, false, false, false, false, false, false, false, false, false, false, false, false, false, false, false, false, false, false, false, false, false, false, false, false, false, false, false, false, false, false] rfl rfl (one_of HT_.out (by kernel_rfl)) (by decide) (fun K hK => ?_)
                refine goes_ Try.func16 (by kernel_rfl) rfl #[.agg #[.int .u64 t179, .int .u64 t180], .agg #[.int .u64 t188, .int .u64 t189]] (by rfl) rfl rfl (by (try simp only [List.map_toArray, List.map_cons, List.map_nil]); first | done | rfl | (simp only [List.length_drop, List.length_take]; rfl)) ?_
                with_reducible refine (word_Add.calls t179 t180 t188 t189 t190 t191 _ A10.out).mono ?_
                rintro e w52 ⟨rfl, hb⟩
                refine ⟨_, rfl, ?_⟩
                have n0_ := Aside0.mk (blk_below (bkA BK176.out) hb); have n1_ := Aside0.mk (blk_below (bkA BK177.out) hb); have n2_ := Aside0.mk (blk_below (bkA BK178.out) hb); have n3_ := Aside0.mk (blk_below (bkA BK183.out) hb); have n4_ := Aside0.mk (blk_below (bkA BK184.out) hb)
                have n5_ := Aside0.mk (below_step (by repeat (first | (with_reducible first | exact HB.out | apply below_alloc | apply pw_below_drewN | apply below_drew1 | refine below_set ?_ GE176.out | refine below_set ?_ GE177.out | refine below_set ?_ GE178.out | refine below_set ?_ GE183.out | refine below_set ?_ GE184.out) | exact HB.out)) hb)
                clear BK176; clear BK177; clear BK178; clear BK183; clear BK184; clear HB; have BK176 := n0_; have BK177 := n1_; have BK178 := n2_; have BK183 := n3_; have BK184 := n4_; have HB := n5_; clear n0_ n1_ n2_ n3_ n4_ n5_; (try clear hb); (try clear hb2); (try clear hk); (try clear hi)
                refine hK.out _ _ ⟨(blk_cell BK176.out 0).trans rfl, (blk_cell BK176.out 1).trans rfl, (blk_cell BK177.out 0).trans rfl, (blk_cell BK177.out 1).trans rfl, (blk_cell BK183.out 0).trans rfl, (blk_cell BK183.out 1).trans rfl, (blk_cell BK184.out 0).trans rfl, (blk_cell BK184.out 1).trans rfl, (blk_cell BK178.out 0).trans rfl, (blk_cell BK178.out 1).trans rfl⟩ (fun hHeld => ?_)
                clear hK K
                refine norm_ (a' := ?_) ?_ ?_
                rotate_left
                · show Act.put _ (some 23) _ = _
                  simp only [Act.put, List.setIfInBounds_toArray, List.set_cons_zero, List.set_cons_succ, i64_w, i32_w]
                  rfl
                refine pure_ (i := 9) (N := some 24) (v := ?_) (a' := ?_) #[true, true, true, true, true, true, true, true, true, true, false, false, false, false, false, false, false, false, false, false, false, false, false, false, false, false, false, false, false, false, false, false, false, false, false, false, false, false, false, false, false, false, false, false, false, false, false, false, false, false, false, false, false, false, false, false, false, false, false, false, false, false, false, false, false, false, false, false, false, false, false] rfl rfl (any_of HT_.out (by kernel_rfl)) (fun _ _ _ h => h) (Or.inl ⟨by rfl, ?_⟩) ?_ ?_
                rotate_left
                · intro w'
                  go_simp
                  with_reducible rfl
                rotate_left
                · simp only [Act.put, List.setIfInBounds_toArray, List.set_cons_zero, List.set_cons_succ, i64_w, i32_w]
                  rfl
                refine pure_ (i := 10) (N := some 25) (v := ?_) (a' := ?_) #[true, true, true, true, true, true, true, true, true, true, true, false, false, false, false, false, false, false, false, false, false, false, false, false, false, false, false, false, false, false, false, false, false, false, false, false, false, false, false, false, false, false, false, false, false, false, false, false, false, false, false, false, false, false, false, false, false, false, false, false, false, false, false, false, false, false, false, false, false, false, false] rfl rfl (any_of HT_.out (by kernel_rfl)) (fun _ _ _ h => h) (Or.inl ⟨by rfl, ?_⟩) ?_ ?_
                rotate_left
                · intro w'
                  go_simp
                  with_reducible rfl
                rotate_left
                · simp only [Act.put, List.setIfInBounds_toArray, List.set_cons_zero, List.set_cons_succ, i64_w, i32_w]
                  rfl
                refine pure_ (i := 11) (N := some 26) (v := ?_) (a' := ?_) #[true, true, true, true, true, true, true, true, true, true, true, true, false, false, false, false, false, false, false, false, false, false, false, false, false, false, false, false, false, false, false, false, false, false, false, false, false, false, false, false, false, false, false, false, false, false, false, false, false, false, false, false, false, false, false, false, false, false, false, false, false, false, false, false, false, false, false, false, false, false, false] rfl rfl (any_of HT_.out (by kernel_rfl)) (fun _ _ _ h => h) (Or.inl ⟨by rfl, ?_⟩) ?_ ?_
                rotate_left
                · intro w'
                  go_simp
                  with_reducible rfl
                rotate_left
                · simp only [Act.put, List.setIfInBounds_toArray, List.set_cons_zero, List.set_cons_succ, i64_w, i32_w]
                  rfl
                refine take_ (i := 12) (N := some 27) (v := ?_) (a' := ?_) #[true, true, true, true, true, true, true, true, true, true, true, true, true, false, false, false, false, false, false, false, false, false, false, false, false, false, false, false, false, false, false, false, false, false, false, false, false, false, false, false, false, false, false, false, false, false, false, false, false, false, false, false, false, false, false, false, false, false, false, false, false, false, false, false, false, false, false, false, false, false, false] rfl rfl (take_ofW HT_.out HW_.out (by kernel_rfl)) (fun _ _ _ h => h) (Or.inl ⟨by rfl, ?_⟩) hHeld ?_ ?_
                rotate_left
                · rintro w' ⟨s0, s1, s2, s3, s4, s5, s6, s7, s8, s9⟩
                  go_simp
                  with_reducible rfl
                rotate_left
                · simp only [Act.put, List.setIfInBounds_toArray, List.set_cons_zero, List.set_cons_succ, i64_w, i32_w]
                  rfl
                refine take_ (i := 13) (N := some 28) (v := ?_) (a' := ?_) #[true, true, true, true, true, true, true, true, true, true, true, true, true, true, false, false, false, false, false, false, false, false, false, false, false, false, false, false, false, false, false, false, false, false, false, false, false, false, false, false, false, false, false, false, false, false, false, false, false, false, false, false, false, false, false, false, false, false, false, false, false, false, false, false, false, false, false, false, false, false, false] rfl rfl (take_ofW HT_.out HW_.out (by kernel_rfl)) (fun _ _ _ h => h) (Or.inl ⟨by rfl, ?_⟩) hHeld ?_ ?_
                rotate_left
                · rintro w' ⟨s0, s1, s2, s3, s4, s5, s6, s7, s8, s9⟩
                  go_simp
                  with_reducible rfl
                rotate_left
                · simp only [Act.put, List.setIfInBounds_toArray, List.set_cons_zero, List.set_cons_succ, i64_w, i32_w]
                  rfl
                refine take_ (i := 15) (N := some 30) (v := ?_) (a' := ?_) #[true, true, true, true, true, true, true, true, true, true, true, true, true, true, false, true, false, false, false, false, false, false, false, false, false, false, false, false, false, false, false, false, false, false, false, false, false, false, false, false, false, false, false, false, false, false, false, false, false, false, false, false, false, false, false, false, false, false, false, false, false, false, false, false, false, false, false, false, false, false, false] rfl rfl (take_ofW HT_.out HW_.out (by kernel_rfl)) (fun _ _ _ h => h) (Or.inl ⟨by rfl, ?_⟩) hHeld ?_ ?_
                rotate_left
                · rintro w' ⟨s0, s1, s2, s3, s4, s5, s6, s7, s8, s9⟩
                  go_simp
                  with_reducible rfl
                rotate_left
                · simp only [Act.put, List.setIfInBounds_toArray, List.set_cons_zero, List.set_cons_succ, i64_w, i32_w]
                  rfl
                refine take_ (i := 16) (N := some 31) (v := ?_) (a' := ?_) #[true, true, true, true, true, true, true, true, true, true, true, true, true, true, false, true, true, false, false, false, false, false, false, false, false, false, false, false, false, false, false, false, false, false, false, false, false, false, false, false, false, false, false, false, false, false, false, false, false, false, false, false, false, false, false, false, false, false, false, false, false, false, false, false, false, false, false, false, false, false, false] rfl rfl (take_ofW HT_.out HW_.out (by kernel_rfl)) (fun _ _ _ h => h) (Or.inl ⟨by rfl, ?_⟩) hHeld ?_ ?_
                rotate_left
                · rintro w' ⟨s0, s1, s2, s3, s4, s5, s6, s7, s8, s9⟩
                  go_simp
                  with_reducible rfl
                rotate_left
                · simp only [Act.put, List.setIfInBounds_toArray, List.set_cons_zero, List.set_cons_succ, i64_w, i32_w]
                  rfl
                refine one_ (i := 14) (N := some 29) #[true, true, true, true, true, true, true, true, true, true, true, true, true, true, true, true, true, false, false, false, false, false, false, false, false, false, false, false, false, false, false, false, false, false, false, false, false, false, false, false, false, false, false, false, false, false, false, false, false, false, false, false, false, false, false, false, false, false, false, false, false, false, false, false, false, false, false, false, false, false, false] rfl rfl (one_of HT_.out (by kernel_rfl)) (by decide) (fun K hK => ?_)
                refine goes_ Try.func25 (by kernel_rfl) rfl #[.agg #[.int .u64 a0_0, .int .u64 a0_1], .agg #[.int .u64 a1_0, .int .u64 a1_1]] (by rfl) rfl rfl (by (try simp only [List.map_toArray, List.map_cons, List.map_nil]); first | done | rfl | (simp only [List.length_drop, List.length_take]; rfl)) ?_
                with_reducible refine (word_Or.calls a0_0 a0_1 a1_0 a1_1 t192 t193 _ A12.out).mono ?_
                rintro e w53 ⟨rfl, hb⟩
                refine ⟨_, rfl, ?_⟩
                have n0_ := Aside0.mk (blk_below (bkA BK176.out) hb); have n1_ := Aside0.mk (blk_below (bkA BK177.out) hb); have n2_ := Aside0.mk (blk_below (bkA BK178.out) hb); have n3_ := Aside0.mk (blk_below (bkA BK183.out) hb); have n4_ := Aside0.mk (blk_below (bkA BK184.out) hb)
                have n5_ := Aside0.mk (below_step (by repeat (first | (with_reducible first | exact HB.out | apply below_alloc | apply pw_below_drewN | apply below_drew1 | refine below_set ?_ GE176.out | refine below_set ?_ GE177.out | refine below_set ?_ GE178.out | refine below_set ?_ GE183.out | refine below_set ?_ GE184.out) | exact HB.out)) hb)
                clear BK176; clear BK177; clear BK178; clear BK183; clear BK184; clear HB; have BK176 := n0_; have BK177 := n1_; have BK178 := n2_; have BK183 := n3_; have BK184 := n4_; have HB := n5_; clear n0_ n1_ n2_ n3_ n4_ n5_; (try clear hb); (try clear hb2); (try clear hk); (try clear hi)
                refine hK.out _ _ ⟨(blk_cell BK176.out 0).trans rfl, (blk_cell BK176.out 1).trans rfl, (blk_cell BK177.out 0).trans rfl, (blk_cell BK177.out 1).trans rfl, (blk_cell BK183.out 0).trans rfl, (blk_cell BK183.out 1).trans rfl, (blk_cell BK184.out 0).trans rfl, (blk_cell BK184.out 1).trans rfl, (blk_cell BK178.out 0).trans rfl, (blk_cell BK178.out 1).trans rfl⟩ (fun hHeld => ?_)
                clear hK K
                refine norm_ (a' := ?_) ?_ ?_
                rotate_left
                · show Act.put _ (some 29) _ = _
                  simp only [Act.put, List.setIfInBounds_toArray, List.set_cons_zero, List.set_cons_succ, i64_w, i32_w]
                  rfl
                refine one_ (i := 17) (N := some 32) #[true, true, true, true, true, true, true, true, true, true, true, true, true, true, true, true, true, true, false, false, false, false, false, false, false, false, false, false, false, false, false, false, false, false, false, false, false, false, false, false, false, false, false, false, false, false, false, false, false, false, false, false, false, false, false, false, false, false, false, false, false, false, false, false, false, false, false, false, false, false, false] rfl rfl (one_of HT_.out (by kernel_rfl)) (by decide) (fun K hK => ?_)
                refine goes_ Try.func27 (by kernel_rfl) rfl #[.agg #[.int .u64 t179, .int .u64 t180], .agg #[.int .u64 t181, .int .u64 t182]] (by rfl) rfl rfl (by (try simp only [List.map_toArray, List.map_cons, List.map_nil]); first | done | rfl | (simp only [List.length_drop, List.length_take]; rfl)) ?_
                with_reducible refine (word_Xor.calls t179 t180 t181 t182 t194 t195 _ A13.out).mono ?_
                rintro e w54 ⟨rfl, hb⟩
                refine ⟨_, rfl, ?_⟩
                have n0_ := Aside0.mk (blk_below (bkA BK176.out) hb); have n1_ := Aside0.mk (blk_below (bkA BK177.out) hb); have n2_ := Aside0.mk (blk_below (bkA BK178.out) hb); have n3_ := Aside0.mk (blk_below (bkA BK183.out) hb); have n4_ := Aside0.mk (blk_below (bkA BK184.out) hb)
                have n5_ := Aside0.mk (below_step (by repeat (first | (with_reducible first | exact HB.out | apply below_alloc | apply pw_below_drewN | apply below_drew1 | refine below_set ?_ GE176.out | refine below_set ?_ GE177.out | refine below_set ?_ GE178.out | refine below_set ?_ GE183.out | refine below_set ?_ GE184.out) | exact HB.out)) hb)
                clear BK176; clear BK177; clear BK178; clear BK183; clear BK184; clear HB; have BK176 := n0_; have BK177 := n1_; have BK178 := n2_; have BK183 := n3_; have BK184 := n4_; have HB := n5_; clear n0_ n1_ n2_ n3_ n4_ n5_; (try clear hb); (try clear hb2); (try clear hk); (try clear hi)
                refine hK.out _ _ ⟨(blk_cell BK176.out 0).trans rfl, (blk_cell BK176.out 1).trans rfl, (blk_cell BK177.out 0).trans rfl, (blk_cell BK177.out 1).trans rfl, (blk_cell BK183.out 0).trans rfl, (blk_cell BK183.out 1).trans rfl, (blk_cell BK184.out 0).trans rfl, (blk_cell BK184.out 1).trans rfl, (blk_cell BK178.out 0).trans rfl, (blk_cell BK178.out 1).trans rfl⟩ (fun hHeld => ?_)
                clear hK K
                refine norm_ (a' := ?_) ?_ ?_
                rotate_left
                · show Act.put _ (some 32) _ = _
                  simp only [Act.put, List.setIfInBounds_toArray, List.set_cons_zero, List.set_cons_succ, i64_w, i32_w]
                  rfl
                refine pure_ (i := 18) (N := some 33) (v := ?_) (a' := ?_) #[true, true, true, true, true, true, true, true, true, true, true, true, true, true, true, true, true, true, true, false, false, false, false, false, false, false, false, false, false, false, false, false, false, false, false, false, false, false, false, false, false, false, false, false, false, false, false, false, false, false, false, false, false, false, false, false, false, false, false, false, false, false, false, false, false, false, false, false, false, false, false] rfl rfl (any_of HT_.out (by kernel_rfl)) (fun _ _ _ h => h) (Or.inl ⟨by rfl, ?_⟩) ?_ ?_
                rotate_left
                · intro w'
                  go_simp
                  with_reducible rfl
                rotate_left
                · simp only [Act.put, List.setIfInBounds_toArray, List.set_cons_zero, List.set_cons_succ, i64_w, i32_w]
                  rfl
                refine pure_ (i := 19) (N := some 34) (v := ?_) (a' := ?_) #[true, true, true, true, true, true, true, true, true, true, true, true, true, true, true, true, true, true, true, true, false, false, false, false, false, false, false, false, false, false, false, false, false, false, false, false, false, false, false, false, false, false, false, false, false, false, false, false, false, false, false, false, false, false, false, false, false, false, false, false, false, false, false, false, false, false, false, false, false, false, false] rfl rfl (any_of HT_.out (by kernel_rfl)) (fun _ _ _ h => h) (Or.inl ⟨by rfl, ?_⟩) ?_ ?_
                rotate_left
                · intro w'
                  go_simp
                  with_reducible rfl
                rotate_left
                · simp only [Act.put, List.setIfInBounds_toArray, List.set_cons_zero, List.set_cons_succ, i64_w, i32_w]
                  rfl
                refine pure_ (i := 20) (N := some 35) (v := ?_) (a' := ?_) #[true, true, true, true, true, true, true, true, true, true, true, true, true, true, true, true, true, true, true, true, true, false, false, false, false, false, false, false, false, false, false, false, false, false, false, false, false, false, false, false, false, false, false, false, false, false, false, false, false, false, false, false, false, false, false, false, false, false, false, false, false, false, false, false, false, false, false, false, false, false, false] rfl rfl (any_of HT_.out (by kernel_rfl)) (fun _ _ _ h => h) (Or.inl ⟨by rfl, ?_⟩) ?_ ?_
                rotate_left
                · intro w'
                  go_simp
                  with_reducible rfl
                rotate_left
                · simp only [Act.put, List.setIfInBounds_toArray, List.set_cons_zero, List.set_cons_succ, i64_w, i32_w]
                  rfl
                refine take_ (i := 21) (N := some 36) (v := ?_) (a' := ?_) #[true, true, true, true, true, true, true, true, true, true, true, true, true, true, true, true, true, true, true, true, true, true, false, false, false, false, false, false, false, false, false, false, false, false, false, false, false, false, false, false, false, false, false, false, false, false, false, false, false, false, false, false, false, false, false, false, false, false, false, false, false, false, false, false, false, false, false, false, false, false, false] rfl rfl (take_ofW HT_.out HW_.out (by kernel_rfl)) (fun _ _ _ h => h) (Or.inl ⟨by rfl, ?_⟩) hHeld ?_ ?_
                rotate_left
                · rintro w' ⟨s0, s1, s2, s3, s4, s5, s6, s7, s8, s9⟩
                  go_simp
                  with_reducible rfl
                rotate_left
                · simp only [Act.put, List.setIfInBounds_toArray, List.set_cons_zero, List.set_cons_succ, i64_w, i32_w]
                  rfl
                refine take_ (i := 23) (N := some 38) (v := ?_) (a' := ?_) #[true, true, true, true, true, true, true, true, true, true, true, true, true, true, true, true, true, true, true, true, true, true, false, true, false, false, false, false, false, false, false, false, false, false, false, false, false, false, false, false, false, false, false, false, false, false, false, false, false, false, false, false, false, false, false, false, false, false, false, false, false, false, false, false, false, false, false, false, false, false, false] rfl rfl (take_ofW HT_.out HW_.out (by kernel_rfl)) (fun _ _ _ h => h) (Or.inl ⟨by rfl, ?_⟩) hHeld ?_ ?_
                rotate_left
                · rintro w' ⟨s0, s1, s2, s3, s4, s5, s6, s7, s8, s9⟩
                  go_simp
                  with_reducible rfl
                rotate_left
                · simp only [Act.put, List.setIfInBounds_toArray, List.set_cons_zero, List.set_cons_succ, i64_w, i32_w]
                  rfl
                refine take_ (i := 25) (N := some 40) (v := ?_) (a' := ?_) #[true, true, true, true, true, true, true, true, true, true, true, true, true, true, true, true, true, true, true, true, true, true, false, true, false, true, false, false, false, false, false, false, false, false, false, false, false, false, false, false, false, false, false, false, false, false, false, false, false, false, false, false, false, false, false, false, false, false, false, false, false, false, false, false, false, false, false, false, false, false, false] rfl rfl (take_ofW HT_.out HW_.out (by kernel_rfl)) (fun _ _ _ h => h) (Or.inl ⟨by rfl, ?_⟩) hHeld ?_ ?_
                rotate_left
                · rintro w' ⟨s0, s1, s2, s3, s4, s5, s6, s7, s8, s9⟩
                  go_simp
                  with_reducible rfl
                rotate_left
                · simp only [Act.put, List.setIfInBounds_toArray, List.set_cons_zero, List.set_cons_succ, i64_w, i32_w]
                  rfl
                refine one_ (i := 22) (N := some 37) #[true, true, true, true, true, true, true, true, true, true, true, true, true, true, true, true, true, true, true, true, true, true, true, true, false, true, false, false, false, false, false, false, false, false, false, false, false, false, false, false, false, false, false, false, false, false, false, false, false, false, false, false, false, false, false, false, false, false, false, false, false, false, false, false, false, false, false, false, false, false, false] rfl rfl (one_of HT_.out (by kernel_rfl)) (by decide) (fun K hK => ?_)
                refine goes_ Try.func21 (by kernel_rfl) rfl #[.agg #[.int .u64 t181, .int .u64 t182]] (by rfl) rfl rfl (by (try simp only [List.map_toArray, List.map_cons, List.map_nil]); first | done | rfl | (simp only [List.length_drop, List.length_take]; rfl)) ?_
                with_reducible refine (word_Not.calls t181 t182 t196 t197 _ A15.out).mono ?_
                rintro e w55 ⟨rfl, hb⟩
                refine ⟨_, rfl, ?_⟩
                have n0_ := Aside0.mk (blk_below (bkA BK176.out) hb); have n1_ := Aside0.mk (blk_below (bkA BK177.out) hb); have n2_ := Aside0.mk (blk_below (bkA BK178.out) hb); have n3_ := Aside0.mk (blk_below (bkA BK183.out) hb); have n4_ := Aside0.mk (blk_below (bkA BK184.out) hb)
                have n5_ := Aside0.mk (below_step (by repeat (first | (with_reducible first | exact HB.out | apply below_alloc | apply pw_below_drewN | apply below_drew1 | refine below_set ?_ GE176.out | refine below_set ?_ GE177.out | refine below_set ?_ GE178.out | refine below_set ?_ GE183.out | refine below_set ?_ GE184.out) | exact HB.out)) hb)
                clear BK176; clear BK177; clear BK178; clear BK183; clear BK184; clear HB; have BK176 := n0_; have BK177 := n1_; have BK178 := n2_; have BK183 := n3_; have BK184 := n4_; have HB := n5_; clear n0_ n1_ n2_ n3_ n4_ n5_; (try clear hb); (try clear hb2); (try clear hk); (try clear hi)
                refine hK.out _ _ ⟨(blk_cell BK176.out 0).trans rfl, (blk_cell BK176.out 1).trans rfl, (blk_cell BK177.out 0).trans rfl, (blk_cell BK177.out 1).trans rfl, (blk_cell BK183.out 0).trans rfl, (blk_cell BK183.out 1).trans rfl, (blk_cell BK184.out 0).trans rfl, (blk_cell BK184.out 1).trans rfl, (blk_cell BK178.out 0).trans rfl, (blk_cell BK178.out 1).trans rfl⟩ (fun hHeld => ?_)
                clear hK K
                refine norm_ (a' := ?_) ?_ ?_
                rotate_left
                · show Act.put _ (some 37) _ = _
                  simp only [Act.put, List.setIfInBounds_toArray, List.set_cons_zero, List.set_cons_succ, i64_w, i32_w]
                  rfl
                refine one_ (i := 24) (N := some 39) #[true, true, true, true, true, true, true, true, true, true, true, true, true, true, true, true, true, true, true, true, true, true, true, true, true, true, false, false, false, false, false, false, false, false, false, false, false, false, false, false, false, false, false, false, false, false, false, false, false, false, false, false, false, false, false, false, false, false, false, false, false, false, false, false, false, false, false, false, false, false, false] rfl rfl (one_of HT_.out (by kernel_rfl)) (by decide) (fun K hK => ?_)
                refine goes_ Try.func21 (by kernel_rfl) rfl #[.agg #[.int .u64 a0_0, .int .u64 a0_1]] (by rfl) rfl rfl (by (try simp only [List.map_toArray, List.map_cons, List.map_nil]); first | done | rfl | (simp only [List.length_drop, List.length_take]; rfl)) ?_
                with_reducible refine (word_Not.calls a0_0 a0_1 t198 t199 _ A16.out).mono ?_
                rintro e w56 ⟨rfl, hb⟩
                refine ⟨_, rfl, ?_⟩
                have n0_ := Aside0.mk (blk_below (bkA BK176.out) hb); have n1_ := Aside0.mk (blk_below (bkA BK177.out) hb); have n2_ := Aside0.mk (blk_below (bkA BK178.out) hb); have n3_ := Aside0.mk (blk_below (bkA BK183.out) hb); have n4_ := Aside0.mk (blk_below (bkA BK184.out) hb)
                have n5_ := Aside0.mk (below_step (by repeat (first | (with_reducible first | exact HB.out | apply below_alloc | apply pw_below_drewN | apply below_drew1 | refine below_set ?_ GE176.out | refine below_set ?_ GE177.out | refine below_set ?_ GE178.out | refine below_set ?_ GE183.out | refine below_set ?_ GE184.out) | exact HB.out)) hb)
                clear BK176; clear BK177; clear BK178; clear BK183; clear BK184; clear HB; have BK176 := n0_; have BK177 := n1_; have BK178 := n2_; have BK183 := n3_; have BK184 := n4_; have HB := n5_; clear n0_ n1_ n2_ n3_ n4_ n5_; (try clear hb); (try clear hb2); (try clear hk); (try clear hi)
                refine hK.out _ _ ⟨(blk_cell BK176.out 0).trans rfl, (blk_cell BK176.out 1).trans rfl, (blk_cell BK177.out 0).trans rfl, (blk_cell BK177.out 1).trans rfl, (blk_cell BK183.out 0).trans rfl, (blk_cell BK183.out 1).trans rfl, (blk_cell BK184.out 0).trans rfl, (blk_cell BK184.out 1).trans rfl, (blk_cell BK178.out 0).trans rfl, (blk_cell BK178.out 1).trans rfl⟩ (fun hHeld => ?_)
                clear hK K
                refine norm_ (a' := ?_) ?_ ?_
                rotate_left
                · show Act.put _ (some 39) _ = _
                  simp only [Act.put, List.setIfInBounds_toArray, List.set_cons_zero, List.set_cons_succ, i64_w, i32_w]
                  rfl
                refine one_ (i := 26) (N := some 41) #[true, true, true, true, true, true, true, true, true, true, true, true, true, true, true, true, true, true, true, true, true, true, true, true, true, true, true, false, false, false, false, false, false, false, false, false, false, false, false, false, false, false, false, false, false, false, false, false, false, false, false, false, false, false, false, false, false, false, false, false, false, false, false, false, false, false, false, false, false, false, false] rfl rfl (one_of HT_.out (by kernel_rfl)) (by decide) (fun K hK => ?_)
                refine goes_ Try.func21 (by kernel_rfl) rfl #[.agg #[.int .u64 a1_0, .int .u64 a1_1]] (by rfl) rfl rfl (by (try simp only [List.map_toArray, List.map_cons, List.map_nil]); first | done | rfl | (simp only [List.length_drop, List.length_take]; rfl)) ?_
                with_reducible refine (word_Not.calls a1_0 a1_1 t200 t201 _ A17.out).mono ?_
                rintro e w57 ⟨rfl, hb⟩
                refine ⟨_, rfl, ?_⟩
                have n0_ := Aside0.mk (blk_below (bkA BK176.out) hb); have n1_ := Aside0.mk (blk_below (bkA BK177.out) hb); have n2_ := Aside0.mk (blk_below (bkA BK178.out) hb); have n3_ := Aside0.mk (blk_below (bkA BK183.out) hb); have n4_ := Aside0.mk (blk_below (bkA BK184.out) hb)
                have n5_ := Aside0.mk (below_step (by repeat (first | (with_reducible first | exact HB.out | apply below_alloc | apply pw_below_drewN | apply below_drew1 | refine below_set ?_ GE176.out | refine below_set ?_ GE177.out | refine below_set ?_ GE178.out | refine below_set ?_ GE183.out | refine below_set ?_ GE184.out) | exact HB.out)) hb)
                clear BK176; clear BK177; clear BK178; clear BK183; clear BK184; clear HB; have BK176 := n0_; have BK177 := n1_; have BK178 := n2_; have BK183 := n3_; have BK184 := n4_; have HB := n5_; clear n0_ n1_ n2_ n3_ n4_ n5_; (try clear hb); (try clear hb2); (try clear hk); (try clear hi)
                refine hK.out _ _ ⟨(blk_cell BK176.out 0).trans rfl, (blk_cell BK176.out 1).trans rfl, (blk_cell BK177.out 0).trans rfl, (blk_cell BK177.out 1).trans rfl, (blk_cell BK183.out 0).trans rfl, (blk_cell BK183.out 1).trans rfl, (blk_cell BK184.out 0).trans rfl, (blk_cell BK184.out 1).trans rfl, (blk_cell BK178.out 0).trans rfl, (blk_cell BK178.out 1).trans rfl⟩ (fun hHeld => ?_)
                clear hK K
                refine norm_ (a' := ?_) ?_ ?_
                rotate_left
                · show Act.put _ (some 41) _ = _
                  simp only [Act.put, List.setIfInBounds_toArray, List.set_cons_zero, List.set_cons_succ, i64_w, i32_w]
                  rfl
                refine one_ (i := 27) (N := some 42) #[true, true, true, true, true, true, true, true, true, true, true, true, true, true, true, true, true, true, true, true, true, true, true, true, true, true, true, true, false, false, false, false, false, false, false, false, false, false, false, false, false, false, false, false, false, false, false, false, false, false, false, false, false, false, false, false, false, false, false, false, false, false, false, false, false, false, false, false, false, false, false] rfl rfl (one_of HT_.out (by kernel_rfl)) (by decide) (fun K hK => ?_)
                refine goes_ Try.func25 (by kernel_rfl) rfl #[.agg #[.int .u64 t198, .int .u64 t199], .agg #[.int .u64 t200, .int .u64 t201]] (by rfl) rfl rfl (by (try simp only [List.map_toArray, List.map_cons, List.map_nil]); first | done | rfl | (simp only [List.length_drop, List.length_take]; rfl)) ?_
                with_reducible refine (word_Or.calls t198 t199 t200 t201 t202 t203 _ A18.out).mono ?_
                rintro e w58 ⟨rfl, hb⟩
                refine ⟨_, rfl, ?_⟩
                have n0_ := Aside0.mk (blk_below (bkA BK176.out) hb); have n1_ := Aside0.mk (blk_below (bkA BK177.out) hb); have n2_ := Aside0.mk (blk_below (bkA BK178.out) hb); have n3_ := Aside0.mk (blk_below (bkA BK183.out) hb); have n4_ := Aside0.mk (blk_below (bkA BK184.out) hb)
                have n5_ := Aside0.mk (below_step (by repeat (first | (with_reducible first | exact HB.out | apply below_alloc | apply pw_below_drewN | apply below_drew1 | refine below_set ?_ GE176.out | refine below_set ?_ GE177.out | refine below_set ?_ GE178.out | refine below_set ?_ GE183.out | refine below_set ?_ GE184.out) | exact HB.out)) hb)
                clear BK176; clear BK177; clear BK178; clear BK183; clear BK184; clear HB; have BK176 := n0_; have BK177 := n1_; have BK178 := n2_; have BK183 := n3_; have BK184 := n4_; have HB := n5_; clear n0_ n1_ n2_ n3_ n4_ n5_; (try clear hb); (try clear hb2); (try clear hk); (try clear hi)
                refine hK.out _ _ ⟨(blk_cell BK176.out 0).trans rfl, (blk_cell BK176.out 1).trans rfl, (blk_cell BK177.out 0).trans rfl, (blk_cell BK177.out 1).trans rfl, (blk_cell BK183.out 0).trans rfl, (blk_cell BK183.out 1).trans rfl, (blk_cell BK184.out 0).trans rfl, (blk_cell BK184.out 1).trans rfl, (blk_cell BK178.out 0).trans rfl, (blk_cell BK178.out 1).trans rfl⟩ (fun hHeld => ?_)
                clear hK K
                refine norm_ (a' := ?_) ?_ ?_
                rotate_left
                · show Act.put _ (some 42) _ = _
                  simp only [Act.put, List.setIfInBounds_toArray, List.set_cons_zero, List.set_cons_succ, i64_w, i32_w]
                  rfl
                refine pure_ (i := 28) (N := some 43) (v := ?_) (a' := ?_) #[true, true, true, true, true, true, true, true, true, true, true, true, true, true, true, true, true, true, true, true, true, true, true, true, true, true, true, true, true, false, false, false, false, false, false, false, false, false, false, false, false, false, false, false, false, false, false, false, false, false, false, false, false, false, false, false, false, false, false, false, false, false, false, false, false, false, false, false, false, false, false] rfl rfl (any_of HT_.out (by kernel_rfl)) (fun _ _ _ h => h) (Or.inl ⟨by rfl, ?_⟩) ?_ ?_
                rotate_left
                · intro w'
                  go_simp
                  with_reducible rfl
                rotate_left
                · simp only [Act.put, List.setIfInBounds_toArray, List.set_cons_zero, List.set_cons_succ, i64_w, i32_w]
                  rfl
                refine pure_ (i := 29) (N := some 44) (v := ?_) (a' := ?_) #[true, true, true, true, true, true, true, true, true, true, true, true, true, true, true, true, true, true, true, true, true, true, true, true, true, true, true, true, true, true, false, false, false, false, false, false, false, false, false, false, false, false, false, false, false, false, false, false, false, false, false, false, false, false, false, false, false, false, false, false, false, false, false, false, false, false, false, false, false, false, false] rfl rfl (any_of HT_.out (by kernel_rfl)) (fun _ _ _ h => h) (Or.inl ⟨by rfl, ?_⟩) ?_ ?_
                rotate_left
                · intro w'
                  go_simp
                  with_reducible rfl
                rotate_left
                · simp only [Act.put, List.setIfInBounds_toArray, List.set_cons_zero, List.set_cons_succ, i64_w, i32_w]
                  rfl
                refine pure_ (i := 30) (N := some 45) (v := ?_) (a' := ?_) #[true, true, true, true, true, true, true, true, true, true, true, true, true, true, true, true, true, true, true, true, true, true, true, true, true, true, true, true, true, true, true, false, false, false, false, false, false, false, false, false, false, false, false, false, false, false, false, false, false, false, false, false, false, false, false, false, false, false, false, false, false, false, false, false, false, false, false, false, false, false, false] rfl rfl (any_of HT_.out (by kernel_rfl)) (fun _ _ _ h => h) (Or.inl ⟨by rfl, ?_⟩) ?_ ?_
                rotate_left
                · intro w'
                  go_simp
                  with_reducible rfl
                rotate_left
                · simp only [Act.put, List.setIfInBounds_toArray, List.set_cons_zero, List.set_cons_succ, i64_w, i32_w]
                  rfl
                refine take_ (i := 31) (N := some 46) (v := ?_) (a' := ?_) #[true, true, true, true, true, true, true, true, true, true, true, true, true, true, true, true, true, true, true, true, true, true, true, true, true, true, true, true, true, true, true, true, false, false, false, false, false, false, false, false, false, false, false, false, false, false, false, false, false, false, false, false, false, false, false, false, false, false, false, false, false, false, false, false, false, false, false, false, false, false, false] rfl rfl (take_ofW HT_.out HW_.out (by kernel_rfl)) (fun _ _ _ h => h) (Or.inl ⟨by rfl, ?_⟩) hHeld ?_ ?_
                rotate_left
                · rintro w' ⟨s0, s1, s2, s3, s4, s5, s6, s7, s8, s9⟩
                  go_simp
                  with_reducible rfl
                rotate_left
                · simp only [Act.put, List.setIfInBounds_toArray, List.set_cons_zero, List.set_cons_succ, i64_w, i32_w]
                  rfl
                refine take_ (i := 32) (N := some 47) (v := ?_) (a' := ?_) #[true, true, true, true, true, true, true, true, true, true, true, true, true, true, true, true, true, true, true, true, true, true, true, true, true, true, true, true, true, true, true, true, true, false, false, false, false, false, false, false, false, false, false, false, false, false, false, false, false, false, false, false, false, false, false, false, false, false, false, false, false, false, false, false, false, false, false, false, false, false, false] rfl rfl (take_ofW HT_.out HW_.out (by kernel_rfl)) (fun _ _ _ h => h) (Or.inl ⟨by rfl, ?_⟩) hHeld ?_ ?_
                rotate_left
                · rintro w' ⟨s0, s1, s2, s3, s4, s5, s6, s7, s8, s9⟩
                  go_simp
                  with_reducible rfl
                rotate_left
                · simp only [Act.put, List.setIfInBounds_toArray, List.set_cons_zero, List.set_cons_succ, i64_w, i32_w]
                  rfl
                refine take_ (i := 34) (N := some 49) (v := ?_) (a' := ?_) #[true, true, true, true, true, true, true, true, true, true, true, true, true, true, true, true, true, true, true, true, true, true, true, true, true, true, true, true, true, true, true, true, true, false, true, false, false, false, false, false, false, false, false, false, false, false, false, false, false, false, false, false, false, false, false, false, false, false, false, false, false, false, false, false, false, false, false, false, false, false, false] rfl rfl (take_ofW HT_.out HW_.out (by kernel_rfl)) (fun _ _ _ h => h) (Or.inl ⟨by rfl, ?_⟩) hHeld ?_ ?_
                rotate_left
                · rintro w' ⟨s0, s1, s2, s3, s4, s5, s6, s7, s8, s9⟩
                  go_simp
                  with_reducible rfl
                rotate_left
                · simp only [Act.put, List.setIfInBounds_toArray, List.set_cons_zero, List.set_cons_succ, i64_w, i32_w]
                  rfl
                refine one_ (i := 33) (N := some 48) #[true, true, true, true, true, true, true, true, true, true, true, true, true, true, true, true, true, true, true, true, true, true, true, true, true, true, true, true, true, true, true, true, true, true, true, false, false, false, false, false, false, false, false, false, false, false, false, false, false, false, false, false, false, false, false, false, false, false, false, false, false, false, false, false, false, false, false, false, false, false, false] rfl rfl (one_of HT_.out (by kernel_rfl)) (by decide) (fun K hK => ?_)
                refine goes_ Try.func27 (by kernel_rfl) rfl #[.agg #[.int .u64 t179, .int .u64 t180], .agg #[.int .u64 a1_0, .int .u64 a1_1]] (by rfl) rfl rfl (by (try simp only [List.map_toArray, List.map_cons, List.map_nil]); first | done | rfl | (simp only [List.length_drop, List.length_take]; rfl)) ?_
                with_reducible refine (word_Xor.calls t179 t180 a1_0 a1_1 t204 t205 _ A20.out).mono ?_
                rintro e w59 ⟨rfl, hb⟩
                refine ⟨_, rfl, ?_⟩
                have n0_ := Aside0.mk (blk_below (bkA BK176.out) hb); have n1_ := Aside0.mk (blk_below (bkA BK177.out) hb); have n2_ := Aside0.mk (blk_below (bkA BK178.out) hb); have n3_ := Aside0.mk (blk_below (bkA BK183.out) hb); have n4_ := Aside0.mk (blk_below (bkA BK184.out) hb)
                have n5_ := Aside0.mk (below_step (by repeat (first | (with_reducible first | exact HB.out | apply below_alloc | apply pw_below_drewN | apply below_drew1 | refine below_set ?_ GE176.out | refine below_set ?_ GE177.out | refine below_set ?_ GE178.out | refine below_set ?_ GE183.out | refine below_set ?_ GE184.out) | exact HB.out)) hb)
                clear BK176; clear BK177; clear BK178; clear BK183; clear BK184; clear HB; have BK176 := n0_; have BK177 := n1_; have BK178 := n2_; have BK183 := n3_; have BK184 := n4_; have HB := n5_; clear n0_ n1_ n2_ n3_ n4_ n5_; (try clear hb); (try clear hb2); (try clear hk); (try clear hi)
                refine hK.out _ _ ⟨(blk_cell BK176.out 0).trans rfl, (blk_cell BK176.out 1).trans rfl, (blk_cell BK177.out 0).trans rfl, (blk_cell BK177.out 1).trans rfl, (blk_cell BK183.out 0).trans rfl, (blk_cell BK183.out 1).trans rfl, (blk_cell BK184.out 0).trans rfl, (blk_cell BK184.out 1).trans rfl, (blk_cell BK178.out 0).trans rfl, (blk_cell BK178.out 1).trans rfl⟩ (fun hHeld => ?_)
                clear hK K
                refine norm_ (a' := ?_) ?_ ?_
                rotate_left
                · show Act.put _ (some 48) _ = _
                  simp only [Act.put, List.setIfInBounds_toArray, List.set_cons_zero, List.set_cons_succ, i64_w, i32_w]
                  rfl
                refine pure_ (i := 35) (N := some 50) (v := ?_) (a' := ?_) #[true, true, true, true, true, true, true, true, true, true, true, true, true, true, true, true, true, true, true, true, true, true, true, true, true, true, true, true, true, true, true, true, true, true, true, true, false, false, false, false, false, false, false, false, false, false, false, false, false, false, false, false, false, false, false, false, false, false, false, false, false, false, false, false, false, false, false, false, false, false, false] rfl rfl (any_of HT_.out (by kernel_rfl)) (fun _ _ _ h => h) (Or.inl ⟨by rfl, ?_⟩) ?_ ?_
                rotate_left
                · intro w'
                  go_simp
                  with_reducible rfl
                rotate_left
                · simp only [Act.put, List.setIfInBounds_toArray, List.set_cons_zero, List.set_cons_succ, i64_w, i32_w]
                  rfl
                refine pure_ (i := 36) (N := some 51) (v := ?_) (a' := ?_) #[true, true, true, true, true, true, true, true, true, true, true, true, true, true, true, true, true, true, true, true, true, true, true, true, true, true, true, true, true, true, true, true, true, true, true, true, true, false, false, false, false, false, false, false, false, false, false, false, false, false, false, false, false, false, false, false, false, false, false, false, false, false, false, false, false, false, false, false, false, false, false] rfl rfl (any_of HT_.out (by kernel_rfl)) (fun _ _ _ h => h) (Or.inl ⟨by rfl, ?_⟩) ?_ ?_
                rotate_left
                · intro w'
                  go_simp
                  with_reducible rfl
                rotate_left
                · simp only [Act.put, List.setIfInBounds_toArray, List.set_cons_zero, List.set_cons_succ, i64_w, i32_w]
                  rfl
                refine pure_ (i := 37) (N := some 52) (v := ?_) (a' := ?_) #[true, true, true, true, true, true, true, true, true, true, true, true, true, true, true, true, true, true, true, true, true, true, true, true, true, true, true, true, true, true, true, true, true, true, true, true, true, true, false, false, false, false, false, false, false, false, false, false, false, false, false, false, false, false, false, false, false, false, false, false, false, false, false, false, false, false, false, false, false, false, false] rfl rfl (any_of HT_.out (by kernel_rfl)) (fun _ _ _ h => h) (Or.inl ⟨by rfl, ?_⟩) ?_ ?_
                rotate_left
                · intro w'
                  go_simp
                  with_reducible rfl
                rotate_left
                · simp only [Act.put, List.setIfInBounds_toArray, List.set_cons_zero, List.set_cons_succ, i64_w, i32_w]
                  rfl
                refine take_ (i := 38) (N := some 53) (v := ?_) (a' := ?_) #[true, true, true, true, true, true, true, true, true, true, true, true, true, true, true, true, true, true, true, true, true, true, true, true, true, true, true, true, true, true, true, true, true, true, true, true, true, true, true, false, false, false, false, false, false, false, false, false, false, false, false, false, false, false, false, false, false, false, false, false, false, false, false, false, false, false, false, false, false, false, false] rfl rfl (take_ofW HT_.out HW_.out (by kernel_rfl)) (fun _ _ _ h => h) (Or.inl ⟨by rfl, ?_⟩) hHeld ?_ ?_
                rotate_left
                · rintro w' ⟨s0, s1, s2, s3, s4, s5, s6, s7, s8, s9⟩
                  go_simp
                  with_reducible rfl
                rotate_left
                · simp only [Act.put, List.setIfInBounds_toArray, List.set_cons_zero, List.set_cons_succ, i64_w, i32_w]
                  rfl
                refine take_ (i := 39) (N := some 54) (v := ?_) (a' := ?_) #[true, true, true, true, true, true, true, true, true, true, true, true, true, true, true, true, true, true, true, true, true, true, true, true, true, true, true, true, true, true, true, true, true, true, true, true, true, true, true, true, false, false, false, false, false, false, false, false, false, false, false, false, false, false, false, false, false, false, false, false, false, false, false, false, false, false, false, false, false, false, false] rfl rfl (take_ofW HT_.out HW_.out (by kernel_rfl)) (fun _ _ _ h => h) (Or.inl ⟨by rfl, ?_⟩) hHeld ?_ ?_
                rotate_left
                · rintro w' ⟨s0, s1, s2, s3, s4, s5, s6, s7, s8, s9⟩
                  go_simp
                  with_reducible rfl
                rotate_left
                · simp only [Act.put, List.setIfInBounds_toArray, List.set_cons_zero, List.set_cons_succ, i64_w, i32_w]
                  rfl
                refine take_ (i := 40) (N := some 55) (v := ?_) (a' := ?_) #[true, true, true, true, true, true, true, true, true, true, true, true, true, true, true, true, true, true, true, true, true, true, true, true, true, true, true, true, true, true, true, true, true, true, true, true, true, true, true, true, true, false, false, false, false, false, false, false, false, false, false, false, false, false, false, false, false, false, false, false, false, false, false, false, false, false, false, false, false, false, false] rfl rfl (take_ofW HT_.out HW_.out (by kernel_rfl)) (fun _ _ _ h => h) (Or.inl ⟨by rfl, ?_⟩) hHeld ?_ ?_
                rotate_left
                · rintro w' ⟨s0, s1, s2, s3, s4, s5, s6, s7, s8, s9⟩
                  go_simp
                  with_reducible rfl
                rotate_left
                · simp only [Act.put, List.setIfInBounds_toArray, List.set_cons_zero, List.set_cons_succ, i64_w, i32_w]
                  rfl
                refine take_ (i := 43) (N := some 58) (v := ?_) (a' := ?_) #[true, true, true, true, true, true, true, true, true, true, true, true, true, true, true, true, true, true, true, true, true, true, true, true, true, true, true, true, true, true, true, true, true, true, true, true, true, true, true, true, true, false, false, true, false, false, false, false, false, false, false, false, false, false, false, false, false, false, false, false, false, false, false, false, false, false, false, false, false, false, false] rfl rfl (take_ofW HT_.out HW_.out (by kernel_rfl)) (fun _ _ _ h => h) (Or.inl ⟨by rfl, ?_⟩) hHeld ?_ ?_
                rotate_left
                · rintro w' ⟨s0, s1, s2, s3, s4, s5, s6, s7, s8, s9⟩
                  go_simp
                  with_reducible rfl
                rotate_left
                · simp only [Act.put, List.setIfInBounds_toArray, List.set_cons_zero, List.set_cons_succ, i64_w, i32_w]
                  rfl
                refine take_ (i := 44) (N := some 59) (v := ?_) (a' := ?_) #[true, true, true, true, true, true, true, true, true, true, true, true, true, true, true, true, true, true, true, true, true, true, true, true, true, true, true, true, true, true, true, true, true, true, true, true, true, true, true, true, true, false, false, true, true, false, false, false, false, false, false, false, false, false, false, false, false, false, false, false, false, false, false, false, false, false, false, false, false, false, false] rfl rfl (take_ofW HT_.out HW_.out (by kernel_rfl)) (fun _ _ _ h => h) (Or.inl ⟨by rfl, ?_⟩) hHeld ?_ ?_
                rotate_left
                · rintro w' ⟨s0, s1, s2, s3, s4, s5, s6, s7, s8, s9⟩
                  go_simp
                  with_reducible rfl
                rotate_left
                · simp only [Act.put, List.setIfInBounds_toArray, List.set_cons_zero, List.set_cons_succ, i64_w, i32_w]
                  rfl
                refine take_ (i := 45) (N := some 60) (v := ?_) (a' := ?_) #[true, true, true, true, true, true, true, true, true, true, true, true, true, true, true, true, true, true, true, true, true, true, true, true, true, true, true, true, true, true, true, true, true, true, true, true, true, true, true, true, true, false, false, true, true, true, false, false, false, false, false, false, false, false, false, false, false, false, false, false, false, false, false, false, false, false, false, false, false, false, false] rfl rfl (take_ofW HT_.out HW_.out (by kernel_rfl)) (fun _ _ _ h => h) (Or.inl ⟨by rfl, ?_⟩) hHeld ?_ ?_
                rotate_left
                · rintro w' ⟨s0, s1, s2, s3, s4, s5, s6, s7, s8, s9⟩
                  go_simp
                  with_reducible rfl
                rotate_left
                · simp only [Act.put, List.setIfInBounds_toArray, List.set_cons_zero, List.set_cons_succ, i64_w, i32_w]
                  rfl
                refine one_ (i := 41) (N := some 56) #[true, true, true, true, true, true, true, true, true, true, true, true, true, true, true, true, true, true, true, true, true, true, true, true, true, true, true, true, true, true, true, true, true, true, true, true, true, true, true, true, true, true, false, true, true, true, false, false, false, false, false, false, false, false, false, false, false, false, false, false, false, false, false, false, false, false, false, false, false, false, false] rfl rfl (one_of HT_.out (by kernel_rfl)) (by decide) (fun K hK => ?_)
                refine goes_ Try.func25 (by kernel_rfl) rfl #[.agg #[.int .u64 a1_0, .int .u64 a1_1], .agg #[.int .u64 a2_0, .int .u64 a2_1]] (by rfl) rfl rfl (by (try simp only [List.map_toArray, List.map_cons, List.map_nil]); first | done | rfl | (simp only [List.length_drop, List.length_take]; rfl)) ?_
                with_reducible refine (word_Or.calls a1_0 a1_1 a2_0 a2_1 t206 t207 _ A22.out).mono ?_
                rintro e w60 ⟨rfl, hb⟩
                refine ⟨_, rfl, ?_⟩
                have n0_ := Aside0.mk (blk_below (bkA BK176.out) hb); have n1_ := Aside0.mk (blk_below (bkA BK177.out) hb); have n2_ := Aside0.mk (blk_below (bkA BK178.out) hb); have n3_ := Aside0.mk (blk_below (bkA BK183.out) hb); have n4_ := Aside0.mk (blk_below (bkA BK184.out) hb)
                have n5_ := Aside0.mk (below_step (by repeat (first | (with_reducible first | exact HB.out | apply below_alloc | apply pw_below_drewN | apply below_drew1 | refine below_set ?_ GE176.out | refine below_set ?_ GE177.out | refine below_set ?_ GE178.out | refine below_set ?_ GE183.out | refine below_set ?_ GE184.out) | exact HB.out)) hb)
                clear BK176; clear BK177; clear BK178; clear BK183; clear BK184; clear HB; have BK176 := n0_; have BK177 := n1_; have BK178 := n2_; have BK183 := n3_; have BK184 := n4_; have HB := n5_; clear n0_ n1_ n2_ n3_ n4_ n5_; (try clear hb); (try clear hb2); (try clear hk); (try clear hi)
                refine hK.out _ _ ⟨(blk_cell BK176.out 0).trans rfl, (blk_cell BK176.out 1).trans rfl, (blk_cell BK177.out 0).trans rfl, (blk_cell BK177.out 1).trans rfl, (blk_cell BK183.out 0).trans rfl, (blk_cell BK183.out 1).trans rfl, (blk_cell BK184.out 0).trans rfl, (blk_cell BK184.out 1).trans rfl, (blk_cell BK178.out 0).trans rfl, (blk_cell BK178.out 1).trans rfl⟩ (fun hHeld => ?_)
                clear hK K
                refine norm_ (a' := ?_) ?_ ?_
                rotate_left
                · show Act.put _ (some 56) _ = _
                  simp only [Act.put, List.setIfInBounds_toArray, List.set_cons_zero, List.set_cons_succ, i64_w, i32_w]
                  rfl
                refine one_ (i := 42) (N := some 57) #[true, true, true, true, true, true, true, true, true, true, true, true, true, true, true, true, true, true, true, true, true, true, true, true, true, true, true, true, true, true, true, true, true, true, true, true, true, true, true, true, true, true, true, true, true, true, false, false, false, false, false, false, false, false, false, false, false, false, false, false, false, false, false, false, false, false, false, false, false, false, false] rfl rfl (one_of HT_.out (by kernel_rfl)) (by decide) (fun K hK => ?_)
                refine goes_ Try.func23 (by kernel_rfl) rfl #[.agg #[.int .u64 a0_0, .int .u64 a0_1], .agg #[.int .u64 t206, .int .u64 t207]] (by rfl) rfl rfl (by (try simp only [List.map_toArray, List.map_cons, List.map_nil]); first | done | rfl | (simp only [List.length_drop, List.length_take]; rfl)) ?_
                with_reducible refine (word_And.calls a0_0 a0_1 t206 t207 t208 t209 _ A23.out).mono ?_
                rintro e w61 ⟨rfl, hb⟩
                refine ⟨_, rfl, ?_⟩
                have n0_ := Aside0.mk (blk_below (bkA BK176.out) hb); have n1_ := Aside0.mk (blk_below (bkA BK177.out) hb); have n2_ := Aside0.mk (blk_below (bkA BK178.out) hb); have n3_ := Aside0.mk (blk_below (bkA BK183.out) hb); have n4_ := Aside0.mk (blk_below (bkA BK184.out) hb)
                have n5_ := Aside0.mk (below_step (by repeat (first | (with_reducible first | exact HB.out | apply below_alloc | apply pw_below_drewN | apply below_drew1 | refine below_set ?_ GE176.out | refine below_set ?_ GE177.out | refine below_set ?_ GE178.out | refine below_set ?_ GE183.out | refine below_set ?_ GE184.out) | exact HB.out)) hb)
                clear BK176; clear BK177; clear BK178; clear BK183; clear BK184; clear HB; have BK176 := n0_; have BK177 := n1_; have BK178 := n2_; have BK183 := n3_; have BK184 := n4_; have HB := n5_; clear n0_ n1_ n2_ n3_ n4_ n5_; (try clear hb); (try clear hb2); (try clear hk); (try clear hi)
                refine hK.out _ _ ⟨(blk_cell BK176.out 0).trans rfl, (blk_cell BK176.out 1).trans rfl, (blk_cell BK177.out 0).trans rfl, (blk_cell BK177.out 1).trans rfl, (blk_cell BK183.out 0).trans rfl, (blk_cell BK183.out 1).trans rfl, (blk_cell BK184.out 0).trans rfl, (blk_cell BK184.out 1).trans rfl, (blk_cell BK178.out 0).trans rfl, (blk_cell BK178.out 1).trans rfl⟩ (fun hHeld => ?_)
                clear hK K
                refine norm_ (a' := ?_) ?_ ?_
                rotate_left
                · show Act.put _ (some 57) _ = _
                  simp only [Act.put, List.setIfInBounds_toArray, List.set_cons_zero, List.set_cons_succ, i64_w, i32_w]
                  rfl
                refine one_ (i := 46) (N := some 61) #[true, true, true, true, true, true, true, true, true, true, true, true, true, true, true, true, true, true, true, true, true, true, true, true, true, true, true, true, true, true, true, true, true, true, true, true, true, true, true, true, true, true, true, true, true, true, true, false, false, false, false, false, false, false, false, false, false, false, false, false, false, false, false, false, false, false, false, false, false, false, false] rfl rfl (one_of HT_.out (by kernel_rfl)) (by decide) (fun K hK => ?_)
                refine goes_ Try.func23 (by kernel_rfl) rfl #[.agg #[.int .u64 a0_0, .int .u64 a0_1], .agg #[.int .u64 a2_0, .int .u64 a2_1]] (by rfl) rfl rfl (by (try simp only [List.map_toArray, List.map_cons, List.map_nil]); first | done | rfl | (simp only [List.length_drop, List.length_take]; rfl)) ?_
                with_reducible refine (word_And.calls a0_0 a0_1 a2_0 a2_1 t210 t211 _ A24.out).mono ?_
                rintro e w62 ⟨rfl, hb⟩
                refine ⟨_, rfl, ?_⟩
                have n0_ := Aside0.mk (blk_below (bkA BK176.out) hb); have n1_ := Aside0.mk (blk_below (bkA BK177.out) hb); have n2_ := Aside0.mk (blk_below (bkA BK178.out) hb); have n3_ := Aside0.mk (blk_below (bkA BK183.out) hb); have n4_ := Aside0.mk (blk_below (bkA BK184.out) hb)
                have n5_ := Aside0.mk (below_step (by repeat (first | (with_reducible first | exact HB.out | apply below_alloc | apply pw_below_drewN | apply below_drew1 | refine below_set ?_ GE176.out | refine below_set ?_ GE177.out | refine below_set ?_ GE178.out | refine below_set ?_ GE183.out | refine below_set ?_ GE184.out) | exact HB.out)) hb)
                clear BK176; clear BK177; clear BK178; clear BK183; clear BK184; clear HB; have BK176 := n0_; have BK177 := n1_; have BK178 := n2_; have BK183 := n3_; have BK184 := n4_; have HB := n5_; clear n0_ n1_ n2_ n3_ n4_ n5_; (try clear hb); (try clear hb2); (try clear hk); (try clear hi)
                refine hK.out _ _ ⟨(blk_cell BK176.out 0).trans rfl, (blk_cell BK176.out 1).trans rfl, (blk_cell BK177.out 0).trans rfl, (blk_cell BK177.out 1).trans rfl, (blk_cell BK183.out 0).trans rfl, (blk_cell BK183.out 1).trans rfl, (blk_cell BK184.out 0).trans rfl, (blk_cell BK184.out 1).trans rfl, (blk_cell BK178.out 0).trans rfl, (blk_cell BK178.out 1).trans rfl⟩ (fun hHeld => ?_)
                clear hK K
                refine norm_ (a' := ?_) ?_ ?_
                rotate_left
                · show Act.put _ (some 61) _ = _
                  simp only [Act.put, List.setIfInBounds_toArray, List.set_cons_zero, List.set_cons_succ, i64_w, i32_w]
                  rfl
                refine one_ (i := 47) (N := some 62) #[true, true, true, true, true, true, true, true, true, true, true, true, true, true, true, true, true, true, true, true, true, true, true, true, true, true, true, true, true, true, true, true, true, true, true, true, true, true, true, true, true, true, true, true, true, true, true, true, false, false, false, false, false, false, false, false, false, false, false, false, false, false, false, false, false, false, false, false, false, false, false] rfl rfl (one_of HT_.out (by kernel_rfl)) (by decide) (fun K hK => ?_)
                refine goes_ Try.func25 (by kernel_rfl) rfl #[.agg #[.int .u64 t181, .int .u64 t182], .agg #[.int .u64 t210, .int .u64 t211]] (by rfl) rfl rfl (by (try simp only [List.map_toArray, List.map_cons, List.map_nil]); first | done | rfl | (simp only [List.length_drop, List.length_take]; rfl)) ?_
                with_reducible refine (word_Or.calls t181 t182 t210 t211 t212 t213 _ A25.out).mono ?_
                rintro e w63 ⟨rfl, hb⟩
                refine ⟨_, rfl, ?_⟩
                have n0_ := Aside0.mk (blk_below (bkA BK176.out) hb); have n1_ := Aside0.mk (blk_below (bkA BK177.out) hb); have n2_ := Aside0.mk (blk_below (bkA BK178.out) hb); have n3_ := Aside0.mk (blk_below (bkA BK183.out) hb); have n4_ := Aside0.mk (blk_below (bkA BK184.out) hb)
                have n5_ := Aside0.mk (below_step (by repeat (first | (with_reducible first | exact HB.out | apply below_alloc | apply pw_below_drewN | apply below_drew1 | refine below_set ?_ GE176.out | refine below_set ?_ GE177.out | refine below_set ?_ GE178.out | refine below_set ?_ GE183.out | refine below_set ?_ GE184.out) | exact HB.out)) hb)
                clear BK176; clear BK177; clear BK178; clear BK183; clear BK184; clear HB; have BK176 := n0_; have BK177 := n1_; have BK178 := n2_; have BK183 := n3_; have BK184 := n4_; have HB := n5_; clear n0_ n1_ n2_ n3_ n4_ n5_; (try clear hb); (try clear hb2); (try clear hk); (try clear hi)
                refine hK.out _ _ ⟨(blk_cell BK176.out 0).trans rfl, (blk_cell BK176.out 1).trans rfl, (blk_cell BK177.out 0).trans rfl, (blk_cell BK177.out 1).trans rfl, (blk_cell BK183.out 0).trans rfl, (blk_cell BK183.out 1).trans rfl, (blk_cell BK184.out 0).trans rfl, (blk_cell BK184.out 1).trans rfl, (blk_cell BK178.out 0).trans rfl, (blk_cell BK178.out 1).trans rfl⟩ (fun hHeld => ?_)
                clear hK K
                refine norm_ (a' := ?_) ?_ ?_
                rotate_left
                · show Act.put _ (some 62) _ = _
                  simp only [Act.put, List.setIfInBounds_toArray, List.set_cons_zero, List.set_cons_succ, i64_w, i32_w]
                  rfl
                refine pure_ (i := 48) (N := some 63) (v := ?_) (a' := ?_) #[true, true, true, true, true, true, true, true, true, true, true, true, true, true, true, true, true, true, true, true, true, true, true, true, true, true, true, true, true, true, true, true, true, true, true, true, true, true, true, true, true, true, true, true, true, true, true, true, true, false, false, false, false, false, false, false, false, false, false, false, false, false, false, false, false, false, false, false, false, false, false] rfl rfl (any_of HT_.out (by kernel_rfl)) (fun _ _ _ h => h) (Or.inl ⟨by rfl, ?_⟩) ?_ ?_
                rotate_left
                · intro w'
                  go_simp
                  with_reducible rfl
                rotate_left
                · simp only [Act.put, List.setIfInBounds_toArray, List.set_cons_zero, List.set_cons_succ, i64_w, i32_w]
                  rfl
                refine pure_ (i := 49) (N := some 64) (v := ?_) (a' := ?_) #[true, true, true, true, true, true, true, true, true, true, true, true, true, true, true, true, true, true, true, true, true, true, true, true, true, true, true, true, true, true, true, true, true, true, true, true, true, true, true, true, true, true, true, true, true, true, true, true, true, true, false, false, false, false, false, false, false, false, false, false, false, false, false, false, false, false, false, false, false, false, false] rfl rfl (any_of HT_.out (by kernel_rfl)) (fun _ _ _ h => h) (Or.inl ⟨by rfl, ?_⟩) ?_ ?_
                rotate_left
                · intro w'
                  go_simp
                  with_reducible rfl
                rotate_left
                · simp only [Act.put, List.setIfInBounds_toArray, List.set_cons_zero, List.set_cons_succ, i64_w, i32_w]
                  rfl
                refine pure_ (i := 50) (N := some 65) (v := ?_) (a' := ?_) #[true, true, true, true, true, true, true, true, true, true, true, true, true, true, true, true, true, true, true, true, true, true, true, true, true, true, true, true, true, true, true, true, true, true, true, true, true, true, true, true, true, true, true, true, true, true, true, true, true, true, true, false, false, false, false, false, false, false, false, false, false, false, false, false, false, false, false, false, false, false, false] rfl rfl (any_of HT_.out (by kernel_rfl)) (fun _ _ _ h => h) (Or.inl ⟨by rfl, ?_⟩) ?_ ?_
                rotate_left
                · intro w'
                  go_simp
                  with_reducible rfl
                rotate_left
                · simp only [Act.put, List.setIfInBounds_toArray, List.set_cons_zero, List.set_cons_succ, i64_w, i32_w]
                  rfl
                refine take_ (i := 51) (N := some 66) (v := ?_) (a' := ?_) #[true, true, true, true, true, true, true, true, true, true, true, true, true, true, true, true, true, true, true, true, true, true, true, true, true, true, true, true, true, true, true, true, true, true, true, true, true, true, true, true, true, true, true, true, true, true, true, true, true, true, true, true, false, false, false, false, false, false, false, false, false, false, false, false, false, false, false, false, false, false, false] rfl rfl (take_ofW HT_.out HW_.out (by kernel_rfl)) (fun _ _ _ h => h) (Or.inl ⟨by rfl, ?_⟩) hHeld ?_ ?_
                rotate_left
                · rintro w' ⟨s0, s1, s2, s3, s4, s5, s6, s7, s8, s9⟩
                  go_simp
                  with_reducible rfl
                rotate_left
                · simp only [Act.put, List.setIfInBounds_toArray, List.set_cons_zero, List.set_cons_succ, i64_w, i32_w]
                  rfl
                refine take_ (i := 52) (N := some 67) (v := ?_) (a' := ?_) #[true, true, true, true, true, true, true, true, true, true, true, true, true, true, true, true, true, true, true, true, true, true, true, true, true, true, true, true, true, true, true, true, true, true, true, true, true, true, true, true, true, true, true, true, true, true, true, true, true, true, true, true, true, false, false, false, false, false, false, false, false, false, false, false, false, false, false, false, false, false, false] rfl rfl (take_ofW HT_.out HW_.out (by kernel_rfl)) (fun _ _ _ h => h) (Or.inl ⟨by rfl, ?_⟩) hHeld ?_ ?_
                rotate_left
                · rintro w' ⟨s0, s1, s2, s3, s4, s5, s6, s7, s8, s9⟩
                  go_simp
                  with_reducible rfl
                rotate_left
                · simp only [Act.put, List.setIfInBounds_toArray, List.set_cons_zero, List.set_cons_succ, i64_w, i32_w]
                  rfl
                refine take_ (i := 54) (N := some 69) (v := ?_) (a' := ?_) #[true, true, true, true, true, true, true, true, true, true, true, true, true, true, true, true, true, true, true, true, true, true, true, true, true, true, true, true, true, true, true, true, true, true, true, true, true, true, true, true, true, true, true, true, true, true, true, true, true, true, true, true, true, false, true, false, false, false, false, false, false, false, false, false, false, false, false, false, false, false, false] rfl rfl (take_ofW HT_.out HW_.out (by kernel_rfl)) (fun _ _ _ h => h) (Or.inl ⟨by rfl, ?_⟩) hHeld ?_ ?_
                rotate_left
                · rintro w' ⟨s0, s1, s2, s3, s4, s5, s6, s7, s8, s9⟩
                  go_simp
                  with_reducible rfl
                rotate_left
                · simp only [Act.put, List.setIfInBounds_toArray, List.set_cons_zero, List.set_cons_succ, i64_w, i32_w]
                  rfl
                refine take_ (i := 56) (N := some 71) (v := ?_) (a' := ?_) #[true, true, true, true, true, true, true, true, true, true, true, true, true, true, true, true, true, true, true, true, true, true, true, true, true, true, true, true, true, true, true, true, true, true, true, true, true, true, true, true, true, true, true, true, true, true, true, true, true, true, true, true, true, false, true, false, true, false, false, false, false, false, false, false, false, false, false, false, false, false, false] rfl rfl (take_ofW HT_.out HW_.out (by kernel_rfl)) (fun _ _ _ h => h) (Or.inl ⟨by rfl, ?_⟩) hHeld ?_ ?_
                rotate_left
                · rintro w' ⟨s0, s1, s2, s3, s4, s5, s6, s7, s8, s9⟩
                  go_simp
                  with_reducible rfl
                rotate_left
                · simp only [Act.put, List.setIfInBounds_toArray, List.set_cons_zero, List.set_cons_succ, i64_w, i32_w]
                  rfl
                refine take_ (i := 57) (N := some 72) (v := ?_) (a' := ?_) #[true, true, true, true, true, true, true, true, true, true, true, true, true, true, true, true, true, true, true, true, true, true, true, true, true, true, true, true, true, true, true, true, true, true, true, true, true, true, true, true, true, true, true, true, true, true, true, true, true, true, true, true, true, false, true, false, true, true, false, false, false, false, false, false, false, false, false, false, false, false, false] rfl rfl (take_ofW HT_.out HW_.out (by kernel_rfl)) (fun _ _ _ h => h) (Or.inl ⟨by rfl, ?_⟩) hHeld ?_ ?_
                rotate_left
                · rintro w' ⟨s0, s1, s2, s3, s4, s5, s6, s7, s8, s9⟩
                  go_simp
                  with_reducible rfl
                rotate_left
                · simp only [Act.put, List.setIfInBounds_toArray, List.set_cons_zero, List.set_cons_succ, i64_w, i32_w]
                  rfl
                refine one_ (i := 53) (N := some 68) #[true, true, true, true, true, true, true, true, true, true, true, true, true, true, true, true, true, true, true, true, true, true, true, true, true, true, true, true, true, true, true, true, true, true, true, true, true, true, true, true, true, true, true, true, true, true, true, true, true, true, true, true, true, true, true, false, true, true, false, false, false, false, false, false, false, false, false, false, false, false, false] rfl rfl (one_of HT_.out (by kernel_rfl)) (by decide) (fun K hK => ?_)
                refine goes_ Try.func25 (by kernel_rfl) rfl #[.agg #[.int .u64 a0_0, .int .u64 a0_1], .agg #[.int .u64 a1_0, .int .u64 a1_1]] (by rfl) rfl rfl (by (try simp only [List.map_toArray, List.map_cons, List.map_nil]); first | done | rfl | (simp only [List.length_drop, List.length_take]; rfl)) ?_
                with_reducible refine (word_Or.calls a0_0 a0_1 a1_0 a1_1 t192 t193 _ A12.out).mono ?_
                rintro e w64 ⟨rfl, hb⟩
                refine ⟨_, rfl, ?_⟩
                have n0_ := Aside0.mk (blk_below (bkA BK176.out) hb); have n1_ := Aside0.mk (blk_below (bkA BK177.out) hb); have n2_ := Aside0.mk (blk_below (bkA BK178.out) hb); have n3_ := Aside0.mk (blk_below (bkA BK183.out) hb); have n4_ := Aside0.mk (blk_below (bkA BK184.out) hb)
                have n5_ := Aside0.mk (below_step (by repeat (first | (with_reducible first | exact HB.out | apply below_alloc | apply pw_below_drewN | apply below_drew1 | refine below_set ?_ GE176.out | refine below_set ?_ GE177.out | refine below_set ?_ GE178.out | refine below_set ?_ GE183.out | refine below_set ?_ GE184.out) | exact HB.out)) hb)
                clear BK176; clear BK177; clear BK178; clear BK183; clear BK184; clear HB; have BK176 := n0_; have BK177 := n1_; have BK178 := n2_; have BK183 := n3_; have BK184 := n4_; have HB := n5_; clear n0_ n1_ n2_ n3_ n4_ n5_; (try clear hb); (try clear hb2); (try clear hk); (try clear hi)
                refine hK.out _ _ ⟨(blk_cell BK176.out 0).trans rfl, (blk_cell BK176.out 1).trans rfl, (blk_cell BK177.out 0).trans rfl, (blk_cell BK177.out 1).trans rfl, (blk_cell BK183.out 0).trans rfl, (blk_cell BK183.out 1).trans rfl, (blk_cell BK184.out 0).trans rfl, (blk_cell BK184.out 1).trans rfl, (blk_cell BK178.out 0).trans rfl, (blk_cell BK178.out 1).trans rfl⟩ (fun hHeld => ?_)
                clear hK K
                refine norm_ (a' := ?_) ?_ ?_
                rotate_left
                · show Act.put _ (some 68) _ = _
                  simp only [Act.put, List.setIfInBounds_toArray, List.set_cons_zero, List.set_cons_succ, i64_w, i32_w]
                  rfl
                refine one_ (i := 55) (N := some 70) #[true, true, true, true, true, true, true, true, true, true, true, true, true, true, true, true, true, true, true, true, true, true, true, true, true, true, true, true, true, true, true, true, true, true, true, true, true, true, true, true, true, true, true, true, true, true, true, true, true, true, true, true, true, true, true, true, true, true, false, false, false, false, false, false, false, false, false, false, false, false, false] rfl rfl (one_of HT_.out (by kernel_rfl)) (by decide) (fun K hK => ?_)
                refine goes_ Try.func18 (by kernel_rfl) rfl #[.agg #[.int .u64 t192, .int .u64 t193], .agg #[.int .u64 a1_0, .int .u64 a1_1]] (by rfl) rfl rfl (by (try simp only [List.map_toArray, List.map_cons, List.map_nil]); first | done | rfl | (simp only [List.length_drop, List.length_take]; rfl)) ?_
                with_reducible refine (word_Sub.calls t192 t193 a1_0 a1_1 t216 t217 _ A28.out).mono ?_
                rintro e w65 ⟨rfl, hb⟩
                refine ⟨_, rfl, ?_⟩
                have n0_ := Aside0.mk (blk_below (bkA BK176.out) hb); have n1_ := Aside0.mk (blk_below (bkA BK177.out) hb); have n2_ := Aside0.mk (blk_below (bkA BK178.out) hb); have n3_ := Aside0.mk (blk_below (bkA BK183.out) hb); have n4_ := Aside0.mk (blk_below (bkA BK184.out) hb)
                have n5_ := Aside0.mk (below_step (by repeat (first | (with_reducible first | exact HB.out | apply below_alloc | apply pw_below_drewN | apply below_drew1 | refine below_set ?_ GE176.out | refine below_set ?_ GE177.out | refine below_set ?_ GE178.out | refine below_set ?_ GE183.out | refine below_set ?_ GE184.out) | exact HB.out)) hb)
                clear BK176; clear BK177; clear BK178; clear BK183; clear BK184; clear HB; have BK176 := n0_; have BK177 := n1_; have BK178 := n2_; have BK183 := n3_; have BK184 := n4_; have HB := n5_; clear n0_ n1_ n2_ n3_ n4_ n5_; (try clear hb); (try clear hb2); (try clear hk); (try clear hi)
                refine hK.out _ _ ⟨(blk_cell BK176.out 0).trans rfl, (blk_cell BK176.out 1).trans rfl, (blk_cell BK177.out 0).trans rfl, (blk_cell BK177.out 1).trans rfl, (blk_cell BK183.out 0).trans rfl, (blk_cell BK183.out 1).trans rfl, (blk_cell BK184.out 0).trans rfl, (blk_cell BK184.out 1).trans rfl, (blk_cell BK178.out 0).trans rfl, (blk_cell BK178.out 1).trans rfl⟩ (fun hHeld => ?_)
                clear hK K
                refine norm_ (a' := ?_) ?_ ?_
                rotate_left
                · show Act.put _ (some 70) _ = _
                  simp only [Act.put, List.setIfInBounds_toArray, List.set_cons_zero, List.set_cons_succ, i64_w, i32_w]
                  rfl
                refine one_ (i := 58) (N := some 73) #[true, true, true, true, true, true, true, true, true, true, true, true, true, true, true, true, true, true, true, true, true, true, true, true, true, true, true, true, true, true, true, true, true, true, true, true, true, true, true, true, true, true, true, true, true, true, true, true, true, true, true, true, true, true, true, true, true, true, true, false, false, false, false, false, false, false, false, false, false, false, false] rfl rfl (one_of HT_.out (by kernel_rfl)) (by decide) (fun K hK => ?_)
                refine goes_ Try.func21 (by kernel_rfl) rfl #[.agg #[.int .u64 a1_0, .int .u64 a1_1]] (by rfl) rfl rfl (by (try simp only [List.map_toArray, List.map_cons, List.map_nil]); first | done | rfl | (simp only [List.length_drop, List.length_take]; rfl)) ?_
                with_reducible refine (word_Not.calls a1_0 a1_1 t200 t201 _ A17.out).mono ?_
                rintro e w66 ⟨rfl, hb⟩
                refine ⟨_, rfl, ?_⟩
                have n0_ := Aside0.mk (blk_below (bkA BK176.out) hb); have n1_ := Aside0.mk (blk_below (bkA BK177.out) hb); have n2_ := Aside0.mk (blk_below (bkA BK178.out) hb); have n3_ := Aside0.mk (blk_below (bkA BK183.out) hb); have n4_ := Aside0.mk (blk_below (bkA BK184.out) hb)
                have n5_ := Aside0.mk (below_step (by repeat (first | (with_reducible first | exact HB.out | apply below_alloc | apply pw_below_drewN | apply below_drew1 | refine below_set ?_ GE176.out | refine below_set ?_ GE177.out | refine below_set ?_ GE178.out | refine below_set ?_ GE183.out | refine below_set ?_ GE184.out) | exact HB.out)) hb)
                clear BK176; clear BK177; clear BK178; clear BK183; clear BK184; clear HB; have BK176 := n0_; have BK177 := n1_; have BK178 := n2_; have BK183 := n3_; have BK184 := n4_; have HB := n5_; clear n0_ n1_ n2_ n3_ n4_ n5_; (try clear hb); (try clear hb2); (try clear hk); (try clear hi)
                refine hK.out _ _ ⟨(blk_cell BK176.out 0).trans rfl, (blk_cell BK176.out 1).trans rfl, (blk_cell BK177.out 0).trans rfl, (blk_cell BK177.out 1).trans rfl, (blk_cell BK183.out 0).trans rfl, (blk_cell BK183.out 1).trans rfl, (blk_cell BK184.out 0).trans rfl, (blk_cell BK184.out 1).trans rfl, (blk_cell BK178.out 0).trans rfl, (blk_cell BK178.out 1).trans rfl⟩ (fun hHeld => ?_)
                clear hK K
                refine norm_ (a' := ?_) ?_ ?_
                rotate_left
                · show Act.put _ (some 73) _ = _
                  simp only [Act.put, List.setIfInBounds_toArray, List.set_cons_zero, List.set_cons_succ, i64_w, i32_w]
                  rfl
                refine one_ (i := 59) (N := some 74) #[true, true, true, true, true, true, true, true, true, true, true, true, true, true, true, true, true, true, true, true, true, true, true, true, true, true, true, true, true, true, true, true, true, true, true, true, true, true, true, true, true, true, true, true, true, true, true, true, true, true, true, true, true, true, true, true, true, true, true, true, false, false, false, false, false, false, false, false, false, false, false] rfl rfl (one_of HT_.out (by kernel_rfl)) (by decide) (fun K hK => ?_)
                refine goes_ Try.func23 (by kernel_rfl) rfl #[.agg #[.int .u64 a0_0, .int .u64 a0_1], .agg #[.int .u64 t200, .int .u64 t201]] (by rfl) rfl rfl (by (try simp only [List.map_toArray, List.map_cons, List.map_nil]); first | done | rfl | (simp only [List.length_drop, List.length_take]; rfl)) ?_
                with_reducible refine (word_And.calls a0_0 a0_1 t200 t201 t220 t221 _ A30.out).mono ?_
                rintro e w67 ⟨rfl, hb⟩
                refine ⟨_, rfl, ?_⟩
                have n0_ := Aside0.mk (blk_below (bkA BK176.out) hb); have n1_ := Aside0.mk (blk_below (bkA BK177.out) hb); have n2_ := Aside0.mk (blk_below (bkA BK178.out) hb); have n3_ := Aside0.mk (blk_below (bkA BK183.out) hb); have n4_ := Aside0.mk (blk_below (bkA BK184.out) hb)
                have n5_ := Aside0.mk (below_step (by repeat (first | (with_reducible first | exact HB.out | apply below_alloc | apply pw_below_drewN | apply below_drew1 | refine below_set ?_ GE176.out | refine below_set ?_ GE177.out | refine below_set ?_ GE178.out | refine below_set ?_ GE183.out | refine below_set ?_ GE184.out) | exact HB.out)) hb)
                clear BK176; clear BK177; clear BK178; clear BK183; clear BK184; clear HB; have BK176 := n0_; have BK177 := n1_; have BK178 := n2_; have BK183 := n3_; have BK184 := n4_; have HB := n5_; clear n0_ n1_ n2_ n3_ n4_ n5_; (try clear hb); (try clear hb2); (try clear hk); (try clear hi)
                refine hK.out _ _ ⟨(blk_cell BK176.out 0).trans rfl, (blk_cell BK176.out 1).trans rfl, (blk_cell BK177.out 0).trans rfl, (blk_cell BK177.out 1).trans rfl, (blk_cell BK183.out 0).trans rfl, (blk_cell BK183.out 1).trans rfl, (blk_cell BK184.out 0).trans rfl, (blk_cell BK184.out 1).trans rfl, (blk_cell BK178.out 0).trans rfl, (blk_cell BK178.out 1).trans rfl⟩ (fun hHeld => ?_)
                clear hK K
                refine norm_ (a' := ?_) ?_ ?_
                rotate_left
                · show Act.put _ (some 74) _ = _
                  simp only [Act.put, List.setIfInBounds_toArray, List.set_cons_zero, List.set_cons_succ, i64_w, i32_w]
                  rfl
                refine pure_ (i := 60) (N := some 75) (v := ?_) (a' := ?_) #[true, true, true, true, true, true, true, true, true, true, true, true, true, true, true, true, true, true, true, true, true, true, true, true, true, true, true, true, true, true, true, true, true, true, true, true, true, true, true, true, true, true, true, true, true, true, true, true, true, true, true, true, true, true, true, true, true, true, true, true, true, false, false, false, false, false, false, false, false, false, false] rfl rfl (any_of HT_.out (by kernel_rfl)) (fun _ _ _ h => h) (Or.inl ⟨by rfl, ?_⟩) ?_ ?_
                rotate_left
                · intro w'
                  go_simp
                  with_reducible rfl
                rotate_left
                · simp only [Act.put, List.setIfInBounds_toArray, List.set_cons_zero, List.set_cons_succ, i64_w, i32_w]
                  rfl
                refine pure_ (i := 61) (N := some 76) (v := ?_) (a' := ?_) #[true, true, true, true, true, true, true, true, true, true, true, true, true, true, true, true, true, true, true, true, true, true, true, true, true, true, true, true, true, true, true, true, true, true, true, true, true, true, true, true, true, true, true, true, true, true, true, true, true, true, true, true, true, true, true, true, true, true, true, true, true, true, false, false, false, false, false, false, false, false, false] rfl rfl (any_of HT_.out (by kernel_rfl)) (fun _ _ _ h => h) (Or.inl ⟨by rfl, ?_⟩) ?_ ?_
                rotate_left
                · intro w'
                  go_simp
                  with_reducible rfl
                rotate_left
                · simp only [Act.put, List.setIfInBounds_toArray, List.set_cons_zero, List.set_cons_succ, i64_w, i32_w]
                  rfl
                refine pure_ (i := 62) (N := some 77) (v := ?_) (a' := ?_) #[true, true, true, true, true, true, true, true, true, true, true, true, true, true, true, true, true, true, true, true, true, true, true, true, true, true, true, true, true, true, true, true, true, true, true, true, true, true, true, true, true, true, true, true, true, true, true, true, true, true, true, true, true, true, true, true, true, true, true, true, true, true, true, false, false, false, false, false, false, false, false] rfl rfl (any_of HT_.out (by kernel_rfl)) (fun _ _ _ h => h) (Or.inl ⟨by rfl, ?_⟩) ?_ ?_
                rotate_left
                · intro w'
                  go_simp
                  with_reducible rfl
                rotate_left
                · simp only [Act.put, List.setIfInBounds_toArray, List.set_cons_zero, List.set_cons_succ, i64_w, i32_w]
                  rfl
                refine take_ (i := 63) (N := some 78) (v := ?_) (a' := ?_) #[true, true, true, true, true, true, true, true, true, true, true, true, true, true, true, true, true, true, true, true, true, true, true, true, true, true, true, true, true, true, true, true, true, true, true, true, true, true, true, true, true, true, true, true, true, true, true, true, true, true, true, true, true, true, true, true, true, true, true, true, true, true, true, true, false, false, false, false, false, false, false] rfl rfl (take_ofW HT_.out HW_.out (by kernel_rfl)) (fun _ _ _ h => h) (Or.inl ⟨by rfl, ?_⟩) hHeld ?_ ?_
                rotate_left
                · rintro w' ⟨s0, s1, s2, s3, s4, s5, s6, s7, s8, s9⟩
                  go_simp
                  with_reducible rfl
                rotate_left
                · simp only [Act.put, List.setIfInBounds_toArray, List.set_cons_zero, List.set_cons_succ, i64_w, i32_w]
                  rfl
                refine take_ (i := 64) (N := some 79) (v := ?_) (a' := ?_) #[true, true, true, true, true, true, true, true, true, true, true, true, true, true, true, true, true, true, true, true, true, true, true, true, true, true, true, true, true, true, true, true, true, true, true, true, true, true, true, true, true, true, true, true, true, true, true, true, true, true, true, true, true, true, true, true, true, true, true, true, true, true, true, true, true, false, false, false, false, false, false] rfl rfl (take_ofW HT_.out HW_.out (by kernel_rfl)) (fun _ _ _ h => h) (Or.inl ⟨by rfl, ?_⟩) hHeld ?_ ?_
                rotate_left
                · rintro w' ⟨s0, s1, s2, s3, s4, s5, s6, s7, s8, s9⟩
                  go_simp
                  with_reducible rfl
                rotate_left
                · simp only [Act.put, List.setIfInBounds_toArray, List.set_cons_zero, List.set_cons_succ, i64_w, i32_w]
                  rfl
                refine take_ (i := 65) (N := some 80) (v := ?_) (a' := ?_) #[true, true, true, true, true, true, true, true, true, true, true, true, true, true, true, true, true, true, true, true, true, true, true, true, true, true, true, true, true, true, true, true, true, true, true, true, true, true, true, true, true, true, true, true, true, true, true, true, true, true, true, true, true, true, true, true, true, true, true, true, true, true, true, true, true, true, false, false, false, false, false] rfl rfl (take_ofW HT_.out HW_.out (by kernel_rfl)) (fun _ _ _ h => h) (Or.inl ⟨by rfl, ?_⟩) hHeld ?_ ?_
                rotate_left
                · rintro w' ⟨s0, s1, s2, s3, s4, s5, s6, s7, s8, s9⟩
                  go_simp
                  with_reducible rfl
                rotate_left
                · simp only [Act.put, List.setIfInBounds_toArray, List.set_cons_zero, List.set_cons_succ, i64_w, i32_w]
                  rfl
                refine one_ (i := 66) (N := some 81) #[true, true, true, true, true, true, true, true, true, true, true, true, true, true, true, true, true, true, true, true, true, true, true, true, true, true, true, true, true, true, true, true, true, true, true, true, true, true, true, true, true, true, true, true, true, true, true, true, true, true, true, true, true, true, true, true, true, true, true, true, true, true, true, true, true, true, true, false, false, false, false] rfl rfl (one_of HT_.out (by kernel_rfl)) (by decide) (fun K hK => ?_)
                refine goes_ Try.func25 (by kernel_rfl) rfl #[.agg #[.int .u64 a0_0, .int .u64 a0_1], .agg #[.int .u64 a1_0, .int .u64 a1_1]] (by rfl) rfl rfl (by (try simp only [List.map_toArray, List.map_cons, List.map_nil]); first | done | rfl | (simp only [List.length_drop, List.length_take]; rfl)) ?_
                with_reducible refine (word_Or.calls a0_0 a0_1 a1_0 a1_1 t192 t193 _ A12.out).mono ?_
                rintro e w68 ⟨rfl, hb⟩
                refine ⟨_, rfl, ?_⟩
                have n0_ := Aside0.mk (blk_below (bkA BK176.out) hb); have n1_ := Aside0.mk (blk_below (bkA BK177.out) hb); have n2_ := Aside0.mk (blk_below (bkA BK178.out) hb); have n3_ := Aside0.mk (blk_below (bkA BK183.out) hb); have n4_ := Aside0.mk (blk_below (bkA BK184.out) hb)
                have n5_ := Aside0.mk (below_step (by repeat (first | (with_reducible first | exact HB.out | apply below_alloc | apply pw_below_drewN | apply below_drew1 | refine below_set ?_ GE176.out | refine below_set ?_ GE177.out | refine below_set ?_ GE178.out | refine below_set ?_ GE183.out | refine below_set ?_ GE184.out) | exact HB.out)) hb)
                clear BK176; clear BK177; clear BK178; clear BK183; clear BK184; clear HB; have BK176 := n0_; have BK177 := n1_; have BK178 := n2_; have BK183 := n3_; have BK184 := n4_; have HB := n5_; clear n0_ n1_ n2_ n3_ n4_ n5_; (try clear hb); (try clear hb2); (try clear hk); (try clear hi)
                refine hK.out _ _ ⟨(blk_cell BK176.out 0).trans rfl, (blk_cell BK176.out 1).trans rfl, (blk_cell BK177.out 0).trans rfl, (blk_cell BK177.out 1).trans rfl, (blk_cell BK183.out 0).trans rfl, (blk_cell BK183.out 1).trans rfl, (blk_cell BK184.out 0).trans rfl, (blk_cell BK184.out 1).trans rfl, (blk_cell BK178.out 0).trans rfl, (blk_cell BK178.out 1).trans rfl⟩ (fun hHeld => ?_)
                clear hK K
                refine norm_ (a' := ?_) ?_ ?_
                rotate_left
                · show Act.put _ (some 81) _ = _
                  simp only [Act.put, List.setIfInBounds_toArray, List.set_cons_zero, List.set_cons_succ, i64_w, i32_w]
                  rfl
                refine one_ (i := 67) (N := some 82) #[true, true, true, true, true, true, true, true, true, true, true, true, true, true, true, true, true, true, true, true, true, true, true, true, true, true, true, true, true, true, true, true, true, true, true, true, true, true, true, true, true, true, true, true, true, true, true, true, true, true, true, true, true, true, true, true, true, true, true, true, true, true, true, true, true, true, true, true, false, false, false] rfl rfl (one_of HT_.out (by kernel_rfl)) (by decide) (fun K hK => ?_)
                refine goes_ Try.func40 (by kernel_rfl) rfl #[.agg #[.int .u64 t181, .int .u64 t182], .agg #[.int .u64 t192, .int .u64 t193]] (by rfl) rfl rfl (by (try simp only [List.map_toArray, List.map_cons, List.map_nil]); first | done | rfl | (simp only [List.length_drop, List.length_take]; rfl)) ?_
                with_reducible refine (word_Compare.calls t181 t182 t192 t193 t224 _ A33.out).mono ?_
                rintro e w69 ⟨rfl, hb⟩
                refine ⟨_, rfl, ?_⟩
                have n0_ := Aside0.mk (blk_below (bkA BK176.out) hb); have n1_ := Aside0.mk (blk_below (bkA BK177.out) hb); have n2_ := Aside0.mk (blk_below (bkA BK178.out) hb); have n3_ := Aside0.mk (blk_below (bkA BK183.out) hb); have n4_ := Aside0.mk (blk_below (bkA BK184.out) hb)
                have n5_ := Aside0.mk (below_step (by repeat (first | (with_reducible first | exact HB.out | apply below_alloc | apply pw_below_drewN | apply below_drew1 | refine below_set ?_ GE176.out | refine below_set ?_ GE177.out | refine below_set ?_ GE178.out | refine below_set ?_ GE183.out | refine below_set ?_ GE184.out) | exact HB.out)) hb)
                clear BK176; clear BK177; clear BK178; clear BK183; clear BK184; clear HB; have BK176 := n0_; have BK177 := n1_; have BK178 := n2_; have BK183 := n3_; have BK184 := n4_; have HB := n5_; clear n0_ n1_ n2_ n3_ n4_ n5_; (try clear hb); (try clear hb2); (try clear hk); (try clear hi)
                refine hK.out _ _ ⟨(blk_cell BK176.out 0).trans rfl, (blk_cell BK176.out 1).trans rfl, (blk_cell BK177.out 0).trans rfl, (blk_cell BK177.out 1).trans rfl, (blk_cell BK183.out 0).trans rfl, (blk_cell BK183.out 1).trans rfl, (blk_cell BK184.out 0).trans rfl, (blk_cell BK184.out 1).trans rfl, (blk_cell BK178.out 0).trans rfl, (blk_cell BK178.out 1).trans rfl⟩ (fun hHeld => ?_)
                clear hK K
                refine norm_ (a' := ?_) ?_ ?_
                rotate_left
                · show Act.put _ (some 82) _ = _
                  simp only [Act.put, List.setIfInBounds_toArray, List.set_cons_zero, List.set_cons_succ, i64_w, i32_w]
                  rfl
                refine pure_ (i := 68) (N := some 83) (v := ?_) (a' := ?_) #[true, true, true, true, true, true, true, true, true, true, true, true, true, true, true, true, true, true, true, true, true, true, true, true, true, true, true, true, true, true, true, true, true, true, true, true, true, true, true, true, true, true, true, true, true, true, true, true, true, true, true, true, true, true, true, true, true, true, true, true, true, true, true, true, true, true, true, true, true, false, false] rfl rfl (any_of HT_.out (by kernel_rfl)) (fun _ _ _ h => h) (Or.inl ⟨by rfl, ?_⟩) ?_ ?_
                rotate_left
                · intro w'
                  go_simp
                  with_reducible rfl
                rotate_left
                · simp only [Act.put, List.setIfInBounds_toArray, List.set_cons_zero, List.set_cons_succ, i64_w, i32_w]
                  rfl
                refine pure_ (i := 69) (N := some 84) (v := ?_) (a' := ?_) #[true, true, true, true, true, true, true, true, true, true, true, true, true, true, true, true, true, true, true, true, true, true, true, true, true, true, true, true, true, true, true, true, true, true, true, true, true, true, true, true, true, true, true, true, true, true, true, true, true, true, true, true, true, true, true, true, true, true, true, true, true, true, true, true, true, true, true, true, true, true, false] rfl rfl (any_of HT_.out (by kernel_rfl)) (fun _ _ _ h => h) (Or.inl ⟨by rfl, ?_⟩) ?_ ?_
                rotate_left
                · intro w'
                  go_simp
                  with_reducible rfl
                rotate_left
                · simp only [Act.put, List.setIfInBounds_toArray, List.set_cons_zero, List.set_cons_succ, i64_w, i32_w]
                  rfl
                refine pure_ (i := 70) (N := some 6) (v := ?_) (a' := ?_) #[true, true, true, true, true, true, true, true, true, true, true, true, true, true, true, true, true, true, true, true, true, true, true, true, true, true, true, true, true, true, true, true, true, true, true, true, true, true, true, true, true, true, true, true, true, true, true, true, true, true, true, true, true, true, true, true, true, true, true, true, true, true, true, true, true, true, true, true, true, true, true] rfl rfl (any_of HT_.out (by kernel_rfl)) (fun _ _ _ h => h) (Or.inl ⟨by rfl, ?_⟩) ?_ ?_
                rotate_left
                · intro w'
                  go_simp
                  with_reducible rfl
                rotate_left
                · simp only [Act.put, List.setIfInBounds_toArray, List.set_cons_zero, List.set_cons_succ, i64_w, i32_w]
                  rfl
                refine done_ (done_of HT_.out (by kernel_rfl)) ?_
                try go_wp2
                go_ret
                exact ⟨by first | rfl | (simp [errW_none, errW_some] <;> rfl) | (simp [*, errW_none, errW_some] <;> rfl), by repeat (first | (with_reducible first | exact HB.out | apply below_alloc | apply pw_below_drewN | apply below_drew1 | refine below_set ?_ GE176.out | refine below_set ?_ GE177.out | refine below_set ?_ GE178.out | refine below_set ?_ GE183.out | refine below_set ?_ GE184.out) | exact HB.out)⟩
              · rw [if_neg c31] at H
                have c31b0 : (t216 == t220 && (t217 == t221)) = false := by simpa using c31
                (try (have c31b1 : decide (t216 = t220 && (t217 == t221)) = false := by simpa using c31))
                (try (have c31b2 : (t216 == t220 && (t217 == t221)) = false := by simpa using c31))
                (try (have c31b3 : ¬ (t216 = t220 && (t217 == t221)) := by simpa using c31))
                clear c31
                exact absurd ((Option.some.inj H).trans hr_.out) (by decide)
            · rw [if_neg c26] at H
              have c26b0 : (t208 == t212 && (t209 == t213)) = false := by simpa using c26
              (try (have c26b1 : decide (t208 = t212 && (t209 == t213)) = false := by simpa using c26))
              (try (have c26b2 : (t208 == t212 && (t209 == t213)) = false := by simpa using c26))
              (try (have c26b3 : ¬ (t208 = t212 && (t209 == t213)) := by simpa using c26))
              clear c26
              exact absurd ((Option.some.inj H).trans hr_.out) (by decide)
          · rw [if_neg c21] at H
            have c21b0 : (t204 == a0_0 && (t205 == a0_1)) = false := by simpa using c21
            (try (have c21b1 : decide (t204 = a0_0 && (t205 == a0_1)) = false := by simpa using c21))
            (try (have c21b2 : (t204 == a0_0 && (t205 == a0_1)) = false := by simpa using c21))
            (try (have c21b3 : ¬ (t204 = a0_0 && (t205 == a0_1)) := by simpa using c21))
            clear c21
            exact absurd ((Option.some.inj H).trans hr_.out) (by decide)
        · rw [if_neg c19] at H
          have c19b0 : (t196 == t202 && (t197 == t203)) = false := by simpa using c19
          (try (have c19b1 : decide (t196 = t202 && (t197 == t203)) = false := by simpa using c19))
          (try (have c19b2 : (t196 == t202 && (t197 == t203)) = false := by simpa using c19))
          (try (have c19b3 : ¬ (t196 = t202 && (t197 == t203)) := by simpa using c19))
          clear c19
          exact absurd ((Option.some.inj H).trans hr_.out) (by decide)
      · rw [if_neg c14] at H
        have c14b0 : (t192 == t194 && (t193 == t195)) = false := by simpa using c14
        (try (have c14b1 : decide (t192 = t194 && (t193 == t195)) = false := by simpa using c14))
        (try (have c14b2 : (t192 == t194 && (t193 == t195)) = false := by simpa using c14))
        (try (have c14b3 : ¬ (t192 = t194 && (t193 == t195)) := by simpa using c14))
        clear c14
        exact absurd ((Option.some.inj H).trans hr_.out) (by decide)
    · rw [if_neg c11] at H
      have c11b0 : (t186 == t190 && (t187 == t191)) = false := by simpa using c11
      (try (have c11b1 : decide (t186 = t190 && (t187 == t191)) = false := by simpa using c11))
      (try (have c11b2 : (t186 == t190 && (t187 == t191)) = false := by simpa using c11))
      (try (have c11b3 : ¬ (t186 = t190 && (t187 == t191)) := by simpa using c11))
      clear c11
      exact absurd ((Option.some.inj H).trans hr_.out) (by decide)
  · replace c7 := Bool.eq_false_iff.mpr c7
    subst c7
    have H1 : (some false) = some r := by rw [if_neg (show ¬ (false = true) by decide)] at H; exact H
    clear H; have H := H1; clear H1
    exact absurd ((Option.some.inj H).trans hr_.out) (by decide)

/-- THE ONE PURE STATEMENT of turnoutlaw01_WordLogic: yours. -/
def turnoutlaw01_WordLogic.Pure : Prop := (∀ (a0_0 : Int) (a0_1 : Int) (a1_0 : Int) (a1_1 : Int) (a2_0 : Int) (a2_1 : Int), (Lit.int .u64 a0_0).wf = true → (Lit.int .u64 a0_1).wf = true → (Lit.int .u64 a1_0).wf = true → (Lit.int .u64 a1_1).wf = true → (Lit.int .u64 a2_0).wf = true → (Lit.int .u64 a2_1).wf = true → ∃ k, turnoutlaw01_WordLogic.f k a0_0 a0_1 a1_0 a1_1 a2_0 a2_1 = some true) ∧ (∀ k r, turnoutlaw01_awake.f k = some r → r = true)
theorem turnoutlaw01_WordLogic.walk (P : turnoutlaw01_WordLogic.Pure) (a0_0 : Int) (a0_1 : Int) (a1_0 : Int) (a1_1 : Int) (a2_0 : Int) (a2_1 : Int) (w : World) (w0_0 : (Lit.int .u64 a0_0).wf = true) (w0_1 : (Lit.int .u64 a0_1).wf = true) (w1_0 : (Lit.int .u64 a1_0).wf = true) (w1_1 : (Lit.int .u64 a1_1).wf = true) (w2_0 : (Lit.int .u64 a2_0).wf = true) (w2_1 : (Lit.int .u64 a2_1).wf = true) :
    Calls Try.prog 10 #[.agg #[.int .u64 a0_0, .int .u64 a0_1], .agg #[.int .u64 a1_0, .int .u64 a1_1], .agg #[.int .u64 a2_0, .int .u64 a2_1]] w fun e w' => e = .returned (.bool true) ∧ Below w.heap.size w w' := by
  obtain ⟨k, h⟩ := P.1 a0_0 a0_1 a1_0 a1_1 a2_0 a2_1 w0_0 w0_1 w1_0 w1_1 w2_0 w2_1
  refine (turnoutlaw01_WordLogic.calls k a0_0 a0_1 a1_0 a1_1 a2_0 a2_1 true w h ⟨rfl⟩ ⟨P.2⟩).mono ?_
  rintro e w' ⟨rfl, hd⟩
  exact ⟨rfl, hd⟩

end Go.Proofs.Ytmplgmlfpfopbaa.PWordB
