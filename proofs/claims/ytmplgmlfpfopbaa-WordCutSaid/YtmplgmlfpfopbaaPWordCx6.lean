-- Written by wip/turnprint.py, a program of this session (the kit's print, turned).
import Derived.Test.YtmplgmlfpfopbaaPWordCx0
import Derived.Test.YtmplgmlfpfopbaaPWordCx1
import Derived.Test.YtmplgmlfpfopbaaPWordCx2
import Derived.Test.YtmplgmlfpfopbaaPWordCx3
import Derived.Test.YtmplgmlfpfopbaaPWordCx4
import Derived.Test.YtmplgmlfpfopbaaPWordCx5
namespace Go.Proofs.Ytmplgmlfpfopbaa.PWordC
open Go.RowKit Go.Proofs.YtmplgmlfpfopbaaW.PrintWords Go.Proofs.YtmplgmlfpfopbaaW.PrintLast Go.Proofs.YtmplgmlfpfopbaaW.PrintMore
attribute [local go_sem] max2_int min2_int max_two min_two max_three min_three max_four min_four   -- for this text's walks alone
set_option linter.unusedVariables false
set_option linter.unusedSimpArgs false

attribute [local go_sem high] eqA24
attribute [local go_sem high] xorA_u8 xorA_u16 xorA_u32 xorA_u64
/-! ### turnoutlaw01_WordCut: function 11 -/
def turnoutlaw01_WordCut.j0 : Nat → Int → Bool → Int → Int → Int → Int → Int → Int → Int → Int → Option (Bool)
  | 0, _, _, _, _, _, _, _, _, _, _ => none
  | k + 1, x9, x61, x183000, x183001, x184000, x184001, x189000, x189001, x190000, x190001 => if x61 = true then (some false) else ((word_Add.f x189000 x189001 x190000 x190001).bind fun bt203 => ((word_Cut.f bt203.1 bt203.2 x9).bind fun bt205 => ((word_Add.f x183000 x183001 x184000 x184001).bind fun bt207 => ((word_Cut.f bt207.1 bt207.2 x9).bind fun bt209 => (if (bt205.1 == bt209.1 && (bt205.2 == bt209.2)) = true then ((word_Sub.f x189000 x189001 x190000 x190001).bind fun bt211 => ((word_Cut.f bt211.1 bt211.2 x9).bind fun bt213 => ((word_Sub.f x183000 x183001 x184000 x184001).bind fun bt215 => ((word_Cut.f bt215.1 bt215.2 x9).bind fun bt217 => (if (bt213.1 == bt217.1 && (bt213.2 == bt217.2)) = true then ((word_Xor.f x183000 x183001 x184000 x184001).bind fun bt219 => ((word_Cut.f bt219.1 bt219.2 x9).bind fun bt221 => ((word_Xor.f x189000 x189001 x190000 x190001).bind fun bt223 => (if (bt221.1 == bt223.1 && (bt221.2 == bt223.2)) = true then ((word_Or.f x183000 x183001 x184000 x184001).bind fun bt225 => ((word_Cut.f bt225.1 bt225.2 x9).bind fun bt227 => ((word_Or.f x189000 x189001 x190000 x190001).bind fun bt229 => (if (bt227.1 == bt229.1 && (bt227.2 == bt229.2)) = true then ((word_And.f x183000 x183001 x184000 x184001).bind fun bt231 => ((word_Cut.f bt231.1 bt231.2 x9).bind fun bt233 => ((word_And.f x189000 x189001 x190000 x190001).bind fun bt235 => (if (bt233.1 == bt235.1 && (bt233.2 == bt235.2)) = true then ((word_Not.f x189000 x189001).bind fun bt237 => ((word_Cut.f bt237.1 bt237.2 x9).bind fun bt239 => ((word_Not.f x183000 x183001).bind fun bt241 => ((word_Cut.f bt241.1 bt241.2 x9).bind fun bt243 => (if (bt239.1 == bt243.1 && (bt239.2 == bt243.2)) = true then ((word_Size.f k x183000 x183001).bind fun t245 => (some ((decide (t245 ≤ x9)) == (x189000 == x183000 && (x189001 == x183001))))) else (some false)))))) else (some false))))) else (some false))))) else (some false))))) else (some false)))))) else (some false))))))
def turnoutlaw01_WordCut.f (k : Nat) (a0_0 : Int) (a0_1 : Int) (a1_0 : Int) (a1_1 : Int) (a2 : Int) (a3 : Int) : Option (Bool) := (word_Cut.f a0_0 a0_1 (wrap64 (Int.tmod (IntKind.u64.wrap (a2)) 131))).bind fun bt184 => ((word_Cut.f a1_0 a1_1 (wrap64 (Int.tmod (IntKind.u64.wrap (a2)) 131))).bind fun bt186 => ((turnoutlaw01_awake.f k).bind fun t190 => (if t190 = true then ((word_Mask.f (wrap64 (Int.tmod (IntKind.u64.wrap (a2)) 131))).bind fun bt191 => ((word_Compare.f bt184.1 bt184.2 bt191.1 bt191.2).bind fun t193 => (if t193 > 0 then (turnoutlaw01_WordCut.j0 k (wrap64 (Int.tmod (IntKind.u64.wrap (a2)) 131)) true a0_0 a0_1 a1_0 a1_1 bt184.1 bt184.2 bt186.1 bt186.2) else ((word_Size.f k bt184.1 bt184.2).bind fun t194 => (if t194 > (wrap64 (Int.tmod (IntKind.u64.wrap (a2)) 131)) then (turnoutlaw01_WordCut.j0 k (wrap64 (Int.tmod (IntKind.u64.wrap (a2)) 131)) true a0_0 a0_1 a1_0 a1_1 bt184.1 bt184.2 bt186.1 bt186.2) else ((word_Cut.f bt184.1 bt184.2 (wrap64 (Int.tmod (IntKind.u64.wrap (a2)) 131))).bind fun bt195 => (if (!(bt195.1 == bt184.1) || (!(bt195.2 == bt184.2))) = true then (turnoutlaw01_WordCut.j0 k (wrap64 (Int.tmod (IntKind.u64.wrap (a2)) 131)) true a0_0 a0_1 a1_0 a1_1 bt184.1 bt184.2 bt186.1 bt186.2) else ((word_Cut.f a0_0 a0_1 (wrap64 (Int.tmod (IntKind.u64.wrap (a3)) 131))).bind fun bt197 => ((word_Cut.f bt197.1 bt197.2 (wrap64 (Int.tmod (IntKind.u64.wrap (a2)) 131))).bind fun bt199 => ((word_Cut.f a0_0 a0_1 (mn (wrap64 (Int.tmod (IntKind.u64.wrap (a2)) 131)) (wrap64 (Int.tmod (IntKind.u64.wrap (a3)) 131)))).bind fun bt201 => (turnoutlaw01_WordCut.j0 k (wrap64 (Int.tmod (IntKind.u64.wrap (a2)) 131)) (!(bt199.1 == bt201.1) || (!(bt199.2 == bt201.2))) a0_0 a0_1 a1_0 a1_1 bt184.1 bt184.2 bt186.1 bt186.2))))))))))) else (turnoutlaw01_WordCut.j0 k (wrap64 (Int.tmod (IntKind.u64.wrap (a2)) 131)) true a0_0 a0_1 a1_0 a1_1 bt184.1 bt184.2 bt186.1 bt186.2))))
theorem turnoutlaw01_WordCut.mono_l : ∀ k, (∀ y0 y1 y2 y3 y4 y5 y6 y7 y8 y9, LeO (turnoutlaw01_WordCut.j0 k y0 y1 y2 y3 y4 y5 y6 y7 y8 y9) (turnoutlaw01_WordCut.j0 (k + 1) y0 y1 y2 y3 y4 y5 y6 y7 y8 y9))
  | 0 => fun _ _ _ _ _ _ _ _ _ _ r h => by simp [turnoutlaw01_WordCut.j0] at h
  | k + 1 => by
   have ih0 := turnoutlaw01_WordCut.mono_l k
   ·
    intro y0 y1 y2 y3 y4 y5 y6 y7 y8 y9
    unfold turnoutlaw01_WordCut.j0
    repeat' first
    | (with_reducible exact ih0 _ _ _ _ _ _ _ _ _ _)
    | (with_reducible exact turnoutlaw01_awake.mono _)
    | (with_reducible exact word_Size.mono _ _ _)
    | (with_reducible exact LeO.refl _)
    | (with_reducible exact LeO.none _)
    | (with_reducible refine LeO.ite ?_ ?_)
    | (with_reducible refine LeO.bind ?_ (fun _ => ?_))
    | exact ih0 _ _ _ _ _ _ _ _ _ _
    | exact turnoutlaw01_awake.mono _
    | exact word_Size.mono _ _ _
    | exact LeO.none _
    | refine LeO.ite ?_ ?_
    | refine LeO.bind ?_ (fun _ => ?_)
theorem turnoutlaw01_WordCut.mono : ∀ a0 a1 a2 a3 a4 a5 k, LeO (turnoutlaw01_WordCut.f k a0 a1 a2 a3 a4 a5) (turnoutlaw01_WordCut.f (k + 1) a0 a1 a2 a3 a4 a5) := by
  intro a0 a1 a2 a3 a4 a5 k
  have ih0 := turnoutlaw01_WordCut.mono_l k
  unfold turnoutlaw01_WordCut.f
  repeat' first
    | (with_reducible exact ih0 _ _ _ _ _ _ _ _ _ _)
    | (with_reducible exact turnoutlaw01_awake.mono _)
    | (with_reducible exact word_Size.mono _ _ _)
    | (with_reducible exact LeO.refl _)
    | (with_reducible exact LeO.none _)
    | (with_reducible refine LeO.ite ?_ ?_)
    | (with_reducible refine LeO.bind ?_ (fun _ => ?_))
    | exact ih0 _ _ _ _ _ _ _ _ _ _
    | exact turnoutlaw01_awake.mono _
    | exact word_Size.mono _ _ _
    | exact LeO.none _
    | refine LeO.ite ?_ ?_
    | refine LeO.bind ?_ (fun _ => ?_)
def turnoutlaw01_WordCut.T3 : Bool × List (List Nat × List Nat) := (true, [([], []), ([], []), ([0, 1], [0, 1]), ([], []), ([], []), ([3, 4, 2], [3, 4]), ([], []), ([], []), ([6, 2, 5, 0, 1, 2, 6, 7], [2, 6]), ([7, 5, 8, 0, 1, 2, 3, 4, 5, 6, 7, 8], [5, 7])])
def turnoutlaw01_WordCut.B3 : List Nat := [0, 0, 3, 0, 0, 31, 0, 0, 255, 511]
theorem turnoutlaw01_WordCut.tab3 : rtab .any (opsOf Try.f11 3) = turnoutlaw01_WordCut.T3 := by kernel_rfl
theorem turnoutlaw01_WordCut.bits3 : waitsOk turnoutlaw01_WordCut.T3.2 turnoutlaw01_WordCut.B3 = true := by kernel_rfl
def turnoutlaw01_WordCut.T4 : Bool × List (List Nat × List Nat) := (true, [([], []), ([0], [0]), ([1, 0], [1]), ([2], [2]), ([2], [2]), ([4, 2, 2], [2, 4]), ([3, 5, 5, 2], [2, 3, 5]), ([6, 2], [2, 6]), ([2, 7], [2, 7]), ([8, 6], [8]), ([9], [9]), ([10, 9, 9], [9, 10]), ([9], [9]), ([11, 12, 9], [9, 11, 12]), ([9, 13], [9, 13]), ([14, 11], [14]), ([15], [15]), ([15], [15]), ([16, 17, 15, 15], [15, 16, 17]), ([15], [15]), ([18, 19, 15], [15, 18, 19]), ([15, 20], [15, 20]), ([21, 18], [21]), ([22], [22]), ([22], [22]), ([23, 24, 22, 22], [22, 23, 24]), ([22], [22]), ([25, 26, 25, 22], [22, 25, 26]), ([22], [22]), ([22], [22]), ([22], [22]), ([29, 30, 22], [22, 29, 30]), ([28, 31, 27, 22], [22, 28, 31]), ([27, 32, 22], [22, 27, 32]), ([22, 33], [22, 33])])
def turnoutlaw01_WordCut.B4 : List Nat := [0, 1, 3, 7, 7, 23, 63, 127, 255, 511, 1023, 2047, 1023, 8191, 16383, 32767, 65535, 65535, 262143, 65535, 1048575, 2097151, 4194303, 8388607, 8388607, 33554431, 8388607, 134217727, 8388607, 8388607, 8388607, 1619001343, 4294967295, 8589934591, 17179869183]
theorem turnoutlaw01_WordCut.tab4 : rtab .any (opsOf Try.f11 4) = turnoutlaw01_WordCut.T4 := by kernel_rfl
theorem turnoutlaw01_WordCut.bits4 : waitsOk turnoutlaw01_WordCut.T4.2 turnoutlaw01_WordCut.B4 = true := by kernel_rfl
def turnoutlaw01_WordCut.T6 : Bool × List (List Nat × List Nat) := (true, [([], []), ([], []), ([0, 1], [0, 1]), ([], []), ([2, 3, 2], [2, 3]), ([], []), ([], []), ([5, 6, 4], [5, 6]), ([], []), ([7, 8, 7], [7, 8]), ([4, 9], [4, 9]), ([10, 9], [10]), ([11], [11]), ([11], [11]), ([12, 13, 11, 11], [11, 12, 13]), ([11], [11]), ([14, 15, 14, 11], [11, 14, 15]), ([11], [11]), ([11], [11]), ([17, 18, 16, 11], [11, 17, 18]), ([11], [11]), ([19, 20, 19, 11], [11, 19, 20]), ([16, 21, 11], [11, 16, 21]), ([11, 22], [11, 22]), ([23, 21], [23]), ([24], [24]), ([24], [24]), ([25, 26, 24, 24], [24, 25, 26]), ([24], [24]), ([27, 28, 27, 24], [24, 27, 28]), ([24], [24]), ([24], [24]), ([30, 31, 29, 24], [24, 30, 31]), ([29, 32, 24], [24, 29, 32]), ([24, 33], [24, 33]), ([34, 32], [34]), ([35], [35]), ([35], [35]), ([36, 37, 35, 35], [35, 36, 37]), ([35], [35]), ([38, 39, 38, 35], [35, 38, 39]), ([35], [35]), ([35], [35]), ([41, 42, 40, 35], [35, 41, 42]), ([40, 43, 35], [35, 40, 43]), ([35, 44], [35, 44]), ([45, 43], [45]), ([46], [46]), ([46], [46]), ([47, 48, 46, 46], [46, 47, 48]), ([46], [46]), ([49, 50, 49, 46], [46, 49, 50]), ([46], [46]), ([46], [46]), ([52, 53, 51, 46], [46, 52, 53]), ([51, 54, 46], [46, 51, 54]), ([46, 55], [46, 55]), ([56, 54], [56]), ([57], [57]), ([58, 57, 57], [57, 58]), ([57], [57]), ([59, 60, 59, 57], [57, 59, 60]), ([57], [57]), ([62, 61, 57], [57, 62]), ([57], [57]), ([63, 64, 63, 57], [57, 63, 64]), ([61, 65, 57], [57, 61, 65]), ([57, 66], [57, 66]), ([67, 65], [67]), ([68], [68]), ([69, 68, 68], [68, 69]), ([68], [68]), ([70, 71, 68], [68, 70, 71]), ([68], [68]), ([68], [68]), ([73, 74, 68], [68, 73, 74]), ([72, 75, 68], [68, 72, 75]), ([68, 76], [68, 76]), ([77, 70, 0, 1, 2, 3, 4, 5, 6, 7, 8, 9, 10, 11, 12, 13, 14, 15, 16, 17, 18, 19, 20, 21, 22, 23, 24, 25, 26, 27, 28, 29, 30, 31, 32, 33, 34, 35, 36, 37, 38, 39, 40, 41, 42, 43, 44, 45, 46, 47, 48, 49, 50, 51, 52, 53, 54, 55, 56, 57, 58, 59, 60, 61, 62, 63, 64, 65, 66, 67, 68, 69, 70, 71, 72, 73, 74, 75, 76, 77], [77])])
def turnoutlaw01_WordCut.B6 : List Nat := [0, 0, 3, 0, 15, 0, 0, 127, 0, 511, 1023, 2047, 4095, 4095, 16383, 4095, 65535, 4095, 4095, 524287, 4095, 2097151, 4194303, 8388607, 16777215, 33554431, 33554431, 134217727, 33554431, 536870911, 33554431, 33554431, 4294967295, 8589934591, 17179869183, 34359738367, 68719476735, 68719476735, 274877906943, 68719476735, 1099511627775, 68719476735, 68719476735, 8796093022207, 17592186044415, 35184372088831, 70368744177663, 140737488355327, 140737488355327, 562949953421311, 140737488355327, 2251799813685247, 140737488355327, 140737488355327, 18014398509481983, 36028797018963967, 72057594037927935, 144115188075855871, 288230376151711743, 576460752303423487, 288230376151711743, 2305843009213693951, 288230376151711743, 9223372036854775807, 288230376151711743, 36893488147419103231, 73786976294838206463, 147573952589676412927, 295147905179352825855, 590295810358705651711, 1180591620717411303423, 590295810358705651711, 4722366482869645213695, 590295810358705651711, 590295810358705651711, 28924494707576576933887, 75557863725914323419135, 151115727451828646838271, 302231454903657293676543]
theorem turnoutlaw01_WordCut.tab6 : rtab .any (opsOf Try.f11 6) = turnoutlaw01_WordCut.T6 := by kernel_rfl
theorem turnoutlaw01_WordCut.bits6 : waitsOk turnoutlaw01_WordCut.T6.2 turnoutlaw01_WordCut.B6 = true := by kernel_rfl
set_option maxHeartbeats 8000000 in
set_option maxRecDepth 100000 in
theorem turnoutlaw01_WordCut.calls (k : Nat) (a0_0 : Int) (a0_1 : Int) (a1_0 : Int) (a1_1 : Int) (a2 : Int) (a3 : Int) (r : Bool) (w : World) (h : turnoutlaw01_WordCut.f k a0_0 a0_1 a1_0 a1_1 a2 a3 = some r) (hr_ : Aside0 (r = true)) (HAW20 : Aside0 (∀ k r, turnoutlaw01_awake.f k = some r → r = true)) :
   Calls Try.prog 11 #[.agg #[.int .u64 a0_0, .int .u64 a0_1], .agg #[.int .u64 a1_0, .int .u64 a1_1], .int .i64 a2, .int .i64 a3] w fun e w' => e = .returned (.bool r) ∧ Below w.heap.size w w' := by
  have hu24 := Try.underlying24
  have HB := Aside0.mk (Below.refl w.heap.size w)
  have H : ((word_Cut.f a0_0 a0_1 (wrap64 (Int.tmod (IntKind.u64.wrap (a2)) 131))).bind fun bt184 => ((word_Cut.f a1_0 a1_1 (wrap64 (Int.tmod (IntKind.u64.wrap (a2)) 131))).bind fun bt186 => ((turnoutlaw01_awake.f k).bind fun t190 => (if t190 = true then ((word_Mask.f (wrap64 (Int.tmod (IntKind.u64.wrap (a2)) 131))).bind fun bt191 => ((word_Compare.f bt184.1 bt184.2 bt191.1 bt191.2).bind fun t193 => (if t193 > 0 then (turnoutlaw01_WordCut.j0 k (wrap64 (Int.tmod (IntKind.u64.wrap (a2)) 131)) true a0_0 a0_1 a1_0 a1_1 bt184.1 bt184.2 bt186.1 bt186.2) else ((word_Size.f k bt184.1 bt184.2).bind fun t194 => (if t194 > (wrap64 (Int.tmod (IntKind.u64.wrap (a2)) 131)) then (turnoutlaw01_WordCut.j0 k (wrap64 (Int.tmod (IntKind.u64.wrap (a2)) 131)) true a0_0 a0_1 a1_0 a1_1 bt184.1 bt184.2 bt186.1 bt186.2) else ((word_Cut.f bt184.1 bt184.2 (wrap64 (Int.tmod (IntKind.u64.wrap (a2)) 131))).bind fun bt195 => (if (!(bt195.1 == bt184.1) || (!(bt195.2 == bt184.2))) = true then (turnoutlaw01_WordCut.j0 k (wrap64 (Int.tmod (IntKind.u64.wrap (a2)) 131)) true a0_0 a0_1 a1_0 a1_1 bt184.1 bt184.2 bt186.1 bt186.2) else ((word_Cut.f a0_0 a0_1 (wrap64 (Int.tmod (IntKind.u64.wrap (a3)) 131))).bind fun bt197 => ((word_Cut.f bt197.1 bt197.2 (wrap64 (Int.tmod (IntKind.u64.wrap (a2)) 131))).bind fun bt199 => ((word_Cut.f a0_0 a0_1 (mn (wrap64 (Int.tmod (IntKind.u64.wrap (a2)) 131)) (wrap64 (Int.tmod (IntKind.u64.wrap (a3)) 131)))).bind fun bt201 => (turnoutlaw01_WordCut.j0 k (wrap64 (Int.tmod (IntKind.u64.wrap (a2)) 131)) (!(bt199.1 == bt201.1) || (!(bt199.2 == bt201.2))) a0_0 a0_1 a1_0 a1_1 bt184.1 bt184.2 bt186.1 bt186.2))))))))))) else (turnoutlaw01_WordCut.j0 k (wrap64 (Int.tmod (IntKind.u64.wrap (a2)) 131)) true a0_0 a0_1 a1_0 a1_1 bt184.1 bt184.2 bt186.1 bt186.2))))) = some r := h
  clear h
  replace H := Option.bind_eq_some_iff.mp H
  obtain ⟨⟨t184, t185⟩, A50, H⟩ := H
  replace H : ((word_Cut.f a1_0 a1_1 (wrap64 (Int.tmod (IntKind.u64.wrap (a2)) 131))).bind fun bt186 => ((turnoutlaw01_awake.f k).bind fun t190 => (if t190 = true then ((word_Mask.f (wrap64 (Int.tmod (IntKind.u64.wrap (a2)) 131))).bind fun bt191 => ((word_Compare.f t184 t185 bt191.1 bt191.2).bind fun t193 => (if t193 > 0 then (turnoutlaw01_WordCut.j0 k (wrap64 (Int.tmod (IntKind.u64.wrap (a2)) 131)) true a0_0 a0_1 a1_0 a1_1 t184 t185 bt186.1 bt186.2) else ((word_Size.f k t184 t185).bind fun t194 => (if t194 > (wrap64 (Int.tmod (IntKind.u64.wrap (a2)) 131)) then (turnoutlaw01_WordCut.j0 k (wrap64 (Int.tmod (IntKind.u64.wrap (a2)) 131)) true a0_0 a0_1 a1_0 a1_1 t184 t185 bt186.1 bt186.2) else ((word_Cut.f t184 t185 (wrap64 (Int.tmod (IntKind.u64.wrap (a2)) 131))).bind fun bt195 => (if (!(bt195.1 == t184) || (!(bt195.2 == t185))) = true then (turnoutlaw01_WordCut.j0 k (wrap64 (Int.tmod (IntKind.u64.wrap (a2)) 131)) true a0_0 a0_1 a1_0 a1_1 t184 t185 bt186.1 bt186.2) else ((word_Cut.f a0_0 a0_1 (wrap64 (Int.tmod (IntKind.u64.wrap (a3)) 131))).bind fun bt197 => ((word_Cut.f bt197.1 bt197.2 (wrap64 (Int.tmod (IntKind.u64.wrap (a2)) 131))).bind fun bt199 => ((word_Cut.f a0_0 a0_1 (mn (wrap64 (Int.tmod (IntKind.u64.wrap (a2)) 131)) (wrap64 (Int.tmod (IntKind.u64.wrap (a3)) 131)))).bind fun bt201 => (turnoutlaw01_WordCut.j0 k (wrap64 (Int.tmod (IntKind.u64.wrap (a2)) 131)) (!(bt199.1 == bt201.1) || (!(bt199.2 == bt201.2))) a0_0 a0_1 a1_0 a1_1 t184 t185 bt186.1 bt186.2))))))))))) else (turnoutlaw01_WordCut.j0 k (wrap64 (Int.tmod (IntKind.u64.wrap (a2)) 131)) true a0_0 a0_1 a1_0 a1_1 t184 t185 bt186.1 bt186.2)))) = some r := H
  have A5 := Aside0.mk A50
  clear A50
  replace H := Option.bind_eq_some_iff.mp H
  obtain ⟨⟨t186, t187⟩, A60, H⟩ := H
  replace H : ((turnoutlaw01_awake.f k).bind fun t190 => (if t190 = true then ((word_Mask.f (wrap64 (Int.tmod (IntKind.u64.wrap (a2)) 131))).bind fun bt191 => ((word_Compare.f t184 t185 bt191.1 bt191.2).bind fun t193 => (if t193 > 0 then (turnoutlaw01_WordCut.j0 k (wrap64 (Int.tmod (IntKind.u64.wrap (a2)) 131)) true a0_0 a0_1 a1_0 a1_1 t184 t185 t186 t187) else ((word_Size.f k t184 t185).bind fun t194 => (if t194 > (wrap64 (Int.tmod (IntKind.u64.wrap (a2)) 131)) then (turnoutlaw01_WordCut.j0 k (wrap64 (Int.tmod (IntKind.u64.wrap (a2)) 131)) true a0_0 a0_1 a1_0 a1_1 t184 t185 t186 t187) else ((word_Cut.f t184 t185 (wrap64 (Int.tmod (IntKind.u64.wrap (a2)) 131))).bind fun bt195 => (if (!(bt195.1 == t184) || (!(bt195.2 == t185))) = true then (turnoutlaw01_WordCut.j0 k (wrap64 (Int.tmod (IntKind.u64.wrap (a2)) 131)) true a0_0 a0_1 a1_0 a1_1 t184 t185 t186 t187) else ((word_Cut.f a0_0 a0_1 (wrap64 (Int.tmod (IntKind.u64.wrap (a3)) 131))).bind fun bt197 => ((word_Cut.f bt197.1 bt197.2 (wrap64 (Int.tmod (IntKind.u64.wrap (a2)) 131))).bind fun bt199 => ((word_Cut.f a0_0 a0_1 (mn (wrap64 (Int.tmod (IntKind.u64.wrap (a2)) 131)) (wrap64 (Int.tmod (IntKind.u64.wrap (a3)) 131)))).bind fun bt201 => (turnoutlaw01_WordCut.j0 k (wrap64 (Int.tmod (IntKind.u64.wrap (a2)) 131)) (!(bt199.1 == bt201.1) || (!(bt199.2 == bt201.2))) a0_0 a0_1 a1_0 a1_1 t184 t185 t186 t187))))))))))) else (turnoutlaw01_WordCut.j0 k (wrap64 (Int.tmod (IntKind.u64.wrap (a2)) 131)) true a0_0 a0_1 a1_0 a1_1 t184 t185 t186 t187))) = some r := H
  have A6 := Aside0.mk A60
  clear A60
  have HC7 := Aside0.mk H
  clear H
  go_enter Try.func11, Try.ntmps11
  try go_wp2_with (first | ((with_reducible refine gate_dst (N := 4) rfl ?_); (try (refine gate_guard (by rfl) ?_; dsimp only)); refine box_event ?hg (N := 4) ?hd (cs := #[.int .u64 a0_0, .int .u64 a0_1]) (t := 24) ?hr ?_; (case hd => rfl); (case hg => rfl); (case hr => first | (go_simp; done) | (go_simp; rfl)); intro gb182 hg w8 hbox hb; have BK182 := Aside0.mk (hbox); have GW182 := Aside0.mk ((by rw [hg]; exact (below_size (by repeat (first | (with_reducible first | exact HB.out | apply below_alloc | apply pw_below_drewN | apply below_drew1) | exact HB.out))) : w.heap.size ≤ gb182)); have GE182 := Aside0.mk ((by rw [hg]; exact (below_size (by repeat (first | (with_reducible first | exact HB.out | apply below_alloc | apply pw_below_drewN | apply below_drew1) | exact HB.out))) : w.heap.size ≤ gb182)); replace HB := Aside0.mk (below_step (by repeat (first | (with_reducible first | exact HB.out | apply below_alloc | apply pw_below_drewN | apply below_drew1) | exact HB.out)) hb); clear hb hbox hg) | ((with_reducible refine gate_dst (N := 5) rfl ?_); (try (refine gate_guard (by rfl) ?_; dsimp only)); refine box_event ?hg (N := 5) ?hd (cs := #[.int .u64 a1_0, .int .u64 a1_1]) (t := 24) ?hr ?_; (case hd => rfl); (case hg => rfl); (case hr => first | (go_simp; done) | (go_simp; rfl)); intro gb183 hg w9 hbox hb; have BK183 := Aside0.mk (hbox); have GW183 := Aside0.mk ((by rw [hg]; exact (below_size (by repeat (first | (with_reducible first | exact HB.out | apply below_alloc | apply pw_below_drewN | apply below_drew1 | refine below_set ?_ GE182.out) | exact HB.out))) : w.heap.size ≤ gb183)); have GE183 := Aside0.mk ((by rw [hg]; exact (below_size (by repeat (first | (with_reducible first | exact HB.out | apply below_alloc | apply pw_below_drewN | apply below_drew1 | refine below_set ?_ GE182.out) | exact HB.out))) : w.heap.size ≤ gb183)); replace HB := Aside0.mk (below_step (by repeat (first | (with_reducible first | exact HB.out | apply below_alloc | apply pw_below_drewN | apply below_drew1 | refine below_set ?_ GE182.out) | exact HB.out)) hb); have NB182_183 := Aside0.mk ((by rw [hg]; exact Nat.ne_of_lt (blk_lt (bkA BK182.out)) : gb182 ≠ gb183)); have NB183_182 := Aside0.mk ((by rw [hg]; exact Nat.ne_of_gt (blk_lt (bkA BK182.out)) : gb183 ≠ gb182)); replace BK182 := Aside0.mk (blk_below (bkA BK182.out) hb); clear hb hbox hg))
  have n0_ := Aside0.mk (blk_drew BK182.out)
  have n1_ := Aside0.mk (blk_drew BK183.out)
  have n2_ := Aside0.mk (below_drew1 HB.out)
  clear BK182
  clear BK183
  clear HB
  have BK182 := n0_
  have BK183 := n1_
  have HB := n2_
  clear n0_ n1_ n2_
  refine start_ (n := 10) (S := fun w' => w'.cell? ⟨gb182, 0, none⟩ = some (.int .u64 a0_0) ∧ w'.cell? ⟨gb182, 1, none⟩ = some (.int .u64 a0_1) ∧ w'.cell? ⟨gb183, 0, none⟩ = some (.int .u64 a1_0) ∧ w'.cell? ⟨gb183, 1, none⟩ = some (.int .u64 a1_1)) (ds := []) #[F,F,F,F,F,F,F,F,F,F] (by kernel_rfl) rfl rfl ⟨(blk_cell BK182.out 0).trans rfl, (blk_cell BK182.out 1).trans rfl, (blk_cell BK183.out 0).trans rfl, (blk_cell BK183.out 1).trans rfl⟩ (fun hHeld => ?_); refine with_tabW turnoutlaw01_WordCut.tab3 turnoutlaw01_WordCut.bits3 (fun HT_ HW_ => ?_)
  generalize w9.drew = w10 at BK182 BK183 HB hHeld ⊢
  refine pure_ (i := 1) (N := some 22) (v := ?_) (a' := ?_) #[F,T,F,F,F,F,F,F,F,F] rfl rfl (any_of HT_.out (by kernel_rfl)) (fun _ _ _ h => h) (Or.inl ⟨by rfl, ?_⟩) ?_ ?_
  rotate_left
  ·
   intro w'
   go_simp
   with_reducible rfl
  rotate_left
  ·
   simp only [Act.put, List.setIfInBounds_toArray, List.set_cons_zero, List.set_cons_succ, i64_w, i32_w]
   rfl
  refine pure_ (i := 4) (N := some 25) (v := ?_) (a' := ?_) #[F,T,F,F,T,F,F,F,F,F] rfl rfl (any_of HT_.out (by kernel_rfl)) (fun _ _ _ h => h) (Or.inl ⟨by rfl, ?_⟩) ?_ ?_
  rotate_left
  ·
   intro w'
   go_simp
   with_reducible rfl
  rotate_left
  ·
   simp only [Act.put, List.setIfInBounds_toArray, List.set_cons_zero, List.set_cons_succ, i64_w, i32_w]
   rfl
  refine take_ (i := 0) (N := some 21) (v := ?_) (a' := ?_) #[T,T,F,F,T,F,F,F,F,F] rfl rfl (take_ofW HT_.out HW_.out (by kernel_rfl)) (fun _ _ _ h => h) (Or.inl ⟨by rfl, ?_⟩) hHeld ?_ ?_
  rotate_left
  ·
   rintro w' ⟨s0, s1, s2, s3⟩
   go_simp
   with_reducible rfl
  rotate_left
  ·
   simp only [Act.put, List.setIfInBounds_toArray, List.set_cons_zero, List.set_cons_succ, i64_w, i32_w]
   rfl
  refine take_ (i := 3) (N := some 24) (v := ?_) (a' := ?_) #[T,T,F,T,T,F,F,F,F,F] rfl rfl (take_ofW HT_.out HW_.out (by kernel_rfl)) (fun _ _ _ h => h) (Or.inl ⟨by rfl, ?_⟩) hHeld ?_ ?_
  rotate_left
  ·
   rintro w' ⟨s0, s1, s2, s3⟩
   go_simp
   with_reducible rfl
  rotate_left
  ·
   simp only [Act.put, List.setIfInBounds_toArray, List.set_cons_zero, List.set_cons_succ, i64_w, i32_w]
   rfl
  refine join_ (σ := Nat × Nat) 2 #[T,T,T,T,T,T,T,T,F,F] (fun s_ => [(23, .agg #[.int .u64 t184, .int .u64 t185]), (26, .agg #[.int .u64 t186, .int .u64 t187]), (11, .pointer (some ⟨s_.1, 0, none⟩)), (12, .pointer (some ⟨s_.2, 0, none⟩))]) (fun s_ w' => (w'.cell? ⟨gb182, 0, none⟩ = some (.int .u64 a0_0) ∧ w'.cell? ⟨gb182, 1, none⟩ = some (.int .u64 a0_1) ∧ w'.cell? ⟨gb183, 0, none⟩ = some (.int .u64 a1_0) ∧ w'.cell? ⟨gb183, 1, none⟩ = some (.int .u64 a1_1)) ∧ (w'.heap[gb182]? = some (.cells #[.int .u64 a0_0, .int .u64 a0_1] 24 (0, 0))) ∧ (w'.heap[gb183]? = some (.cells #[.int .u64 a1_0, .int .u64 a1_1] 24 (0, 0))) ∧ (w'.heap[s_.1]? = some (.cells #[.int .u64 0, .int .u64 0] 24 (0, 0))) ∧ (w'.heap[s_.2]? = some (.cells #[.int .u64 0, .int .u64 0] 24 (0, 0))) ∧ (w.heap.size ≤ s_.1) ∧ (w.heap.size ≤ s_.1) ∧ (gb182 ≠ s_.1) ∧ (s_.1 ≠ gb182) ∧ (gb183 ≠ s_.1) ∧ (s_.1 ≠ gb183) ∧ (s_.2 ≠ s_.1) ∧ (s_.1 ≠ s_.2) ∧ (w.heap.size ≤ s_.2) ∧ (w.heap.size ≤ s_.2) ∧ (gb182 ≠ s_.2) ∧ (s_.2 ≠ gb182) ∧ (gb183 ≠ s_.2) ∧ (s_.2 ≠ gb183) ∧ (Below w.heap.size w w')) ?_ ?_
  rotate_left
  ·
   intro hJ2_5_6_7
   refine join_ (σ := Nat) 3 #[T,T,T,T,T,T,T,F,F,F] (fun s_ => [(23, .agg #[.int .u64 t184, .int .u64 t185]), (26, .agg #[.int .u64 t186, .int .u64 t187]), (11, .pointer (some ⟨s_, 0, none⟩))]) (fun s_ w' => (w'.cell? ⟨gb182, 0, none⟩ = some (.int .u64 a0_0) ∧ w'.cell? ⟨gb182, 1, none⟩ = some (.int .u64 a0_1) ∧ w'.cell? ⟨gb183, 0, none⟩ = some (.int .u64 a1_0) ∧ w'.cell? ⟨gb183, 1, none⟩ = some (.int .u64 a1_1)) ∧ (w'.heap[gb182]? = some (.cells #[.int .u64 a0_0, .int .u64 a0_1] 24 (0, 0))) ∧ (w'.heap[gb183]? = some (.cells #[.int .u64 a1_0, .int .u64 a1_1] 24 (0, 0))) ∧ (w'.heap[s_]? = some (.cells #[.int .u64 0, .int .u64 0] 24 (0, 0))) ∧ (w.heap.size ≤ s_) ∧ (w.heap.size ≤ s_) ∧ (gb182 ≠ s_) ∧ (s_ ≠ gb182) ∧ (gb183 ≠ s_) ∧ (s_ ≠ gb183) ∧ (Below w.heap.size w w')) ?_ ?_
   rotate_left
   ·
    intro hJ2_5_6
    refine join_ (σ := Nat) 3 #[T,T,T,T,T,T,F,T,F,F] (fun s_ => [(23, .agg #[.int .u64 t184, .int .u64 t185]), (26, .agg #[.int .u64 t186, .int .u64 t187]), (12, .pointer (some ⟨s_, 0, none⟩))]) (fun s_ w' => (w'.cell? ⟨gb182, 0, none⟩ = some (.int .u64 a0_0) ∧ w'.cell? ⟨gb182, 1, none⟩ = some (.int .u64 a0_1) ∧ w'.cell? ⟨gb183, 0, none⟩ = some (.int .u64 a1_0) ∧ w'.cell? ⟨gb183, 1, none⟩ = some (.int .u64 a1_1)) ∧ (w'.heap[gb182]? = some (.cells #[.int .u64 a0_0, .int .u64 a0_1] 24 (0, 0))) ∧ (w'.heap[gb183]? = some (.cells #[.int .u64 a1_0, .int .u64 a1_1] 24 (0, 0))) ∧ (w'.heap[s_]? = some (.cells #[.int .u64 0, .int .u64 0] 24 (0, 0))) ∧ (w.heap.size ≤ s_) ∧ (w.heap.size ≤ s_) ∧ (gb182 ≠ s_) ∧ (s_ ≠ gb182) ∧ (gb183 ≠ s_) ∧ (s_ ≠ gb183) ∧ (Below w.heap.size w w')) ?_ ?_
    rotate_left
    ·
     intro hJ2_5_7
     refine join_ (σ := Nat × Nat) 3 #[T,T,T,T,T,F,T,T,F,F] (fun s_ => [(23, .agg #[.int .u64 t184, .int .u64 t185]), (11, .pointer (some ⟨s_.1, 0, none⟩)), (12, .pointer (some ⟨s_.2, 0, none⟩))]) (fun s_ w' => (w'.cell? ⟨gb182, 0, none⟩ = some (.int .u64 a0_0) ∧ w'.cell? ⟨gb182, 1, none⟩ = some (.int .u64 a0_1) ∧ w'.cell? ⟨gb183, 0, none⟩ = some (.int .u64 a1_0) ∧ w'.cell? ⟨gb183, 1, none⟩ = some (.int .u64 a1_1)) ∧ (w'.heap[gb182]? = some (.cells #[.int .u64 a0_0, .int .u64 a0_1] 24 (0, 0))) ∧ (w'.heap[gb183]? = some (.cells #[.int .u64 a1_0, .int .u64 a1_1] 24 (0, 0))) ∧ (w'.heap[s_.1]? = some (.cells #[.int .u64 0, .int .u64 0] 24 (0, 0))) ∧ (w'.heap[s_.2]? = some (.cells #[.int .u64 0, .int .u64 0] 24 (0, 0))) ∧ (w.heap.size ≤ s_.1) ∧ (w.heap.size ≤ s_.1) ∧ (gb182 ≠ s_.1) ∧ (s_.1 ≠ gb182) ∧ (gb183 ≠ s_.1) ∧ (s_.1 ≠ gb183) ∧ (s_.2 ≠ s_.1) ∧ (s_.1 ≠ s_.2) ∧ (w.heap.size ≤ s_.2) ∧ (w.heap.size ≤ s_.2) ∧ (gb182 ≠ s_.2) ∧ (s_.2 ≠ gb182) ∧ (gb183 ≠ s_.2) ∧ (s_.2 ≠ gb183) ∧ (Below w.heap.size w w')) ?_ ?_
     rotate_left
     ·
      intro hJ2_6_7
      refine join_ (σ := Unit) 4 #[T,T,T,T,T,T,F,F,F,F] (fun s_ => [(23, .agg #[.int .u64 t184, .int .u64 t185]), (26, .agg #[.int .u64 t186, .int .u64 t187])]) (fun s_ w' => (w'.cell? ⟨gb182, 0, none⟩ = some (.int .u64 a0_0) ∧ w'.cell? ⟨gb182, 1, none⟩ = some (.int .u64 a0_1) ∧ w'.cell? ⟨gb183, 0, none⟩ = some (.int .u64 a1_0) ∧ w'.cell? ⟨gb183, 1, none⟩ = some (.int .u64 a1_1)) ∧ (w'.heap[gb182]? = some (.cells #[.int .u64 a0_0, .int .u64 a0_1] 24 (0, 0))) ∧ (w'.heap[gb183]? = some (.cells #[.int .u64 a1_0, .int .u64 a1_1] 24 (0, 0))) ∧ (Below w.heap.size w w')) ?_ ?_
      rotate_left
      ·
       intro hJ2_5
       refine join_ (σ := Nat) 4 #[T,T,T,T,T,F,T,F,F,F] (fun s_ => [(23, .agg #[.int .u64 t184, .int .u64 t185]), (11, .pointer (some ⟨s_, 0, none⟩))]) (fun s_ w' => (w'.cell? ⟨gb182, 0, none⟩ = some (.int .u64 a0_0) ∧ w'.cell? ⟨gb182, 1, none⟩ = some (.int .u64 a0_1) ∧ w'.cell? ⟨gb183, 0, none⟩ = some (.int .u64 a1_0) ∧ w'.cell? ⟨gb183, 1, none⟩ = some (.int .u64 a1_1)) ∧ (w'.heap[gb182]? = some (.cells #[.int .u64 a0_0, .int .u64 a0_1] 24 (0, 0))) ∧ (w'.heap[gb183]? = some (.cells #[.int .u64 a1_0, .int .u64 a1_1] 24 (0, 0))) ∧ (w'.heap[s_]? = some (.cells #[.int .u64 0, .int .u64 0] 24 (0, 0))) ∧ (w.heap.size ≤ s_) ∧ (w.heap.size ≤ s_) ∧ (gb182 ≠ s_) ∧ (s_ ≠ gb182) ∧ (gb183 ≠ s_) ∧ (s_ ≠ gb183) ∧ (Below w.heap.size w w')) ?_ ?_
       rotate_left
       ·
        intro hJ2_6
        refine join_ (σ := Nat) 4 #[T,T,T,T,T,F,F,T,F,F] (fun s_ => [(23, .agg #[.int .u64 t184, .int .u64 t185]), (12, .pointer (some ⟨s_, 0, none⟩))]) (fun s_ w' => (w'.cell? ⟨gb182, 0, none⟩ = some (.int .u64 a0_0) ∧ w'.cell? ⟨gb182, 1, none⟩ = some (.int .u64 a0_1) ∧ w'.cell? ⟨gb183, 0, none⟩ = some (.int .u64 a1_0) ∧ w'.cell? ⟨gb183, 1, none⟩ = some (.int .u64 a1_1)) ∧ (w'.heap[gb182]? = some (.cells #[.int .u64 a0_0, .int .u64 a0_1] 24 (0, 0))) ∧ (w'.heap[gb183]? = some (.cells #[.int .u64 a1_0, .int .u64 a1_1] 24 (0, 0))) ∧ (w'.heap[s_]? = some (.cells #[.int .u64 0, .int .u64 0] 24 (0, 0))) ∧ (w.heap.size ≤ s_) ∧ (w.heap.size ≤ s_) ∧ (gb182 ≠ s_) ∧ (s_ ≠ gb182) ∧ (gb183 ≠ s_) ∧ (s_ ≠ gb183) ∧ (Below w.heap.size w w')) ?_ ?_
        rotate_left
        ·
         intro hJ2_7
         refine join_ (σ := Nat × Nat) 4 #[T,T,F,T,T,F,T,T,F,F] (fun s_ => [(11, .pointer (some ⟨s_.1, 0, none⟩)), (12, .pointer (some ⟨s_.2, 0, none⟩))]) (fun s_ w' => (w'.cell? ⟨gb182, 0, none⟩ = some (.int .u64 a0_0) ∧ w'.cell? ⟨gb182, 1, none⟩ = some (.int .u64 a0_1) ∧ w'.cell? ⟨gb183, 0, none⟩ = some (.int .u64 a1_0) ∧ w'.cell? ⟨gb183, 1, none⟩ = some (.int .u64 a1_1)) ∧ (w'.heap[gb182]? = some (.cells #[.int .u64 a0_0, .int .u64 a0_1] 24 (0, 0))) ∧ (w'.heap[gb183]? = some (.cells #[.int .u64 a1_0, .int .u64 a1_1] 24 (0, 0))) ∧ (w'.heap[s_.1]? = some (.cells #[.int .u64 0, .int .u64 0] 24 (0, 0))) ∧ (w'.heap[s_.2]? = some (.cells #[.int .u64 0, .int .u64 0] 24 (0, 0))) ∧ (w.heap.size ≤ s_.1) ∧ (w.heap.size ≤ s_.1) ∧ (gb182 ≠ s_.1) ∧ (s_.1 ≠ gb182) ∧ (gb183 ≠ s_.1) ∧ (s_.1 ≠ gb183) ∧ (s_.2 ≠ s_.1) ∧ (s_.1 ≠ s_.2) ∧ (w.heap.size ≤ s_.2) ∧ (w.heap.size ≤ s_.2) ∧ (gb182 ≠ s_.2) ∧ (s_.2 ≠ gb182) ∧ (gb183 ≠ s_.2) ∧ (s_.2 ≠ gb183) ∧ (Below w.heap.size w w')) ?_ ?_
         rotate_left
         ·
          intro hJ6_7
          refine join_ (σ := Unit) 5 #[T,T,T,T,T,F,F,F,F,F] (fun s_ => [(23, .agg #[.int .u64 t184, .int .u64 t185])]) (fun s_ w' => (w'.cell? ⟨gb182, 0, none⟩ = some (.int .u64 a0_0) ∧ w'.cell? ⟨gb182, 1, none⟩ = some (.int .u64 a0_1) ∧ w'.cell? ⟨gb183, 0, none⟩ = some (.int .u64 a1_0) ∧ w'.cell? ⟨gb183, 1, none⟩ = some (.int .u64 a1_1)) ∧ (w'.heap[gb182]? = some (.cells #[.int .u64 a0_0, .int .u64 a0_1] 24 (0, 0))) ∧ (w'.heap[gb183]? = some (.cells #[.int .u64 a1_0, .int .u64 a1_1] 24 (0, 0))) ∧ (Below w.heap.size w w')) ?_ ?_
          rotate_left
          ·
           intro hJ2
           refine join_ (σ := Nat) 5 #[T,T,F,T,T,F,T,F,F,F] (fun s_ => [(11, .pointer (some ⟨s_, 0, none⟩))]) (fun s_ w' => (w'.cell? ⟨gb182, 0, none⟩ = some (.int .u64 a0_0) ∧ w'.cell? ⟨gb182, 1, none⟩ = some (.int .u64 a0_1) ∧ w'.cell? ⟨gb183, 0, none⟩ = some (.int .u64 a1_0) ∧ w'.cell? ⟨gb183, 1, none⟩ = some (.int .u64 a1_1)) ∧ (w'.heap[gb182]? = some (.cells #[.int .u64 a0_0, .int .u64 a0_1] 24 (0, 0))) ∧ (w'.heap[gb183]? = some (.cells #[.int .u64 a1_0, .int .u64 a1_1] 24 (0, 0))) ∧ (w'.heap[s_]? = some (.cells #[.int .u64 0, .int .u64 0] 24 (0, 0))) ∧ (w.heap.size ≤ s_) ∧ (w.heap.size ≤ s_) ∧ (gb182 ≠ s_) ∧ (s_ ≠ gb182) ∧ (gb183 ≠ s_) ∧ (s_ ≠ gb183) ∧ (Below w.heap.size w w')) ?_ ?_
           rotate_left
           ·
            intro hJ6
            refine join_ (σ := Nat) 5 #[T,T,F,T,T,F,F,T,F,F] (fun s_ => [(12, .pointer (some ⟨s_, 0, none⟩))]) (fun s_ w' => (w'.cell? ⟨gb182, 0, none⟩ = some (.int .u64 a0_0) ∧ w'.cell? ⟨gb182, 1, none⟩ = some (.int .u64 a0_1) ∧ w'.cell? ⟨gb183, 0, none⟩ = some (.int .u64 a1_0) ∧ w'.cell? ⟨gb183, 1, none⟩ = some (.int .u64 a1_1)) ∧ (w'.heap[gb182]? = some (.cells #[.int .u64 a0_0, .int .u64 a0_1] 24 (0, 0))) ∧ (w'.heap[gb183]? = some (.cells #[.int .u64 a1_0, .int .u64 a1_1] 24 (0, 0))) ∧ (w'.heap[s_]? = some (.cells #[.int .u64 0, .int .u64 0] 24 (0, 0))) ∧ (w.heap.size ≤ s_) ∧ (w.heap.size ≤ s_) ∧ (gb182 ≠ s_) ∧ (s_ ≠ gb182) ∧ (gb183 ≠ s_) ∧ (s_ ≠ gb183) ∧ (Below w.heap.size w w')) ?_ ?_
            rotate_left
            ·
             intro hJ7
             refine three_ (i := 2) (j := 6) (k := 7) (Ni := some 23) (Nj := some 11) (Nk := some 12) #[T,T,T,T,T,F,F,F,F,F] #[T,T,F,T,T,F,T,F,F,F] #[T,T,F,T,T,F,F,T,F,F] rfl rfl rfl rfl rfl rfl (three_of HT_.out (by kernel_rfl)) (by decide) (by decide) (by decide) (fun K hK => ?_) (fun K hK => ?_) (fun K hK => ?_)
             ·
              skip
              refine goes_ Try.func34 (by kernel_rfl) rfl #[.agg #[.int .u64 a0_0, .int .u64 a0_1], .int .i64 (wrap64 (Int.tmod (IntKind.u64.wrap (a2)) 131))] (by rfl) rfl rfl (by (try simp only [List.map_toArray, List.map_cons, List.map_nil]); first | done | rfl | (simp only [List.length_drop, List.length_take]; rfl)) ?_
              with_reducible refine (word_Cut.calls a0_0 a0_1 (wrap64 (Int.tmod (IntKind.u64.wrap (a2)) 131)) t184 t185 _ A5.out).mono ?_
              rintro e w11 ⟨rfl, hb⟩
              refine ⟨_, rfl, ?_⟩
              have n0_ := Aside0.mk (blk_below (bkA BK182.out) hb); have n1_ := Aside0.mk (blk_below (bkA BK183.out) hb)
              have n2_ := Aside0.mk (below_step (by repeat (first | (with_reducible first | exact HB.out | apply below_alloc | apply pw_below_drewN | apply below_drew1 | refine below_set ?_ GE182.out | refine below_set ?_ GE183.out) | exact HB.out)) hb)
              clear BK182; clear BK183; clear HB; have BK182 := n0_; have BK183 := n1_; have HB := n2_; clear n0_ n1_ n2_; (try clear hb); (try clear hb2); (try clear hk); (try clear hi)
              refine hK.out _ _ ⟨(blk_cell BK182.out 0).trans rfl, (blk_cell BK182.out 1).trans rfl, (blk_cell BK183.out 0).trans rfl, (blk_cell BK183.out 1).trans rfl⟩ (fun hHeld => ?_)
              clear hK K
              refine norm_ (a' := ?_) ?_ ?_
              rotate_left
              ·
               show Act.put _ (some 23) _ = _
               simp only [Act.put, List.setIfInBounds_toArray, List.set_cons_zero, List.set_cons_succ, i64_w, i32_w]
               rfl
              exact norm_ (by first | (simp only [putAll, Act.put, List.setIfInBounds_toArray, List.set_cons_zero, List.set_cons_succ]; done) | (simp only [putAll, Act.put, List.setIfInBounds_toArray, List.set_cons_zero, List.set_cons_succ]; rfl)) (hJ2 () _ ⟨hHeld, (bkA BK182.out), (bkA BK183.out), (by repeat (first | (with_reducible first | exact HB.out | apply below_alloc | apply pw_below_drewN | apply below_drew1 | refine below_set ?_ GE182.out | refine below_set ?_ GE183.out) | exact HB.out))⟩)
             ·
              skip
              refine box_step ?hg (N := 11) ?hd (cs := #[.int .u64 0, .int .u64 0]) (t := 24) ?hr ?_; (case hd => rfl); (case hg => rfl); (case hr => first | (go_simp; done) | (go_simp; rfl))
              intro gb188 hg w11 hbox hb
              have n0_ := Aside0.mk (blk_below (bkA BK182.out) hb); have n1_ := Aside0.mk (blk_below (bkA BK183.out) hb)
              have n2_ := Aside0.mk (below_step (by repeat (first | (with_reducible first | exact HB.out | apply below_alloc | apply pw_below_drewN | apply below_drew1 | refine below_set ?_ GE182.out | refine below_set ?_ GE183.out) | exact HB.out)) hb)
              have n3_ := Aside0.mk (hbox)
              have n4_ := Aside0.mk ((by rw [hg]; exact (below_size (by repeat (first | (with_reducible first | exact HB.out | apply below_alloc | apply pw_below_drewN | apply below_drew1 | refine below_set ?_ GE182.out | refine below_set ?_ GE183.out) | exact HB.out))) : w.heap.size ≤ gb188))
              have n5_ := Aside0.mk ((by rw [hg]; exact (below_size (by repeat (first | (with_reducible first | exact HB.out | apply below_alloc | apply pw_below_drewN | apply below_drew1 | refine below_set ?_ GE182.out | refine below_set ?_ GE183.out) | exact HB.out))) : w.heap.size ≤ gb188))
              have n6_ := Aside0.mk ((by rw [hg]; exact Nat.ne_of_lt (blk_lt (bkA BK182.out)) : gb182 ≠ gb188))
              have n7_ := Aside0.mk ((by rw [hg]; exact Nat.ne_of_gt (blk_lt (bkA BK182.out)) : gb188 ≠ gb182))
              have n8_ := Aside0.mk ((by rw [hg]; exact Nat.ne_of_lt (blk_lt (bkA BK183.out)) : gb183 ≠ gb188))
              have n9_ := Aside0.mk ((by rw [hg]; exact Nat.ne_of_gt (blk_lt (bkA BK183.out)) : gb188 ≠ gb183))
              clear BK182; clear BK183; clear HB; have BK182 := n0_; have BK183 := n1_; have HB := n2_; have BK188 := n3_; have GW188 := n4_; have GE188 := n5_; have NB182_188 := n6_; have NB188_182 := n7_; have NB183_188 := n8_; have NB188_183 := n9_; clear n0_ n1_ n2_ n3_ n4_ n5_ n6_ n7_ n8_ n9_; clear hb hbox hg
              refine hK.out _ _ ⟨(blk_cell BK182.out 0).trans rfl, (blk_cell BK182.out 1).trans rfl, (blk_cell BK183.out 0).trans rfl, (blk_cell BK183.out 1).trans rfl⟩ (fun hHeld => ?_)
              clear hK K
              refine norm_ (a' := ?_) ?_ ?_
              rotate_left
              ·
               show Act.put _ (some 11) _ = _
               simp only [Act.put, List.setIfInBounds_toArray, List.set_cons_zero, List.set_cons_succ, i64_w, i32_w]
               rfl
              exact norm_ (by first | (simp only [putAll, Act.put, List.setIfInBounds_toArray, List.set_cons_zero, List.set_cons_succ]; done) | (simp only [putAll, Act.put, List.setIfInBounds_toArray, List.set_cons_zero, List.set_cons_succ]; rfl)) (hJ6 (gb188) _ ⟨hHeld, (bkA BK182.out), (bkA BK183.out), (bkA BK188.out), GW188.out, GE188.out, NB182_188.out, NB188_182.out, NB183_188.out, NB188_183.out, (by repeat (first | (with_reducible first | exact HB.out | apply below_alloc | apply pw_below_drewN | apply below_drew1 | refine below_set ?_ GE182.out | refine below_set ?_ GE183.out | refine below_set ?_ GE188.out) | exact HB.out))⟩)
             ·
              skip
              refine box_step ?hg (N := 12) ?hd (cs := #[.int .u64 0, .int .u64 0]) (t := 24) ?hr ?_; (case hd => rfl); (case hg => rfl); (case hr => first | (go_simp; done) | (go_simp; rfl))
              intro gb189 hg w11 hbox hb
              have n0_ := Aside0.mk (blk_below (bkA BK182.out) hb); have n1_ := Aside0.mk (blk_below (bkA BK183.out) hb)
              have n2_ := Aside0.mk (below_step (by repeat (first | (with_reducible first | exact HB.out | apply below_alloc | apply pw_below_drewN | apply below_drew1 | refine below_set ?_ GE182.out | refine below_set ?_ GE183.out) | exact HB.out)) hb)
              have n3_ := Aside0.mk (hbox)
              have n4_ := Aside0.mk ((by rw [hg]; exact (below_size (by repeat (first | (with_reducible first | exact HB.out | apply below_alloc | apply pw_below_drewN | apply below_drew1 | refine below_set ?_ GE182.out | refine below_set ?_ GE183.out) | exact HB.out))) : w.heap.size ≤ gb189))
              have n5_ := Aside0.mk ((by rw [hg]; exact (below_size (by repeat (first | (with_reducible first | exact HB.out | apply below_alloc | apply pw_below_drewN | apply below_drew1 | refine below_set ?_ GE182.out | refine below_set ?_ GE183.out) | exact HB.out))) : w.heap.size ≤ gb189))
              have n6_ := Aside0.mk ((by rw [hg]; exact Nat.ne_of_lt (blk_lt (bkA BK182.out)) : gb182 ≠ gb189))
              have n7_ := Aside0.mk ((by rw [hg]; exact Nat.ne_of_gt (blk_lt (bkA BK182.out)) : gb189 ≠ gb182))
              have n8_ := Aside0.mk ((by rw [hg]; exact Nat.ne_of_lt (blk_lt (bkA BK183.out)) : gb183 ≠ gb189))
              have n9_ := Aside0.mk ((by rw [hg]; exact Nat.ne_of_gt (blk_lt (bkA BK183.out)) : gb189 ≠ gb183))
              clear BK182; clear BK183; clear HB; have BK182 := n0_; have BK183 := n1_; have HB := n2_; have BK189 := n3_; have GW189 := n4_; have GE189 := n5_; have NB182_189 := n6_; have NB189_182 := n7_; have NB183_189 := n8_; have NB189_183 := n9_; clear n0_ n1_ n2_ n3_ n4_ n5_ n6_ n7_ n8_ n9_; clear hb hbox hg
              refine hK.out _ _ ⟨(blk_cell BK182.out 0).trans rfl, (blk_cell BK182.out 1).trans rfl, (blk_cell BK183.out 0).trans rfl, (blk_cell BK183.out 1).trans rfl⟩ (fun hHeld => ?_)
              clear hK K
              refine norm_ (a' := ?_) ?_ ?_
              rotate_left
              ·
               show Act.put _ (some 12) _ = _
               simp only [Act.put, List.setIfInBounds_toArray, List.set_cons_zero, List.set_cons_succ, i64_w, i32_w]
               rfl
              exact norm_ (by first | (simp only [putAll, Act.put, List.setIfInBounds_toArray, List.set_cons_zero, List.set_cons_succ]; done) | (simp only [putAll, Act.put, List.setIfInBounds_toArray, List.set_cons_zero, List.set_cons_succ]; rfl)) (hJ7 (gb189) _ ⟨hHeld, (bkA BK182.out), (bkA BK183.out), (bkA BK189.out), GW189.out, GE189.out, NB182_189.out, NB189_182.out, NB183_189.out, NB189_183.out, (by repeat (first | (with_reducible first | exact HB.out | apply below_alloc | apply pw_below_drewN | apply below_drew1 | refine below_set ?_ GE182.out | refine below_set ?_ GE183.out | refine below_set ?_ GE189.out) | exact HB.out))⟩)
            ·
             skip
             rintro gb189 w12 ⟨hS_, h0_, h1_, h2_, h3_, h4_, h5_, h6_, h7_, h8_, h9_⟩
             have n0_ : Aside0 (w12.heap[gb182]? = some (.cells #[.int .u64 a0_0, .int .u64 a0_1] 24 (0, 0))) := ⟨h0_⟩
             have n1_ : Aside0 (w12.heap[gb183]? = some (.cells #[.int .u64 a1_0, .int .u64 a1_1] 24 (0, 0))) := ⟨h1_⟩
             have n2_ : Aside0 (w12.heap[gb189]? = some (.cells #[.int .u64 0, .int .u64 0] 24 (0, 0))) := ⟨h2_⟩
             have n3_ : Aside0 (w.heap.size ≤ gb189) := ⟨h3_⟩
             have n4_ : Aside0 (w.heap.size ≤ gb189) := ⟨h4_⟩
             have n5_ : Aside0 (gb182 ≠ gb189) := ⟨h5_⟩
             have n6_ : Aside0 (gb189 ≠ gb182) := ⟨h6_⟩
             have n7_ : Aside0 (gb183 ≠ gb189) := ⟨h7_⟩
             have n8_ : Aside0 (gb189 ≠ gb183) := ⟨h8_⟩
             have n9_ : Aside0 (Below w.heap.size w w12) := ⟨h9_⟩
             clear BK182; clear BK183; clear HB; clear h0_ h1_ h2_ h3_ h4_ h5_ h6_ h7_ h8_ h9_; have BK182 := n0_; have BK183 := n1_; have BK189 := n2_; have GW189 := n3_; have GE189 := n4_; have NB182_189 := n5_; have NB189_182 := n6_; have NB183_189 := n7_; have NB189_183 := n8_; have HB := n9_; clear n0_ n1_ n2_ n3_ n4_ n5_ n6_ n7_ n8_ n9_
             have hHeld : w12.cell? ⟨gb182, 0, none⟩ = some (.int .u64 a0_0) ∧ w12.cell? ⟨gb182, 1, none⟩ = some (.int .u64 a0_1) ∧ w12.cell? ⟨gb183, 0, none⟩ = some (.int .u64 a1_0) ∧ w12.cell? ⟨gb183, 1, none⟩ = some (.int .u64 a1_1) := hS_
             refine norm_ (a' := ?_) ?_ ?_
             rotate_left
             ·
              simp only [putAll, Act.put, List.setIfInBounds_toArray, List.set_cons_zero, List.set_cons_succ]
              rfl
             refine two_ (i := 2) (j := 6) (Ni := some 23) (Nj := some 11) #[T,T,T,T,T,F,F,T,F,F] #[T,T,F,T,T,F,T,T,F,F] rfl rfl rfl rfl (two_of HT_.out (by kernel_rfl)) (by decide) (by decide) (fun K hK => ?_) (fun K hK => ?_)
             ·
              skip
              refine goes_ Try.func34 (by kernel_rfl) rfl #[.agg #[.int .u64 a0_0, .int .u64 a0_1], .int .i64 (wrap64 (Int.tmod (IntKind.u64.wrap (a2)) 131))] (by rfl) rfl rfl (by (try simp only [List.map_toArray, List.map_cons, List.map_nil]); first | done | rfl | (simp only [List.length_drop, List.length_take]; rfl)) ?_
              with_reducible refine (word_Cut.calls a0_0 a0_1 (wrap64 (Int.tmod (IntKind.u64.wrap (a2)) 131)) t184 t185 _ A5.out).mono ?_
              rintro e w13 ⟨rfl, hb⟩
              refine ⟨_, rfl, ?_⟩
              have n0_ := Aside0.mk (blk_below (bkA BK182.out) hb); have n1_ := Aside0.mk (blk_below (bkA BK183.out) hb); have n2_ := Aside0.mk (blk_below (bkA BK189.out) hb)
              have n3_ := Aside0.mk (below_step (by repeat (first | (with_reducible first | exact HB.out | apply below_alloc | apply pw_below_drewN | apply below_drew1 | refine below_set ?_ GE182.out | refine below_set ?_ GE183.out | refine below_set ?_ GE189.out) | exact HB.out)) hb)
              clear BK182; clear BK183; clear BK189; clear HB; have BK182 := n0_; have BK183 := n1_; have BK189 := n2_; have HB := n3_; clear n0_ n1_ n2_ n3_; (try clear hb); (try clear hb2); (try clear hk); (try clear hi)
              refine hK.out _ _ ⟨(blk_cell BK182.out 0).trans rfl, (blk_cell BK182.out 1).trans rfl, (blk_cell BK183.out 0).trans rfl, (blk_cell BK183.out 1).trans rfl⟩ (fun hHeld => ?_)
              clear hK K
              refine norm_ (a' := ?_) ?_ ?_
              rotate_left
              ·
               show Act.put _ (some 23) _ = _
               simp only [Act.put, List.setIfInBounds_toArray, List.set_cons_zero, List.set_cons_succ, i64_w, i32_w]
               rfl
              exact norm_ (by first | (simp only [putAll, Act.put, List.setIfInBounds_toArray, List.set_cons_zero, List.set_cons_succ]; done) | (simp only [putAll, Act.put, List.setIfInBounds_toArray, List.set_cons_zero, List.set_cons_succ]; rfl)) (hJ2_7 (gb189) _ ⟨hHeld, (bkA BK182.out), (bkA BK183.out), (bkA BK189.out), GW189.out, GE189.out, NB182_189.out, NB189_182.out, NB183_189.out, NB189_183.out, (by repeat (first | (with_reducible first | exact HB.out | apply below_alloc | apply pw_below_drewN | apply below_drew1 | refine below_set ?_ GE182.out | refine below_set ?_ GE183.out | refine below_set ?_ GE189.out) | exact HB.out))⟩)
             ·
              skip
              refine box_step ?hg (N := 11) ?hd (cs := #[.int .u64 0, .int .u64 0]) (t := 24) ?hr ?_; (case hd => rfl); (case hg => rfl); (case hr => first | (go_simp; done) | (go_simp; rfl))
              intro gb188 hg w13 hbox hb
              have n0_ := Aside0.mk (blk_below (bkA BK182.out) hb); have n1_ := Aside0.mk (blk_below (bkA BK183.out) hb); have n2_ := Aside0.mk (blk_below (bkA BK189.out) hb)
              have n3_ := Aside0.mk (below_step (by repeat (first | (with_reducible first | exact HB.out | apply below_alloc | apply pw_below_drewN | apply below_drew1 | refine below_set ?_ GE182.out | refine below_set ?_ GE183.out | refine below_set ?_ GE189.out) | exact HB.out)) hb)
              have n4_ := Aside0.mk (hbox)
              have n5_ := Aside0.mk ((by rw [hg]; exact (below_size (by repeat (first | (with_reducible first | exact HB.out | apply below_alloc | apply pw_below_drewN | apply below_drew1 | refine below_set ?_ GE182.out | refine below_set ?_ GE183.out | refine below_set ?_ GE189.out) | exact HB.out))) : w.heap.size ≤ gb188))
              have n6_ := Aside0.mk ((by rw [hg]; exact (below_size (by repeat (first | (with_reducible first | exact HB.out | apply below_alloc | apply pw_below_drewN | apply below_drew1 | refine below_set ?_ GE182.out | refine below_set ?_ GE183.out | refine below_set ?_ GE189.out) | exact HB.out))) : w.heap.size ≤ gb188))
              have n7_ := Aside0.mk ((by rw [hg]; exact Nat.ne_of_lt (blk_lt (bkA BK182.out)) : gb182 ≠ gb188))
              have n8_ := Aside0.mk ((by rw [hg]; exact Nat.ne_of_gt (blk_lt (bkA BK182.out)) : gb188 ≠ gb182))
              have n9_ := Aside0.mk ((by rw [hg]; exact Nat.ne_of_lt (blk_lt (bkA BK183.out)) : gb183 ≠ gb188))
              have n10_ := Aside0.mk ((by rw [hg]; exact Nat.ne_of_gt (blk_lt (bkA BK183.out)) : gb188 ≠ gb183))
              have n11_ := Aside0.mk ((by rw [hg]; exact Nat.ne_of_lt (blk_lt (bkA BK189.out)) : gb189 ≠ gb188))
              have n12_ := Aside0.mk ((by rw [hg]; exact Nat.ne_of_gt (blk_lt (bkA BK189.out)) : gb188 ≠ gb189))
              clear BK182; clear BK183; clear BK189; clear HB; have BK182 := n0_; have BK183 := n1_; have BK189 := n2_; have HB := n3_; have BK188 := n4_; have GW188 := n5_; have GE188 := n6_; have NB182_188 := n7_; have NB188_182 := n8_; have NB183_188 := n9_; have NB188_183 := n10_; have NB189_188 := n11_; have NB188_189 := n12_; clear n0_ n1_ n2_ n3_ n4_ n5_ n6_ n7_ n8_ n9_ n10_ n11_ n12_; clear hb hbox hg
              refine hK.out _ _ ⟨(blk_cell BK182.out 0).trans rfl, (blk_cell BK182.out 1).trans rfl, (blk_cell BK183.out 0).trans rfl, (blk_cell BK183.out 1).trans rfl⟩ (fun hHeld => ?_)
              clear hK K
              refine norm_ (a' := ?_) ?_ ?_
              rotate_left
              ·
               show Act.put _ (some 11) _ = _
               simp only [Act.put, List.setIfInBounds_toArray, List.set_cons_zero, List.set_cons_succ, i64_w, i32_w]
               rfl
              exact norm_ (by first | (simp only [putAll, Act.put, List.setIfInBounds_toArray, List.set_cons_zero, List.set_cons_succ]; done) | (simp only [putAll, Act.put, List.setIfInBounds_toArray, List.set_cons_zero, List.set_cons_succ]; rfl)) (hJ6_7 (gb188, gb189) _ ⟨hHeld, (bkA BK182.out), (bkA BK183.out), (bkA BK188.out), (bkA BK189.out), GW188.out, GE188.out, NB182_188.out, NB188_182.out, NB183_188.out, NB188_183.out, NB189_188.out, NB188_189.out, GW189.out, GE189.out, NB182_189.out, NB189_182.out, NB183_189.out, NB189_183.out, (by repeat (first | (with_reducible first | exact HB.out | apply below_alloc | apply pw_below_drewN | apply below_drew1 | refine below_set ?_ GE182.out | refine below_set ?_ GE183.out | refine below_set ?_ GE189.out | refine below_set ?_ GE188.out) | exact HB.out))⟩)
           ·
            skip
            rintro gb188 w12 ⟨hS_, h0_, h1_, h2_, h3_, h4_, h5_, h6_, h7_, h8_, h9_⟩
            have n0_ : Aside0 (w12.heap[gb182]? = some (.cells #[.int .u64 a0_0, .int .u64 a0_1] 24 (0, 0))) := ⟨h0_⟩
            have n1_ : Aside0 (w12.heap[gb183]? = some (.cells #[.int .u64 a1_0, .int .u64 a1_1] 24 (0, 0))) := ⟨h1_⟩
            have n2_ : Aside0 (w12.heap[gb188]? = some (.cells #[.int .u64 0, .int .u64 0] 24 (0, 0))) := ⟨h2_⟩
            have n3_ : Aside0 (w.heap.size ≤ gb188) := ⟨h3_⟩
            have n4_ : Aside0 (w.heap.size ≤ gb188) := ⟨h4_⟩
            have n5_ : Aside0 (gb182 ≠ gb188) := ⟨h5_⟩
            have n6_ : Aside0 (gb188 ≠ gb182) := ⟨h6_⟩
            have n7_ : Aside0 (gb183 ≠ gb188) := ⟨h7_⟩
            have n8_ : Aside0 (gb188 ≠ gb183) := ⟨h8_⟩
            have n9_ : Aside0 (Below w.heap.size w w12) := ⟨h9_⟩
            clear BK182; clear BK183; clear HB; clear h0_ h1_ h2_ h3_ h4_ h5_ h6_ h7_ h8_ h9_; have BK182 := n0_; have BK183 := n1_; have BK188 := n2_; have GW188 := n3_; have GE188 := n4_; have NB182_188 := n5_; have NB188_182 := n6_; have NB183_188 := n7_; have NB188_183 := n8_; have HB := n9_; clear n0_ n1_ n2_ n3_ n4_ n5_ n6_ n7_ n8_ n9_
            have hHeld : w12.cell? ⟨gb182, 0, none⟩ = some (.int .u64 a0_0) ∧ w12.cell? ⟨gb182, 1, none⟩ = some (.int .u64 a0_1) ∧ w12.cell? ⟨gb183, 0, none⟩ = some (.int .u64 a1_0) ∧ w12.cell? ⟨gb183, 1, none⟩ = some (.int .u64 a1_1) := hS_
            refine norm_ (a' := ?_) ?_ ?_
            rotate_left
            ·
             simp only [putAll, Act.put, List.setIfInBounds_toArray, List.set_cons_zero, List.set_cons_succ]
             rfl
            refine two_ (i := 2) (j := 7) (Ni := some 23) (Nj := some 12) #[T,T,T,T,T,F,T,F,F,F] #[T,T,F,T,T,F,T,T,F,F] rfl rfl rfl rfl (two_of HT_.out (by kernel_rfl)) (by decide) (by decide) (fun K hK => ?_) (fun K hK => ?_)
            ·
             skip
             refine goes_ Try.func34 (by kernel_rfl) rfl #[.agg #[.int .u64 a0_0, .int .u64 a0_1], .int .i64 (wrap64 (Int.tmod (IntKind.u64.wrap (a2)) 131))] (by rfl) rfl rfl (by (try simp only [List.map_toArray, List.map_cons, List.map_nil]); first | done | rfl | (simp only [List.length_drop, List.length_take]; rfl)) ?_
             with_reducible refine (word_Cut.calls a0_0 a0_1 (wrap64 (Int.tmod (IntKind.u64.wrap (a2)) 131)) t184 t185 _ A5.out).mono ?_
             rintro e w13 ⟨rfl, hb⟩
             refine ⟨_, rfl, ?_⟩
             have n0_ := Aside0.mk (blk_below (bkA BK182.out) hb); have n1_ := Aside0.mk (blk_below (bkA BK183.out) hb); have n2_ := Aside0.mk (blk_below (bkA BK188.out) hb)
             have n3_ := Aside0.mk (below_step (by repeat (first | (with_reducible first | exact HB.out | apply below_alloc | apply pw_below_drewN | apply below_drew1 | refine below_set ?_ GE182.out | refine below_set ?_ GE183.out | refine below_set ?_ GE188.out) | exact HB.out)) hb)
             clear BK182; clear BK183; clear BK188; clear HB; have BK182 := n0_; have BK183 := n1_; have BK188 := n2_; have HB := n3_; clear n0_ n1_ n2_ n3_; (try clear hb); (try clear hb2); (try clear hk); (try clear hi)
             refine hK.out _ _ ⟨(blk_cell BK182.out 0).trans rfl, (blk_cell BK182.out 1).trans rfl, (blk_cell BK183.out 0).trans rfl, (blk_cell BK183.out 1).trans rfl⟩ (fun hHeld => ?_)
             clear hK K
             refine norm_ (a' := ?_) ?_ ?_
             rotate_left
             ·
              show Act.put _ (some 23) _ = _
              simp only [Act.put, List.setIfInBounds_toArray, List.set_cons_zero, List.set_cons_succ, i64_w, i32_w]
              rfl
             exact norm_ (by first | (simp only [putAll, Act.put, List.setIfInBounds_toArray, List.set_cons_zero, List.set_cons_succ]; done) | (simp only [putAll, Act.put, List.setIfInBounds_toArray, List.set_cons_zero, List.set_cons_succ]; rfl)) (hJ2_6 (gb188) _ ⟨hHeld, (bkA BK182.out), (bkA BK183.out), (bkA BK188.out), GW188.out, GE188.out, NB182_188.out, NB188_182.out, NB183_188.out, NB188_183.out, (by repeat (first | (with_reducible first | exact HB.out | apply below_alloc | apply pw_below_drewN | apply below_drew1 | refine below_set ?_ GE182.out | refine below_set ?_ GE183.out | refine below_set ?_ GE188.out) | exact HB.out))⟩)
            ·
             skip
             refine box_step ?hg (N := 12) ?hd (cs := #[.int .u64 0, .int .u64 0]) (t := 24) ?hr ?_; (case hd => rfl); (case hg => rfl); (case hr => first | (go_simp; done) | (go_simp; rfl))
             intro gb189 hg w13 hbox hb
             have n0_ := Aside0.mk (blk_below (bkA BK182.out) hb); have n1_ := Aside0.mk (blk_below (bkA BK183.out) hb); have n2_ := Aside0.mk (blk_below (bkA BK188.out) hb)
             have n3_ := Aside0.mk (below_step (by repeat (first | (with_reducible first | exact HB.out | apply below_alloc | apply pw_below_drewN | apply below_drew1 | refine below_set ?_ GE182.out | refine below_set ?_ GE183.out | refine below_set ?_ GE188.out) | exact HB.out)) hb)
             have n4_ := Aside0.mk (hbox)
             have n5_ := Aside0.mk ((by rw [hg]; exact (below_size (by repeat (first | (with_reducible first | exact HB.out | apply below_alloc | apply pw_below_drewN | apply below_drew1 | refine below_set ?_ GE182.out | refine below_set ?_ GE183.out | refine below_set ?_ GE188.out) | exact HB.out))) : w.heap.size ≤ gb189))
             have n6_ := Aside0.mk ((by rw [hg]; exact (below_size (by repeat (first | (with_reducible first | exact HB.out | apply below_alloc | apply pw_below_drewN | apply below_drew1 | refine below_set ?_ GE182.out | refine below_set ?_ GE183.out | refine below_set ?_ GE188.out) | exact HB.out))) : w.heap.size ≤ gb189))
             have n7_ := Aside0.mk ((by rw [hg]; exact Nat.ne_of_lt (blk_lt (bkA BK182.out)) : gb182 ≠ gb189))
             have n8_ := Aside0.mk ((by rw [hg]; exact Nat.ne_of_gt (blk_lt (bkA BK182.out)) : gb189 ≠ gb182))
             have n9_ := Aside0.mk ((by rw [hg]; exact Nat.ne_of_lt (blk_lt (bkA BK183.out)) : gb183 ≠ gb189))
             have n10_ := Aside0.mk ((by rw [hg]; exact Nat.ne_of_gt (blk_lt (bkA BK183.out)) : gb189 ≠ gb183))
             have n11_ := Aside0.mk ((by rw [hg]; exact Nat.ne_of_lt (blk_lt (bkA BK188.out)) : gb188 ≠ gb189))
             have n12_ := Aside0.mk ((by rw [hg]; exact Nat.ne_of_gt (blk_lt (bkA BK188.out)) : gb189 ≠ gb188))
             clear BK182; clear BK183; clear BK188; clear HB; have BK182 := n0_; have BK183 := n1_; have BK188 := n2_; have HB := n3_; have BK189 := n4_; have GW189 := n5_; have GE189 := n6_; have NB182_189 := n7_; have NB189_182 := n8_; have NB183_189 := n9_; have NB189_183 := n10_; have NB188_189 := n11_; have NB189_188 := n12_; clear n0_ n1_ n2_ n3_ n4_ n5_ n6_ n7_ n8_ n9_ n10_ n11_ n12_; clear hb hbox hg
             refine hK.out _ _ ⟨(blk_cell BK182.out 0).trans rfl, (blk_cell BK182.out 1).trans rfl, (blk_cell BK183.out 0).trans rfl, (blk_cell BK183.out 1).trans rfl⟩ (fun hHeld => ?_)
             clear hK K
             refine norm_ (a' := ?_) ?_ ?_
             rotate_left
             ·
              show Act.put _ (some 12) _ = _
              simp only [Act.put, List.setIfInBounds_toArray, List.set_cons_zero, List.set_cons_succ, i64_w, i32_w]
              rfl
             exact norm_ (by first | (simp only [putAll, Act.put, List.setIfInBounds_toArray, List.set_cons_zero, List.set_cons_succ]; done) | (simp only [putAll, Act.put, List.setIfInBounds_toArray, List.set_cons_zero, List.set_cons_succ]; rfl)) (hJ6_7 (gb188, gb189) _ ⟨hHeld, (bkA BK182.out), (bkA BK183.out), (bkA BK188.out), (bkA BK189.out), GW188.out, GE188.out, NB182_188.out, NB188_182.out, NB183_188.out, NB188_183.out, NB189_188.out, NB188_189.out, GW189.out, GE189.out, NB182_189.out, NB189_182.out, NB183_189.out, NB189_183.out, (by repeat (first | (with_reducible first | exact HB.out | apply below_alloc | apply pw_below_drewN | apply below_drew1 | refine below_set ?_ GE182.out | refine below_set ?_ GE183.out | refine below_set ?_ GE188.out | refine below_set ?_ GE189.out) | exact HB.out))⟩)
          ·
           skip
           rintro _ w12 ⟨hS_, h0_, h1_, h2_⟩
           have n0_ : Aside0 (w12.heap[gb182]? = some (.cells #[.int .u64 a0_0, .int .u64 a0_1] 24 (0, 0))) := ⟨h0_⟩
           have n1_ : Aside0 (w12.heap[gb183]? = some (.cells #[.int .u64 a1_0, .int .u64 a1_1] 24 (0, 0))) := ⟨h1_⟩
           have n2_ : Aside0 (Below w.heap.size w w12) := ⟨h2_⟩
           clear BK182; clear BK183; clear HB; clear h0_ h1_ h2_; have BK182 := n0_; have BK183 := n1_; have HB := n2_; clear n0_ n1_ n2_
           have hHeld : w12.cell? ⟨gb182, 0, none⟩ = some (.int .u64 a0_0) ∧ w12.cell? ⟨gb182, 1, none⟩ = some (.int .u64 a0_1) ∧ w12.cell? ⟨gb183, 0, none⟩ = some (.int .u64 a1_0) ∧ w12.cell? ⟨gb183, 1, none⟩ = some (.int .u64 a1_1) := hS_
           refine norm_ (a' := ?_) ?_ ?_
           rotate_left
           ·
            simp only [putAll, Act.put, List.setIfInBounds_toArray, List.set_cons_zero, List.set_cons_succ]
            rfl
           refine three_ (i := 5) (j := 6) (k := 7) (Ni := some 26) (Nj := some 11) (Nk := some 12) #[T,T,T,T,T,T,F,F,F,F] #[T,T,T,T,T,F,T,F,F,F] #[T,T,T,T,T,F,F,T,F,F] rfl rfl rfl rfl rfl rfl (three_of HT_.out (by kernel_rfl)) (by decide) (by decide) (by decide) (fun K hK => ?_) (fun K hK => ?_) (fun K hK => ?_)
           ·
            skip
            refine goes_ Try.func34 (by kernel_rfl) rfl #[.agg #[.int .u64 a1_0, .int .u64 a1_1], .int .i64 (wrap64 (Int.tmod (IntKind.u64.wrap (a2)) 131))] (by rfl) rfl rfl (by (try simp only [List.map_toArray, List.map_cons, List.map_nil]); first | done | rfl | (simp only [List.length_drop, List.length_take]; rfl)) ?_
            with_reducible refine (word_Cut.calls a1_0 a1_1 (wrap64 (Int.tmod (IntKind.u64.wrap (a2)) 131)) t186 t187 _ A6.out).mono ?_
            rintro e w13 ⟨rfl, hb⟩
            refine ⟨_, rfl, ?_⟩
            have n0_ := Aside0.mk (blk_below (bkA BK182.out) hb); have n1_ := Aside0.mk (blk_below (bkA BK183.out) hb)
            have n2_ := Aside0.mk (below_step (by repeat (first | (with_reducible first | exact HB.out | apply below_alloc | apply pw_below_drewN | apply below_drew1 | refine below_set ?_ GE182.out | refine below_set ?_ GE183.out) | exact HB.out)) hb)
            clear BK182; clear BK183; clear HB; have BK182 := n0_; have BK183 := n1_; have HB := n2_; clear n0_ n1_ n2_; (try clear hb); (try clear hb2); (try clear hk); (try clear hi)
            refine hK.out _ _ ⟨(blk_cell BK182.out 0).trans rfl, (blk_cell BK182.out 1).trans rfl, (blk_cell BK183.out 0).trans rfl, (blk_cell BK183.out 1).trans rfl⟩ (fun hHeld => ?_)
            clear hK K
            refine norm_ (a' := ?_) ?_ ?_
            rotate_left
            ·
             show Act.put _ (some 26) _ = _
             simp only [Act.put, List.setIfInBounds_toArray, List.set_cons_zero, List.set_cons_succ, i64_w, i32_w]
             rfl
            exact norm_ (by first | (simp only [putAll, Act.put, List.setIfInBounds_toArray, List.set_cons_zero, List.set_cons_succ]; done) | (simp only [putAll, Act.put, List.setIfInBounds_toArray, List.set_cons_zero, List.set_cons_succ]; rfl)) (hJ2_5 () _ ⟨hHeld, (bkA BK182.out), (bkA BK183.out), (by repeat (first | (with_reducible first | exact HB.out | apply below_alloc | apply pw_below_drewN | apply below_drew1 | refine below_set ?_ GE182.out | refine below_set ?_ GE183.out) | exact HB.out))⟩)
           ·
            skip
            refine box_step ?hg (N := 11) ?hd (cs := #[.int .u64 0, .int .u64 0]) (t := 24) ?hr ?_; (case hd => rfl); (case hg => rfl); (case hr => first | (go_simp; done) | (go_simp; rfl))
            intro gb188 hg w13 hbox hb
            have n0_ := Aside0.mk (blk_below (bkA BK182.out) hb); have n1_ := Aside0.mk (blk_below (bkA BK183.out) hb)
            have n2_ := Aside0.mk (below_step (by repeat (first | (with_reducible first | exact HB.out | apply below_alloc | apply pw_below_drewN | apply below_drew1 | refine below_set ?_ GE182.out | refine below_set ?_ GE183.out) | exact HB.out)) hb)
            have n3_ := Aside0.mk (hbox)
            have n4_ := Aside0.mk ((by rw [hg]; exact (below_size (by repeat (first | (with_reducible first | exact HB.out | apply below_alloc | apply pw_below_drewN | apply below_drew1 | refine below_set ?_ GE182.out | refine below_set ?_ GE183.out) | exact HB.out))) : w.heap.size ≤ gb188))
            have n5_ := Aside0.mk ((by rw [hg]; exact (below_size (by repeat (first | (with_reducible first | exact HB.out | apply below_alloc | apply pw_below_drewN | apply below_drew1 | refine below_set ?_ GE182.out | refine below_set ?_ GE183.out) | exact HB.out))) : w.heap.size ≤ gb188))
            have n6_ := Aside0.mk ((by rw [hg]; exact Nat.ne_of_lt (blk_lt (bkA BK182.out)) : gb182 ≠ gb188))
            have n7_ := Aside0.mk ((by rw [hg]; exact Nat.ne_of_gt (blk_lt (bkA BK182.out)) : gb188 ≠ gb182))
            have n8_ := Aside0.mk ((by rw [hg]; exact Nat.ne_of_lt (blk_lt (bkA BK183.out)) : gb183 ≠ gb188))
            have n9_ := Aside0.mk ((by rw [hg]; exact Nat.ne_of_gt (blk_lt (bkA BK183.out)) : gb188 ≠ gb183))
            clear BK182; clear BK183; clear HB; have BK182 := n0_; have BK183 := n1_; have HB := n2_; have BK188 := n3_; have GW188 := n4_; have GE188 := n5_; have NB182_188 := n6_; have NB188_182 := n7_; have NB183_188 := n8_; have NB188_183 := n9_; clear n0_ n1_ n2_ n3_ n4_ n5_ n6_ n7_ n8_ n9_; clear hb hbox hg
            refine hK.out _ _ ⟨(blk_cell BK182.out 0).trans rfl, (blk_cell BK182.out 1).trans rfl, (blk_cell BK183.out 0).trans rfl, (blk_cell BK183.out 1).trans rfl⟩ (fun hHeld => ?_)
            clear hK K
            refine norm_ (a' := ?_) ?_ ?_
            rotate_left
            ·
             show Act.put _ (some 11) _ = _
             simp only [Act.put, List.setIfInBounds_toArray, List.set_cons_zero, List.set_cons_succ, i64_w, i32_w]
             rfl
            exact norm_ (by first | (simp only [putAll, Act.put, List.setIfInBounds_toArray, List.set_cons_zero, List.set_cons_succ]; done) | (simp only [putAll, Act.put, List.setIfInBounds_toArray, List.set_cons_zero, List.set_cons_succ]; rfl)) (hJ2_6 (gb188) _ ⟨hHeld, (bkA BK182.out), (bkA BK183.out), (bkA BK188.out), GW188.out, GE188.out, NB182_188.out, NB188_182.out, NB183_188.out, NB188_183.out, (by repeat (first | (with_reducible first | exact HB.out | apply below_alloc | apply pw_below_drewN | apply below_drew1 | refine below_set ?_ GE182.out | refine below_set ?_ GE183.out | refine below_set ?_ GE188.out) | exact HB.out))⟩)
           ·
            skip
            refine box_step ?hg (N := 12) ?hd (cs := #[.int .u64 0, .int .u64 0]) (t := 24) ?hr ?_; (case hd => rfl); (case hg => rfl); (case hr => first | (go_simp; done) | (go_simp; rfl))
            intro gb189 hg w13 hbox hb
            have n0_ := Aside0.mk (blk_below (bkA BK182.out) hb); have n1_ := Aside0.mk (blk_below (bkA BK183.out) hb)
            have n2_ := Aside0.mk (below_step (by repeat (first | (with_reducible first | exact HB.out | apply below_alloc | apply pw_below_drewN | apply below_drew1 | refine below_set ?_ GE182.out | refine below_set ?_ GE183.out) | exact HB.out)) hb)
            have n3_ := Aside0.mk (hbox)
            have n4_ := Aside0.mk ((by rw [hg]; exact (below_size (by repeat (first | (with_reducible first | exact HB.out | apply below_alloc | apply pw_below_drewN | apply below_drew1 | refine below_set ?_ GE182.out | refine below_set ?_ GE183.out) | exact HB.out))) : w.heap.size ≤ gb189))
            have n5_ := Aside0.mk ((by rw [hg]; exact (below_size (by repeat (first | (with_reducible first | exact HB.out | apply below_alloc | apply pw_below_drewN | apply below_drew1 | refine below_set ?_ GE182.out | refine below_set ?_ GE183.out) | exact HB.out))) : w.heap.size ≤ gb189))
            have n6_ := Aside0.mk ((by rw [hg]; exact Nat.ne_of_lt (blk_lt (bkA BK182.out)) : gb182 ≠ gb189))
            have n7_ := Aside0.mk ((by rw [hg]; exact Nat.ne_of_gt (blk_lt (bkA BK182.out)) : gb189 ≠ gb182))
            have n8_ := Aside0.mk ((by rw [hg]; exact Nat.ne_of_lt (blk_lt (bkA BK183.out)) : gb183 ≠ gb189))
            have n9_ := Aside0.mk ((by rw [hg]; exact Nat.ne_of_gt (blk_lt (bkA BK183.out)) : gb189 ≠ gb183))
            clear BK182; clear BK183; clear HB; have BK182 := n0_; have BK183 := n1_; have HB := n2_; have BK189 := n3_; have GW189 := n4_; have GE189 := n5_; have NB182_189 := n6_; have NB189_182 := n7_; have NB183_189 := n8_; have NB189_183 := n9_; clear n0_ n1_ n2_ n3_ n4_ n5_ n6_ n7_ n8_ n9_; clear hb hbox hg
            refine hK.out _ _ ⟨(blk_cell BK182.out 0).trans rfl, (blk_cell BK182.out 1).trans rfl, (blk_cell BK183.out 0).trans rfl, (blk_cell BK183.out 1).trans rfl⟩ (fun hHeld => ?_)
            clear hK K
            refine norm_ (a' := ?_) ?_ ?_
            rotate_left
            ·
             show Act.put _ (some 12) _ = _
             simp only [Act.put, List.setIfInBounds_toArray, List.set_cons_zero, List.set_cons_succ, i64_w, i32_w]
             rfl
            exact norm_ (by first | (simp only [putAll, Act.put, List.setIfInBounds_toArray, List.set_cons_zero, List.set_cons_succ]; done) | (simp only [putAll, Act.put, List.setIfInBounds_toArray, List.set_cons_zero, List.set_cons_succ]; rfl)) (hJ2_7 (gb189) _ ⟨hHeld, (bkA BK182.out), (bkA BK183.out), (bkA BK189.out), GW189.out, GE189.out, NB182_189.out, NB189_182.out, NB183_189.out, NB189_183.out, (by repeat (first | (with_reducible first | exact HB.out | apply below_alloc | apply pw_below_drewN | apply below_drew1 | refine below_set ?_ GE182.out | refine below_set ?_ GE183.out | refine below_set ?_ GE189.out) | exact HB.out))⟩)
         ·
          skip
          rintro ⟨gb188, gb189⟩ w13 ⟨hS_, h0_, h1_, h2_, h3_, h4_, h5_, h6_, h7_, h8_, h9_, h10_, h11_, h12_, h13_, h14_, h15_, h16_, h17_, h18_⟩
          have n0_ : Aside0 (w13.heap[gb182]? = some (.cells #[.int .u64 a0_0, .int .u64 a0_1] 24 (0, 0))) := ⟨h0_⟩
          have n1_ : Aside0 (w13.heap[gb183]? = some (.cells #[.int .u64 a1_0, .int .u64 a1_1] 24 (0, 0))) := ⟨h1_⟩
          have n2_ : Aside0 (w13.heap[gb188]? = some (.cells #[.int .u64 0, .int .u64 0] 24 (0, 0))) := ⟨h2_⟩
          have n3_ : Aside0 (w13.heap[gb189]? = some (.cells #[.int .u64 0, .int .u64 0] 24 (0, 0))) := ⟨h3_⟩
          have n4_ : Aside0 (w.heap.size ≤ gb188) := ⟨h4_⟩
          have n5_ : Aside0 (w.heap.size ≤ gb188) := ⟨h5_⟩
          have n6_ : Aside0 (gb182 ≠ gb188) := ⟨h6_⟩
          have n7_ : Aside0 (gb188 ≠ gb182) := ⟨h7_⟩
          have n8_ : Aside0 (gb183 ≠ gb188) := ⟨h8_⟩
          have n9_ : Aside0 (gb188 ≠ gb183) := ⟨h9_⟩
          have n10_ : Aside0 (gb189 ≠ gb188) := ⟨h10_⟩
          have n11_ : Aside0 (gb188 ≠ gb189) := ⟨h11_⟩
          have n12_ : Aside0 (w.heap.size ≤ gb189) := ⟨h12_⟩
          have n13_ : Aside0 (w.heap.size ≤ gb189) := ⟨h13_⟩
          have n14_ : Aside0 (gb182 ≠ gb189) := ⟨h14_⟩
          have n15_ : Aside0 (gb189 ≠ gb182) := ⟨h15_⟩
          have n16_ : Aside0 (gb183 ≠ gb189) := ⟨h16_⟩
          have n17_ : Aside0 (gb189 ≠ gb183) := ⟨h17_⟩
          have n18_ : Aside0 (Below w.heap.size w w13) := ⟨h18_⟩
          clear BK182; clear BK183; clear HB; clear h0_ h1_ h2_ h3_ h4_ h5_ h6_ h7_ h8_ h9_ h10_ h11_ h12_ h13_ h14_ h15_ h16_ h17_ h18_; have BK182 := n0_; have BK183 := n1_; have BK188 := n2_; have BK189 := n3_; have GW188 := n4_; have GE188 := n5_; have NB182_188 := n6_; have NB188_182 := n7_; have NB183_188 := n8_; have NB188_183 := n9_; have NB189_188 := n10_; have NB188_189 := n11_; have GW189 := n12_; have GE189 := n13_; have NB182_189 := n14_; have NB189_182 := n15_; have NB183_189 := n16_; have NB189_183 := n17_; have HB := n18_; clear n0_ n1_ n2_ n3_ n4_ n5_ n6_ n7_ n8_ n9_ n10_ n11_ n12_ n13_ n14_ n15_ n16_ n17_ n18_
          have hHeld : w13.cell? ⟨gb182, 0, none⟩ = some (.int .u64 a0_0) ∧ w13.cell? ⟨gb182, 1, none⟩ = some (.int .u64 a0_1) ∧ w13.cell? ⟨gb183, 0, none⟩ = some (.int .u64 a1_0) ∧ w13.cell? ⟨gb183, 1, none⟩ = some (.int .u64 a1_1) := hS_
          refine norm_ (a' := ?_) ?_ ?_
          rotate_left
          ·
           simp only [putAll, Act.put, List.setIfInBounds_toArray, List.set_cons_zero, List.set_cons_succ]
           rfl
          refine one_ (i := 2) (N := some 23) #[T,T,T,T,T,F,T,T,F,F] rfl rfl (one_of HT_.out (by kernel_rfl)) (by decide) (fun K hK => ?_)
          refine goes_ Try.func34 (by kernel_rfl) rfl #[.agg #[.int .u64 a0_0, .int .u64 a0_1], .int .i64 (wrap64 (Int.tmod (IntKind.u64.wrap (a2)) 131))] (by rfl) rfl rfl (by (try simp only [List.map_toArray, List.map_cons, List.map_nil]); first | done | rfl | (simp only [List.length_drop, List.length_take]; rfl)) ?_
          with_reducible refine (word_Cut.calls a0_0 a0_1 (wrap64 (Int.tmod (IntKind.u64.wrap (a2)) 131)) t184 t185 _ A5.out).mono ?_
          rintro e w14 ⟨rfl, hb⟩
          refine ⟨_, rfl, ?_⟩
          have n0_ := Aside0.mk (blk_below (bkA BK182.out) hb); have n1_ := Aside0.mk (blk_below (bkA BK183.out) hb); have n2_ := Aside0.mk (blk_below (bkA BK188.out) hb); have n3_ := Aside0.mk (blk_below (bkA BK189.out) hb)
          have n4_ := Aside0.mk (below_step (by repeat (first | (with_reducible first | exact HB.out | apply below_alloc | apply pw_below_drewN | apply below_drew1 | refine below_set ?_ GE182.out | refine below_set ?_ GE183.out | refine below_set ?_ GE188.out | refine below_set ?_ GE189.out) | exact HB.out)) hb)
          clear BK182; clear BK183; clear BK188; clear BK189; clear HB; have BK182 := n0_; have BK183 := n1_; have BK188 := n2_; have BK189 := n3_; have HB := n4_; clear n0_ n1_ n2_ n3_ n4_; (try clear hb); (try clear hb2); (try clear hk); (try clear hi)
          refine hK.out _ _ ⟨(blk_cell BK182.out 0).trans rfl, (blk_cell BK182.out 1).trans rfl, (blk_cell BK183.out 0).trans rfl, (blk_cell BK183.out 1).trans rfl⟩ (fun hHeld => ?_)
          clear hK K
          refine norm_ (a' := ?_) ?_ ?_
          rotate_left
          ·
           show Act.put _ (some 23) _ = _
           simp only [Act.put, List.setIfInBounds_toArray, List.set_cons_zero, List.set_cons_succ, i64_w, i32_w]
           rfl
          exact norm_ (by first | (simp only [putAll, Act.put, List.setIfInBounds_toArray, List.set_cons_zero, List.set_cons_succ]; done) | (simp only [putAll, Act.put, List.setIfInBounds_toArray, List.set_cons_zero, List.set_cons_succ]; rfl)) (hJ2_6_7 (gb188, gb189) _ ⟨hHeld, (bkA BK182.out), (bkA BK183.out), (bkA BK188.out), (bkA BK189.out), GW188.out, GE188.out, NB182_188.out, NB188_182.out, NB183_188.out, NB188_183.out, NB189_188.out, NB188_189.out, GW189.out, GE189.out, NB182_189.out, NB189_182.out, NB183_189.out, NB189_183.out, (by repeat (first | (with_reducible first | exact HB.out | apply below_alloc | apply pw_below_drewN | apply below_drew1 | refine below_set ?_ GE182.out | refine below_set ?_ GE183.out | refine below_set ?_ GE188.out | refine below_set ?_ GE189.out) | exact HB.out))⟩)
        ·
         skip
         rintro gb189 w13 ⟨hS_, h0_, h1_, h2_, h3_, h4_, h5_, h6_, h7_, h8_, h9_⟩
         have n0_ : Aside0 (w13.heap[gb182]? = some (.cells #[.int .u64 a0_0, .int .u64 a0_1] 24 (0, 0))) := ⟨h0_⟩
         have n1_ : Aside0 (w13.heap[gb183]? = some (.cells #[.int .u64 a1_0, .int .u64 a1_1] 24 (0, 0))) := ⟨h1_⟩
         have n2_ : Aside0 (w13.heap[gb189]? = some (.cells #[.int .u64 0, .int .u64 0] 24 (0, 0))) := ⟨h2_⟩
         have n3_ : Aside0 (w.heap.size ≤ gb189) := ⟨h3_⟩
         have n4_ : Aside0 (w.heap.size ≤ gb189) := ⟨h4_⟩
         have n5_ : Aside0 (gb182 ≠ gb189) := ⟨h5_⟩
         have n6_ : Aside0 (gb189 ≠ gb182) := ⟨h6_⟩
         have n7_ : Aside0 (gb183 ≠ gb189) := ⟨h7_⟩
         have n8_ : Aside0 (gb189 ≠ gb183) := ⟨h8_⟩
         have n9_ : Aside0 (Below w.heap.size w w13) := ⟨h9_⟩
         clear BK182; clear BK183; clear HB; clear h0_ h1_ h2_ h3_ h4_ h5_ h6_ h7_ h8_ h9_; have BK182 := n0_; have BK183 := n1_; have BK189 := n2_; have GW189 := n3_; have GE189 := n4_; have NB182_189 := n5_; have NB189_182 := n6_; have NB183_189 := n7_; have NB189_183 := n8_; have HB := n9_; clear n0_ n1_ n2_ n3_ n4_ n5_ n6_ n7_ n8_ n9_
         have hHeld : w13.cell? ⟨gb182, 0, none⟩ = some (.int .u64 a0_0) ∧ w13.cell? ⟨gb182, 1, none⟩ = some (.int .u64 a0_1) ∧ w13.cell? ⟨gb183, 0, none⟩ = some (.int .u64 a1_0) ∧ w13.cell? ⟨gb183, 1, none⟩ = some (.int .u64 a1_1) := hS_
         refine norm_ (a' := ?_) ?_ ?_
         rotate_left
         ·
          simp only [putAll, Act.put, List.setIfInBounds_toArray, List.set_cons_zero, List.set_cons_succ]
          rfl
         refine two_ (i := 5) (j := 6) (Ni := some 26) (Nj := some 11) #[T,T,T,T,T,T,F,T,F,F] #[T,T,T,T,T,F,T,T,F,F] rfl rfl rfl rfl (two_of HT_.out (by kernel_rfl)) (by decide) (by decide) (fun K hK => ?_) (fun K hK => ?_)
         ·
          skip
          refine goes_ Try.func34 (by kernel_rfl) rfl #[.agg #[.int .u64 a1_0, .int .u64 a1_1], .int .i64 (wrap64 (Int.tmod (IntKind.u64.wrap (a2)) 131))] (by rfl) rfl rfl (by (try simp only [List.map_toArray, List.map_cons, List.map_nil]); first | done | rfl | (simp only [List.length_drop, List.length_take]; rfl)) ?_
          with_reducible refine (word_Cut.calls a1_0 a1_1 (wrap64 (Int.tmod (IntKind.u64.wrap (a2)) 131)) t186 t187 _ A6.out).mono ?_
          rintro e w14 ⟨rfl, hb⟩
          refine ⟨_, rfl, ?_⟩
          have n0_ := Aside0.mk (blk_below (bkA BK182.out) hb); have n1_ := Aside0.mk (blk_below (bkA BK183.out) hb); have n2_ := Aside0.mk (blk_below (bkA BK189.out) hb)
          have n3_ := Aside0.mk (below_step (by repeat (first | (with_reducible first | exact HB.out | apply below_alloc | apply pw_below_drewN | apply below_drew1 | refine below_set ?_ GE182.out | refine below_set ?_ GE183.out | refine below_set ?_ GE189.out) | exact HB.out)) hb)
          clear BK182; clear BK183; clear BK189; clear HB; have BK182 := n0_; have BK183 := n1_; have BK189 := n2_; have HB := n3_; clear n0_ n1_ n2_ n3_; (try clear hb); (try clear hb2); (try clear hk); (try clear hi)
          refine hK.out _ _ ⟨(blk_cell BK182.out 0).trans rfl, (blk_cell BK182.out 1).trans rfl, (blk_cell BK183.out 0).trans rfl, (blk_cell BK183.out 1).trans rfl⟩ (fun hHeld => ?_)
          clear hK K
          refine norm_ (a' := ?_) ?_ ?_
          rotate_left
          ·
           show Act.put _ (some 26) _ = _
           simp only [Act.put, List.setIfInBounds_toArray, List.set_cons_zero, List.set_cons_succ, i64_w, i32_w]
           rfl
          exact norm_ (by first | (simp only [putAll, Act.put, List.setIfInBounds_toArray, List.set_cons_zero, List.set_cons_succ]; done) | (simp only [putAll, Act.put, List.setIfInBounds_toArray, List.set_cons_zero, List.set_cons_succ]; rfl)) (hJ2_5_7 (gb189) _ ⟨hHeld, (bkA BK182.out), (bkA BK183.out), (bkA BK189.out), GW189.out, GE189.out, NB182_189.out, NB189_182.out, NB183_189.out, NB189_183.out, (by repeat (first | (with_reducible first | exact HB.out | apply below_alloc | apply pw_below_drewN | apply below_drew1 | refine below_set ?_ GE182.out | refine below_set ?_ GE183.out | refine below_set ?_ GE189.out) | exact HB.out))⟩)
         ·
          skip
          refine box_step ?hg (N := 11) ?hd (cs := #[.int .u64 0, .int .u64 0]) (t := 24) ?hr ?_; (case hd => rfl); (case hg => rfl); (case hr => first | (go_simp; done) | (go_simp; rfl))
          intro gb188 hg w14 hbox hb
          have n0_ := Aside0.mk (blk_below (bkA BK182.out) hb); have n1_ := Aside0.mk (blk_below (bkA BK183.out) hb); have n2_ := Aside0.mk (blk_below (bkA BK189.out) hb)
          have n3_ := Aside0.mk (below_step (by repeat (first | (with_reducible first | exact HB.out | apply below_alloc | apply pw_below_drewN | apply below_drew1 | refine below_set ?_ GE182.out | refine below_set ?_ GE183.out | refine below_set ?_ GE189.out) | exact HB.out)) hb)
          have n4_ := Aside0.mk (hbox)
          have n5_ := Aside0.mk ((by rw [hg]; exact (below_size (by repeat (first | (with_reducible first | exact HB.out | apply below_alloc | apply pw_below_drewN | apply below_drew1 | refine below_set ?_ GE182.out | refine below_set ?_ GE183.out | refine below_set ?_ GE189.out) | exact HB.out))) : w.heap.size ≤ gb188))
          have n6_ := Aside0.mk ((by rw [hg]; exact (below_size (by repeat (first | (with_reducible first | exact HB.out | apply below_alloc | apply pw_below_drewN | apply below_drew1 | refine below_set ?_ GE182.out | refine below_set ?_ GE183.out | refine below_set ?_ GE189.out) | exact HB.out))) : w.heap.size ≤ gb188))
          have n7_ := Aside0.mk ((by rw [hg]; exact Nat.ne_of_lt (blk_lt (bkA BK182.out)) : gb182 ≠ gb188))
          have n8_ := Aside0.mk ((by rw [hg]; exact Nat.ne_of_gt (blk_lt (bkA BK182.out)) : gb188 ≠ gb182))
          have n9_ := Aside0.mk ((by rw [hg]; exact Nat.ne_of_lt (blk_lt (bkA BK183.out)) : gb183 ≠ gb188))
          have n10_ := Aside0.mk ((by rw [hg]; exact Nat.ne_of_gt (blk_lt (bkA BK183.out)) : gb188 ≠ gb183))
          have n11_ := Aside0.mk ((by rw [hg]; exact Nat.ne_of_lt (blk_lt (bkA BK189.out)) : gb189 ≠ gb188))
          have n12_ := Aside0.mk ((by rw [hg]; exact Nat.ne_of_gt (blk_lt (bkA BK189.out)) : gb188 ≠ gb189))
          clear BK182; clear BK183; clear BK189; clear HB; have BK182 := n0_; have BK183 := n1_; have BK189 := n2_; have HB := n3_; have BK188 := n4_; have GW188 := n5_; have GE188 := n6_; have NB182_188 := n7_; have NB188_182 := n8_; have NB183_188 := n9_; have NB188_183 := n10_; have NB189_188 := n11_; have NB188_189 := n12_; clear n0_ n1_ n2_ n3_ n4_ n5_ n6_ n7_ n8_ n9_ n10_ n11_ n12_; clear hb hbox hg
          refine hK.out _ _ ⟨(blk_cell BK182.out 0).trans rfl, (blk_cell BK182.out 1).trans rfl, (blk_cell BK183.out 0).trans rfl, (blk_cell BK183.out 1).trans rfl⟩ (fun hHeld => ?_)
          clear hK K
          refine norm_ (a' := ?_) ?_ ?_
          rotate_left
          ·
           show Act.put _ (some 11) _ = _
           simp only [Act.put, List.setIfInBounds_toArray, List.set_cons_zero, List.set_cons_succ, i64_w, i32_w]
           rfl
          exact norm_ (by first | (simp only [putAll, Act.put, List.setIfInBounds_toArray, List.set_cons_zero, List.set_cons_succ]; done) | (simp only [putAll, Act.put, List.setIfInBounds_toArray, List.set_cons_zero, List.set_cons_succ]; rfl)) (hJ2_6_7 (gb188, gb189) _ ⟨hHeld, (bkA BK182.out), (bkA BK183.out), (bkA BK188.out), (bkA BK189.out), GW188.out, GE188.out, NB182_188.out, NB188_182.out, NB183_188.out, NB188_183.out, NB189_188.out, NB188_189.out, GW189.out, GE189.out, NB182_189.out, NB189_182.out, NB183_189.out, NB189_183.out, (by repeat (first | (with_reducible first | exact HB.out | apply below_alloc | apply pw_below_drewN | apply below_drew1 | refine below_set ?_ GE182.out | refine below_set ?_ GE183.out | refine below_set ?_ GE189.out | refine below_set ?_ GE188.out) | exact HB.out))⟩)
       ·
        skip
        rintro gb188 w13 ⟨hS_, h0_, h1_, h2_, h3_, h4_, h5_, h6_, h7_, h8_, h9_⟩
        have n0_ : Aside0 (w13.heap[gb182]? = some (.cells #[.int .u64 a0_0, .int .u64 a0_1] 24 (0, 0))) := ⟨h0_⟩
        have n1_ : Aside0 (w13.heap[gb183]? = some (.cells #[.int .u64 a1_0, .int .u64 a1_1] 24 (0, 0))) := ⟨h1_⟩
        have n2_ : Aside0 (w13.heap[gb188]? = some (.cells #[.int .u64 0, .int .u64 0] 24 (0, 0))) := ⟨h2_⟩
        have n3_ : Aside0 (w.heap.size ≤ gb188) := ⟨h3_⟩
        have n4_ : Aside0 (w.heap.size ≤ gb188) := ⟨h4_⟩
        have n5_ : Aside0 (gb182 ≠ gb188) := ⟨h5_⟩
        have n6_ : Aside0 (gb188 ≠ gb182) := ⟨h6_⟩
        have n7_ : Aside0 (gb183 ≠ gb188) := ⟨h7_⟩
        have n8_ : Aside0 (gb188 ≠ gb183) := ⟨h8_⟩
        have n9_ : Aside0 (Below w.heap.size w w13) := ⟨h9_⟩
        clear BK182; clear BK183; clear HB; clear h0_ h1_ h2_ h3_ h4_ h5_ h6_ h7_ h8_ h9_; have BK182 := n0_; have BK183 := n1_; have BK188 := n2_; have GW188 := n3_; have GE188 := n4_; have NB182_188 := n5_; have NB188_182 := n6_; have NB183_188 := n7_; have NB188_183 := n8_; have HB := n9_; clear n0_ n1_ n2_ n3_ n4_ n5_ n6_ n7_ n8_ n9_
        have hHeld : w13.cell? ⟨gb182, 0, none⟩ = some (.int .u64 a0_0) ∧ w13.cell? ⟨gb182, 1, none⟩ = some (.int .u64 a0_1) ∧ w13.cell? ⟨gb183, 0, none⟩ = some (.int .u64 a1_0) ∧ w13.cell? ⟨gb183, 1, none⟩ = some (.int .u64 a1_1) := hS_
        refine norm_ (a' := ?_) ?_ ?_
        rotate_left
        ·
         simp only [putAll, Act.put, List.setIfInBounds_toArray, List.set_cons_zero, List.set_cons_succ]
         rfl
        refine two_ (i := 5) (j := 7) (Ni := some 26) (Nj := some 12) #[T,T,T,T,T,T,T,F,F,F] #[T,T,T,T,T,F,T,T,F,F] rfl rfl rfl rfl (two_of HT_.out (by kernel_rfl)) (by decide) (by decide) (fun K hK => ?_) (fun K hK => ?_)
        ·
         skip
         refine goes_ Try.func34 (by kernel_rfl) rfl #[.agg #[.int .u64 a1_0, .int .u64 a1_1], .int .i64 (wrap64 (Int.tmod (IntKind.u64.wrap (a2)) 131))] (by rfl) rfl rfl (by (try simp only [List.map_toArray, List.map_cons, List.map_nil]); first | done | rfl | (simp only [List.length_drop, List.length_take]; rfl)) ?_
         with_reducible refine (word_Cut.calls a1_0 a1_1 (wrap64 (Int.tmod (IntKind.u64.wrap (a2)) 131)) t186 t187 _ A6.out).mono ?_
         rintro e w14 ⟨rfl, hb⟩
         refine ⟨_, rfl, ?_⟩
         have n0_ := Aside0.mk (blk_below (bkA BK182.out) hb); have n1_ := Aside0.mk (blk_below (bkA BK183.out) hb); have n2_ := Aside0.mk (blk_below (bkA BK188.out) hb)
         have n3_ := Aside0.mk (below_step (by repeat (first | (with_reducible first | exact HB.out | apply below_alloc | apply pw_below_drewN | apply below_drew1 | refine below_set ?_ GE182.out | refine below_set ?_ GE183.out | refine below_set ?_ GE188.out) | exact HB.out)) hb)
         clear BK182; clear BK183; clear BK188; clear HB; have BK182 := n0_; have BK183 := n1_; have BK188 := n2_; have HB := n3_; clear n0_ n1_ n2_ n3_; (try clear hb); (try clear hb2); (try clear hk); (try clear hi)
         refine hK.out _ _ ⟨(blk_cell BK182.out 0).trans rfl, (blk_cell BK182.out 1).trans rfl, (blk_cell BK183.out 0).trans rfl, (blk_cell BK183.out 1).trans rfl⟩ (fun hHeld => ?_)
         clear hK K
         refine norm_ (a' := ?_) ?_ ?_
         rotate_left
         ·
          show Act.put _ (some 26) _ = _
          simp only [Act.put, List.setIfInBounds_toArray, List.set_cons_zero, List.set_cons_succ, i64_w, i32_w]
          rfl
         exact norm_ (by first | (simp only [putAll, Act.put, List.setIfInBounds_toArray, List.set_cons_zero, List.set_cons_succ]; done) | (simp only [putAll, Act.put, List.setIfInBounds_toArray, List.set_cons_zero, List.set_cons_succ]; rfl)) (hJ2_5_6 (gb188) _ ⟨hHeld, (bkA BK182.out), (bkA BK183.out), (bkA BK188.out), GW188.out, GE188.out, NB182_188.out, NB188_182.out, NB183_188.out, NB188_183.out, (by repeat (first | (with_reducible first | exact HB.out | apply below_alloc | apply pw_below_drewN | apply below_drew1 | refine below_set ?_ GE182.out | refine below_set ?_ GE183.out | refine below_set ?_ GE188.out) | exact HB.out))⟩)
        ·
         skip
         refine box_step ?hg (N := 12) ?hd (cs := #[.int .u64 0, .int .u64 0]) (t := 24) ?hr ?_; (case hd => rfl); (case hg => rfl); (case hr => first | (go_simp; done) | (go_simp; rfl))
         intro gb189 hg w14 hbox hb
         have n0_ := Aside0.mk (blk_below (bkA BK182.out) hb); have n1_ := Aside0.mk (blk_below (bkA BK183.out) hb); have n2_ := Aside0.mk (blk_below (bkA BK188.out) hb)
         have n3_ := Aside0.mk (below_step (by repeat (first | (with_reducible first | exact HB.out | apply below_alloc | apply pw_below_drewN | apply below_drew1 | refine below_set ?_ GE182.out | refine below_set ?_ GE183.out | refine below_set ?_ GE188.out) | exact HB.out)) hb)
         have n4_ := Aside0.mk (hbox)
         have n5_ := Aside0.mk ((by rw [hg]; exact (below_size (by repeat (first | (with_reducible first | exact HB.out | apply below_alloc | apply pw_below_drewN | apply below_drew1 | refine below_set ?_ GE182.out | refine below_set ?_ GE183.out | refine below_set ?_ GE188.out) | exact HB.out))) : w.heap.size ≤ gb189))
         have n6_ := Aside0.mk ((by rw [hg]; exact (below_size (by repeat (first | (with_reducible first | exact HB.out | apply below_alloc | apply pw_below_drewN | apply below_drew1 | refine below_set ?_ GE182.out | refine below_set ?_ GE183.out | refine below_set ?_ GE188.out) | exact HB.out))) : w.heap.size ≤ gb189))
         have n7_ := Aside0.mk ((by rw [hg]; exact Nat.ne_of_lt (blk_lt (bkA BK182.out)) : gb182 ≠ gb189))
         have n8_ := Aside0.mk ((by rw [hg]; exact Nat.ne_of_gt (blk_lt (bkA BK182.out)) : gb189 ≠ gb182))
         have n9_ := Aside0.mk ((by rw [hg]; exact Nat.ne_of_lt (blk_lt (bkA BK183.out)) : gb183 ≠ gb189))
         have n10_ := Aside0.mk ((by rw [hg]; exact Nat.ne_of_gt (blk_lt (bkA BK183.out)) : gb189 ≠ gb183))
         have n11_ := Aside0.mk ((by rw [hg]; exact Nat.ne_of_lt (blk_lt (bkA BK188.out)) : gb188 ≠ gb189))
         have n12_ := Aside0.mk ((by rw [hg]; exact Nat.ne_of_gt (blk_lt (bkA BK188.out)) : gb189 ≠ gb188))
         clear BK182; clear BK183; clear BK188; clear HB; have BK182 := n0_; have BK183 := n1_; have BK188 := n2_; have HB := n3_; have BK189 := n4_; have GW189 := n5_; have GE189 := n6_; have NB182_189 := n7_; have NB189_182 := n8_; have NB183_189 := n9_; have NB189_183 := n10_; have NB188_189 := n11_; have NB189_188 := n12_; clear n0_ n1_ n2_ n3_ n4_ n5_ n6_ n7_ n8_ n9_ n10_ n11_ n12_; clear hb hbox hg
         refine hK.out _ _ ⟨(blk_cell BK182.out 0).trans rfl, (blk_cell BK182.out 1).trans rfl, (blk_cell BK183.out 0).trans rfl, (blk_cell BK183.out 1).trans rfl⟩ (fun hHeld => ?_)
         clear hK K
         refine norm_ (a' := ?_) ?_ ?_
         rotate_left
         ·
          show Act.put _ (some 12) _ = _
          simp only [Act.put, List.setIfInBounds_toArray, List.set_cons_zero, List.set_cons_succ, i64_w, i32_w]
          rfl
         exact norm_ (by first | (simp only [putAll, Act.put, List.setIfInBounds_toArray, List.set_cons_zero, List.set_cons_succ]; done) | (simp only [putAll, Act.put, List.setIfInBounds_toArray, List.set_cons_zero, List.set_cons_succ]; rfl)) (hJ2_6_7 (gb188, gb189) _ ⟨hHeld, (bkA BK182.out), (bkA BK183.out), (bkA BK188.out), (bkA BK189.out), GW188.out, GE188.out, NB182_188.out, NB188_182.out, NB183_188.out, NB188_183.out, NB189_188.out, NB188_189.out, GW189.out, GE189.out, NB182_189.out, NB189_182.out, NB183_189.out, NB189_183.out, (by repeat (first | (with_reducible first | exact HB.out | apply below_alloc | apply pw_below_drewN | apply below_drew1 | refine below_set ?_ GE182.out | refine below_set ?_ GE183.out | refine below_set ?_ GE188.out | refine below_set ?_ GE189.out) | exact HB.out))⟩)
      ·
       skip
       rintro _ w13 ⟨hS_, h0_, h1_, h2_⟩
       have n0_ : Aside0 (w13.heap[gb182]? = some (.cells #[.int .u64 a0_0, .int .u64 a0_1] 24 (0, 0))) := ⟨h0_⟩
       have n1_ : Aside0 (w13.heap[gb183]? = some (.cells #[.int .u64 a1_0, .int .u64 a1_1] 24 (0, 0))) := ⟨h1_⟩
       have n2_ : Aside0 (Below w.heap.size w w13) := ⟨h2_⟩
       clear BK182; clear BK183; clear HB; clear h0_ h1_ h2_; have BK182 := n0_; have BK183 := n1_; have HB := n2_; clear n0_ n1_ n2_
       have hHeld : w13.cell? ⟨gb182, 0, none⟩ = some (.int .u64 a0_0) ∧ w13.cell? ⟨gb182, 1, none⟩ = some (.int .u64 a0_1) ∧ w13.cell? ⟨gb183, 0, none⟩ = some (.int .u64 a1_0) ∧ w13.cell? ⟨gb183, 1, none⟩ = some (.int .u64 a1_1) := hS_
       refine norm_ (a' := ?_) ?_ ?_
       rotate_left
       ·
        simp only [putAll, Act.put, List.setIfInBounds_toArray, List.set_cons_zero, List.set_cons_succ]
        rfl
       refine two_ (i := 6) (j := 7) (Ni := some 11) (Nj := some 12) #[T,T,T,T,T,T,T,F,F,F] #[T,T,T,T,T,T,F,T,F,F] rfl rfl rfl rfl (two_of HT_.out (by kernel_rfl)) (by decide) (by decide) (fun K hK => ?_) (fun K hK => ?_)
       ·
        skip
        refine box_step ?hg (N := 11) ?hd (cs := #[.int .u64 0, .int .u64 0]) (t := 24) ?hr ?_; (case hd => rfl); (case hg => rfl); (case hr => first | (go_simp; done) | (go_simp; rfl))
        intro gb188 hg w14 hbox hb
        have n0_ := Aside0.mk (blk_below (bkA BK182.out) hb); have n1_ := Aside0.mk (blk_below (bkA BK183.out) hb)
        have n2_ := Aside0.mk (below_step (by repeat (first | (with_reducible first | exact HB.out | apply below_alloc | apply pw_below_drewN | apply below_drew1 | refine below_set ?_ GE182.out | refine below_set ?_ GE183.out) | exact HB.out)) hb)
        have n3_ := Aside0.mk (hbox)
        have n4_ := Aside0.mk ((by rw [hg]; exact (below_size (by repeat (first | (with_reducible first | exact HB.out | apply below_alloc | apply pw_below_drewN | apply below_drew1 | refine below_set ?_ GE182.out | refine below_set ?_ GE183.out) | exact HB.out))) : w.heap.size ≤ gb188))
        have n5_ := Aside0.mk ((by rw [hg]; exact (below_size (by repeat (first | (with_reducible first | exact HB.out | apply below_alloc | apply pw_below_drewN | apply below_drew1 | refine below_set ?_ GE182.out | refine below_set ?_ GE183.out) | exact HB.out))) : w.heap.size ≤ gb188))
        have n6_ := Aside0.mk ((by rw [hg]; exact Nat.ne_of_lt (blk_lt (bkA BK182.out)) : gb182 ≠ gb188))
        have n7_ := Aside0.mk ((by rw [hg]; exact Nat.ne_of_gt (blk_lt (bkA BK182.out)) : gb188 ≠ gb182))
        have n8_ := Aside0.mk ((by rw [hg]; exact Nat.ne_of_lt (blk_lt (bkA BK183.out)) : gb183 ≠ gb188))
        have n9_ := Aside0.mk ((by rw [hg]; exact Nat.ne_of_gt (blk_lt (bkA BK183.out)) : gb188 ≠ gb183))
        clear BK182; clear BK183; clear HB; have BK182 := n0_; have BK183 := n1_; have HB := n2_; have BK188 := n3_; have GW188 := n4_; have GE188 := n5_; have NB182_188 := n6_; have NB188_182 := n7_; have NB183_188 := n8_; have NB188_183 := n9_; clear n0_ n1_ n2_ n3_ n4_ n5_ n6_ n7_ n8_ n9_; clear hb hbox hg
        refine hK.out _ _ ⟨(blk_cell BK182.out 0).trans rfl, (blk_cell BK182.out 1).trans rfl, (blk_cell BK183.out 0).trans rfl, (blk_cell BK183.out 1).trans rfl⟩ (fun hHeld => ?_)
        clear hK K
        refine norm_ (a' := ?_) ?_ ?_
        rotate_left
        ·
         show Act.put _ (some 11) _ = _
         simp only [Act.put, List.setIfInBounds_toArray, List.set_cons_zero, List.set_cons_succ, i64_w, i32_w]
         rfl
        exact norm_ (by first | (simp only [putAll, Act.put, List.setIfInBounds_toArray, List.set_cons_zero, List.set_cons_succ]; done) | (simp only [putAll, Act.put, List.setIfInBounds_toArray, List.set_cons_zero, List.set_cons_succ]; rfl)) (hJ2_5_6 (gb188) _ ⟨hHeld, (bkA BK182.out), (bkA BK183.out), (bkA BK188.out), GW188.out, GE188.out, NB182_188.out, NB188_182.out, NB183_188.out, NB188_183.out, (by repeat (first | (with_reducible first | exact HB.out | apply below_alloc | apply pw_below_drewN | apply below_drew1 | refine below_set ?_ GE182.out | refine below_set ?_ GE183.out | refine below_set ?_ GE188.out) | exact HB.out))⟩)
       ·
        skip
        refine box_step ?hg (N := 12) ?hd (cs := #[.int .u64 0, .int .u64 0]) (t := 24) ?hr ?_; (case hd => rfl); (case hg => rfl); (case hr => first | (go_simp; done) | (go_simp; rfl))
        intro gb189 hg w14 hbox hb
        have n0_ := Aside0.mk (blk_below (bkA BK182.out) hb); have n1_ := Aside0.mk (blk_below (bkA BK183.out) hb)
        have n2_ := Aside0.mk (below_step (by repeat (first | (with_reducible first | exact HB.out | apply below_alloc | apply pw_below_drewN | apply below_drew1 | refine below_set ?_ GE182.out | refine below_set ?_ GE183.out) | exact HB.out)) hb)
        have n3_ := Aside0.mk (hbox)
        have n4_ := Aside0.mk ((by rw [hg]; exact (below_size (by repeat (first | (with_reducible first | exact HB.out | apply below_alloc | apply pw_below_drewN | apply below_drew1 | refine below_set ?_ GE182.out | refine below_set ?_ GE183.out) | exact HB.out))) : w.heap.size ≤ gb189))
        have n5_ := Aside0.mk ((by rw [hg]; exact (below_size (by repeat (first | (with_reducible first | exact HB.out | apply below_alloc | apply pw_below_drewN | apply below_drew1 | refine below_set ?_ GE182.out | refine below_set ?_ GE183.out) | exact HB.out))) : w.heap.size ≤ gb189))
        have n6_ := Aside0.mk ((by rw [hg]; exact Nat.ne_of_lt (blk_lt (bkA BK182.out)) : gb182 ≠ gb189))
        have n7_ := Aside0.mk ((by rw [hg]; exact Nat.ne_of_gt (blk_lt (bkA BK182.out)) : gb189 ≠ gb182))
        have n8_ := Aside0.mk ((by rw [hg]; exact Nat.ne_of_lt (blk_lt (bkA BK183.out)) : gb183 ≠ gb189))
        have n9_ := Aside0.mk ((by rw [hg]; exact Nat.ne_of_gt (blk_lt (bkA BK183.out)) : gb189 ≠ gb183))
        clear BK182; clear BK183; clear HB; have BK182 := n0_; have BK183 := n1_; have HB := n2_; have BK189 := n3_; have GW189 := n4_; have GE189 := n5_; have NB182_189 := n6_; have NB189_182 := n7_; have NB183_189 := n8_; have NB189_183 := n9_; clear n0_ n1_ n2_ n3_ n4_ n5_ n6_ n7_ n8_ n9_; clear hb hbox hg
        refine hK.out _ _ ⟨(blk_cell BK182.out 0).trans rfl, (blk_cell BK182.out 1).trans rfl, (blk_cell BK183.out 0).trans rfl, (blk_cell BK183.out 1).trans rfl⟩ (fun hHeld => ?_)
        clear hK K
        refine norm_ (a' := ?_) ?_ ?_
        rotate_left
        ·
         show Act.put _ (some 12) _ = _
         simp only [Act.put, List.setIfInBounds_toArray, List.set_cons_zero, List.set_cons_succ, i64_w, i32_w]
         rfl
        exact norm_ (by first | (simp only [putAll, Act.put, List.setIfInBounds_toArray, List.set_cons_zero, List.set_cons_succ]; done) | (simp only [putAll, Act.put, List.setIfInBounds_toArray, List.set_cons_zero, List.set_cons_succ]; rfl)) (hJ2_5_7 (gb189) _ ⟨hHeld, (bkA BK182.out), (bkA BK183.out), (bkA BK189.out), GW189.out, GE189.out, NB182_189.out, NB189_182.out, NB183_189.out, NB189_183.out, (by repeat (first | (with_reducible first | exact HB.out | apply below_alloc | apply pw_below_drewN | apply below_drew1 | refine below_set ?_ GE182.out | refine below_set ?_ GE183.out | refine below_set ?_ GE189.out) | exact HB.out))⟩)
     ·
      skip
      rintro ⟨gb188, gb189⟩ w14 ⟨hS_, h0_, h1_, h2_, h3_, h4_, h5_, h6_, h7_, h8_, h9_, h10_, h11_, h12_, h13_, h14_, h15_, h16_, h17_, h18_⟩
      have n0_ : Aside0 (w14.heap[gb182]? = some (.cells #[.int .u64 a0_0, .int .u64 a0_1] 24 (0, 0))) := ⟨h0_⟩
      have n1_ : Aside0 (w14.heap[gb183]? = some (.cells #[.int .u64 a1_0, .int .u64 a1_1] 24 (0, 0))) := ⟨h1_⟩
      have n2_ : Aside0 (w14.heap[gb188]? = some (.cells #[.int .u64 0, .int .u64 0] 24 (0, 0))) := ⟨h2_⟩
      have n3_ : Aside0 (w14.heap[gb189]? = some (.cells #[.int .u64 0, .int .u64 0] 24 (0, 0))) := ⟨h3_⟩
      have n4_ : Aside0 (w.heap.size ≤ gb188) := ⟨h4_⟩
      have n5_ : Aside0 (w.heap.size ≤ gb188) := ⟨h5_⟩
      have n6_ : Aside0 (gb182 ≠ gb188) := ⟨h6_⟩
      have n7_ : Aside0 (gb188 ≠ gb182) := ⟨h7_⟩
      have n8_ : Aside0 (gb183 ≠ gb188) := ⟨h8_⟩
      have n9_ : Aside0 (gb188 ≠ gb183) := ⟨h9_⟩
      have n10_ : Aside0 (gb189 ≠ gb188) := ⟨h10_⟩
      have n11_ : Aside0 (gb188 ≠ gb189) := ⟨h11_⟩
      have n12_ : Aside0 (w.heap.size ≤ gb189) := ⟨h12_⟩
      have n13_ : Aside0 (w.heap.size ≤ gb189) := ⟨h13_⟩
      have n14_ : Aside0 (gb182 ≠ gb189) := ⟨h14_⟩
      have n15_ : Aside0 (gb189 ≠ gb182) := ⟨h15_⟩
      have n16_ : Aside0 (gb183 ≠ gb189) := ⟨h16_⟩
      have n17_ : Aside0 (gb189 ≠ gb183) := ⟨h17_⟩
      have n18_ : Aside0 (Below w.heap.size w w14) := ⟨h18_⟩
      clear BK182; clear BK183; clear HB; clear h0_ h1_ h2_ h3_ h4_ h5_ h6_ h7_ h8_ h9_ h10_ h11_ h12_ h13_ h14_ h15_ h16_ h17_ h18_; have BK182 := n0_; have BK183 := n1_; have BK188 := n2_; have BK189 := n3_; have GW188 := n4_; have GE188 := n5_; have NB182_188 := n6_; have NB188_182 := n7_; have NB183_188 := n8_; have NB188_183 := n9_; have NB189_188 := n10_; have NB188_189 := n11_; have GW189 := n12_; have GE189 := n13_; have NB182_189 := n14_; have NB189_182 := n15_; have NB183_189 := n16_; have NB189_183 := n17_; have HB := n18_; clear n0_ n1_ n2_ n3_ n4_ n5_ n6_ n7_ n8_ n9_ n10_ n11_ n12_ n13_ n14_ n15_ n16_ n17_ n18_
      have hHeld : w14.cell? ⟨gb182, 0, none⟩ = some (.int .u64 a0_0) ∧ w14.cell? ⟨gb182, 1, none⟩ = some (.int .u64 a0_1) ∧ w14.cell? ⟨gb183, 0, none⟩ = some (.int .u64 a1_0) ∧ w14.cell? ⟨gb183, 1, none⟩ = some (.int .u64 a1_1) := hS_
      refine norm_ (a' := ?_) ?_ ?_
      rotate_left
      ·
       simp only [putAll, Act.put, List.setIfInBounds_toArray, List.set_cons_zero, List.set_cons_succ]
       rfl
      refine one_ (i := 5) (N := some 26) #[T,T,T,T,T,T,T,T,F,F] rfl rfl (one_of HT_.out (by kernel_rfl)) (by decide) (fun K hK => ?_)
      refine goes_ Try.func34 (by kernel_rfl) rfl #[.agg #[.int .u64 a1_0, .int .u64 a1_1], .int .i64 (wrap64 (Int.tmod (IntKind.u64.wrap (a2)) 131))] (by rfl) rfl rfl (by (try simp only [List.map_toArray, List.map_cons, List.map_nil]); first | done | rfl | (simp only [List.length_drop, List.length_take]; rfl)) ?_
      with_reducible refine (word_Cut.calls a1_0 a1_1 (wrap64 (Int.tmod (IntKind.u64.wrap (a2)) 131)) t186 t187 _ A6.out).mono ?_
      rintro e w15 ⟨rfl, hb⟩
      refine ⟨_, rfl, ?_⟩
      have n0_ := Aside0.mk (blk_below (bkA BK182.out) hb); have n1_ := Aside0.mk (blk_below (bkA BK183.out) hb); have n2_ := Aside0.mk (blk_below (bkA BK188.out) hb); have n3_ := Aside0.mk (blk_below (bkA BK189.out) hb)
      have n4_ := Aside0.mk (below_step (by repeat (first | (with_reducible first | exact HB.out | apply below_alloc | apply pw_below_drewN | apply below_drew1 | refine below_set ?_ GE182.out | refine below_set ?_ GE183.out | refine below_set ?_ GE188.out | refine below_set ?_ GE189.out) | exact HB.out)) hb)
      clear BK182; clear BK183; clear BK188; clear BK189; clear HB; have BK182 := n0_; have BK183 := n1_; have BK188 := n2_; have BK189 := n3_; have HB := n4_; clear n0_ n1_ n2_ n3_ n4_; (try clear hb); (try clear hb2); (try clear hk); (try clear hi)
      refine hK.out _ _ ⟨(blk_cell BK182.out 0).trans rfl, (blk_cell BK182.out 1).trans rfl, (blk_cell BK183.out 0).trans rfl, (blk_cell BK183.out 1).trans rfl⟩ (fun hHeld => ?_)
      clear hK K
      refine norm_ (a' := ?_) ?_ ?_
      rotate_left
      ·
       show Act.put _ (some 26) _ = _
       simp only [Act.put, List.setIfInBounds_toArray, List.set_cons_zero, List.set_cons_succ, i64_w, i32_w]
       rfl
      exact norm_ (by first | (simp only [putAll, Act.put, List.setIfInBounds_toArray, List.set_cons_zero, List.set_cons_succ]; done) | (simp only [putAll, Act.put, List.setIfInBounds_toArray, List.set_cons_zero, List.set_cons_succ]; rfl)) (hJ2_5_6_7 (gb188, gb189) _ ⟨hHeld, (bkA BK182.out), (bkA BK183.out), (bkA BK188.out), (bkA BK189.out), GW188.out, GE188.out, NB182_188.out, NB188_182.out, NB183_188.out, NB188_183.out, NB189_188.out, NB188_189.out, GW189.out, GE189.out, NB182_189.out, NB189_182.out, NB183_189.out, NB189_183.out, (by repeat (first | (with_reducible first | exact HB.out | apply below_alloc | apply pw_below_drewN | apply below_drew1 | refine below_set ?_ GE182.out | refine below_set ?_ GE183.out | refine below_set ?_ GE188.out | refine below_set ?_ GE189.out) | exact HB.out))⟩)
    ·
     skip
     rintro gb189 w14 ⟨hS_, h0_, h1_, h2_, h3_, h4_, h5_, h6_, h7_, h8_, h9_⟩
     have n0_ : Aside0 (w14.heap[gb182]? = some (.cells #[.int .u64 a0_0, .int .u64 a0_1] 24 (0, 0))) := ⟨h0_⟩
     have n1_ : Aside0 (w14.heap[gb183]? = some (.cells #[.int .u64 a1_0, .int .u64 a1_1] 24 (0, 0))) := ⟨h1_⟩
     have n2_ : Aside0 (w14.heap[gb189]? = some (.cells #[.int .u64 0, .int .u64 0] 24 (0, 0))) := ⟨h2_⟩
     have n3_ : Aside0 (w.heap.size ≤ gb189) := ⟨h3_⟩
     have n4_ : Aside0 (w.heap.size ≤ gb189) := ⟨h4_⟩
     have n5_ : Aside0 (gb182 ≠ gb189) := ⟨h5_⟩
     have n6_ : Aside0 (gb189 ≠ gb182) := ⟨h6_⟩
     have n7_ : Aside0 (gb183 ≠ gb189) := ⟨h7_⟩
     have n8_ : Aside0 (gb189 ≠ gb183) := ⟨h8_⟩
     have n9_ : Aside0 (Below w.heap.size w w14) := ⟨h9_⟩
     clear BK182; clear BK183; clear HB; clear h0_ h1_ h2_ h3_ h4_ h5_ h6_ h7_ h8_ h9_; have BK182 := n0_; have BK183 := n1_; have BK189 := n2_; have GW189 := n3_; have GE189 := n4_; have NB182_189 := n5_; have NB189_182 := n6_; have NB183_189 := n7_; have NB189_183 := n8_; have HB := n9_; clear n0_ n1_ n2_ n3_ n4_ n5_ n6_ n7_ n8_ n9_
     have hHeld : w14.cell? ⟨gb182, 0, none⟩ = some (.int .u64 a0_0) ∧ w14.cell? ⟨gb182, 1, none⟩ = some (.int .u64 a0_1) ∧ w14.cell? ⟨gb183, 0, none⟩ = some (.int .u64 a1_0) ∧ w14.cell? ⟨gb183, 1, none⟩ = some (.int .u64 a1_1) := hS_
     refine norm_ (a' := ?_) ?_ ?_
     rotate_left
     ·
      simp only [putAll, Act.put, List.setIfInBounds_toArray, List.set_cons_zero, List.set_cons_succ]
      rfl
     refine one_ (i := 6) (N := some 11) #[T,T,T,T,T,T,T,T,F,F] rfl rfl (one_of HT_.out (by kernel_rfl)) (by decide) (fun K hK => ?_)
     refine box_step ?hg (N := 11) ?hd (cs := #[.int .u64 0, .int .u64 0]) (t := 24) ?hr ?_; (case hd => rfl); (case hg => rfl); (case hr => first | (go_simp; done) | (go_simp; rfl))
     intro gb188 hg w15 hbox hb
     have n0_ := Aside0.mk (blk_below (bkA BK182.out) hb); have n1_ := Aside0.mk (blk_below (bkA BK183.out) hb); have n2_ := Aside0.mk (blk_below (bkA BK189.out) hb)
     have n3_ := Aside0.mk (below_step (by repeat (first | (with_reducible first | exact HB.out | apply below_alloc | apply pw_below_drewN | apply below_drew1 | refine below_set ?_ GE182.out | refine below_set ?_ GE183.out | refine below_set ?_ GE189.out) | exact HB.out)) hb)
     have n4_ := Aside0.mk (hbox)
     have n5_ := Aside0.mk ((by rw [hg]; exact (below_size (by repeat (first | (with_reducible first | exact HB.out | apply below_alloc | apply pw_below_drewN | apply below_drew1 | refine below_set ?_ GE182.out | refine below_set ?_ GE183.out | refine below_set ?_ GE189.out) | exact HB.out))) : w.heap.size ≤ gb188))
     have n6_ := Aside0.mk ((by rw [hg]; exact (below_size (by repeat (first | (with_reducible first | exact HB.out | apply below_alloc | apply pw_below_drewN | apply below_drew1 | refine below_set ?_ GE182.out | refine below_set ?_ GE183.out | refine below_set ?_ GE189.out) | exact HB.out))) : w.heap.size ≤ gb188))
     have n7_ := Aside0.mk ((by rw [hg]; exact Nat.ne_of_lt (blk_lt (bkA BK182.out)) : gb182 ≠ gb188))
     have n8_ := Aside0.mk ((by rw [hg]; exact Nat.ne_of_gt (blk_lt (bkA BK182.out)) : gb188 ≠ gb182))
     have n9_ := Aside0.mk ((by rw [hg]; exact Nat.ne_of_lt (blk_lt (bkA BK183.out)) : gb183 ≠ gb188))
     have n10_ := Aside0.mk ((by rw [hg]; exact Nat.ne_of_gt (blk_lt (bkA BK183.out)) : gb188 ≠ gb183))
     have n11_ := Aside0.mk ((by rw [hg]; exact Nat.ne_of_lt (blk_lt (bkA BK189.out)) : gb189 ≠ gb188))
     have n12_ := Aside0.mk ((by rw [hg]; exact Nat.ne_of_gt (blk_lt (bkA BK189.out)) : gb188 ≠ gb189))
     clear BK182; clear BK183; clear BK189; clear HB; have BK182 := n0_; have BK183 := n1_; have BK189 := n2_; have HB := n3_; have BK188 := n4_; have GW188 := n5_; have GE188 := n6_; have NB182_188 := n7_; have NB188_182 := n8_; have NB183_188 := n9_; have NB188_183 := n10_; have NB189_188 := n11_; have NB188_189 := n12_; clear n0_ n1_ n2_ n3_ n4_ n5_ n6_ n7_ n8_ n9_ n10_ n11_ n12_; clear hb hbox hg
     refine hK.out _ _ ⟨(blk_cell BK182.out 0).trans rfl, (blk_cell BK182.out 1).trans rfl, (blk_cell BK183.out 0).trans rfl, (blk_cell BK183.out 1).trans rfl⟩ (fun hHeld => ?_)
     clear hK K
     refine norm_ (a' := ?_) ?_ ?_
     rotate_left
     ·
      show Act.put _ (some 11) _ = _
      simp only [Act.put, List.setIfInBounds_toArray, List.set_cons_zero, List.set_cons_succ, i64_w, i32_w]
      rfl
     exact norm_ (by first | (simp only [putAll, Act.put, List.setIfInBounds_toArray, List.set_cons_zero, List.set_cons_succ]; done) | (simp only [putAll, Act.put, List.setIfInBounds_toArray, List.set_cons_zero, List.set_cons_succ]; rfl)) (hJ2_5_6_7 (gb188, gb189) _ ⟨hHeld, (bkA BK182.out), (bkA BK183.out), (bkA BK188.out), (bkA BK189.out), GW188.out, GE188.out, NB182_188.out, NB188_182.out, NB183_188.out, NB188_183.out, NB189_188.out, NB188_189.out, GW189.out, GE189.out, NB182_189.out, NB189_182.out, NB183_189.out, NB189_183.out, (by repeat (first | (with_reducible first | exact HB.out | apply below_alloc | apply pw_below_drewN | apply below_drew1 | refine below_set ?_ GE182.out | refine below_set ?_ GE183.out | refine below_set ?_ GE189.out | refine below_set ?_ GE188.out) | exact HB.out))⟩)
   ·
    skip
    rintro gb188 w14 ⟨hS_, h0_, h1_, h2_, h3_, h4_, h5_, h6_, h7_, h8_, h9_⟩
    have n0_ : Aside0 (w14.heap[gb182]? = some (.cells #[.int .u64 a0_0, .int .u64 a0_1] 24 (0, 0))) := ⟨h0_⟩
    have n1_ : Aside0 (w14.heap[gb183]? = some (.cells #[.int .u64 a1_0, .int .u64 a1_1] 24 (0, 0))) := ⟨h1_⟩
    have n2_ : Aside0 (w14.heap[gb188]? = some (.cells #[.int .u64 0, .int .u64 0] 24 (0, 0))) := ⟨h2_⟩
    have n3_ : Aside0 (w.heap.size ≤ gb188) := ⟨h3_⟩
    have n4_ : Aside0 (w.heap.size ≤ gb188) := ⟨h4_⟩
    have n5_ : Aside0 (gb182 ≠ gb188) := ⟨h5_⟩
    have n6_ : Aside0 (gb188 ≠ gb182) := ⟨h6_⟩
    have n7_ : Aside0 (gb183 ≠ gb188) := ⟨h7_⟩
    have n8_ : Aside0 (gb188 ≠ gb183) := ⟨h8_⟩
    have n9_ : Aside0 (Below w.heap.size w w14) := ⟨h9_⟩
    clear BK182; clear BK183; clear HB; clear h0_ h1_ h2_ h3_ h4_ h5_ h6_ h7_ h8_ h9_; have BK182 := n0_; have BK183 := n1_; have BK188 := n2_; have GW188 := n3_; have GE188 := n4_; have NB182_188 := n5_; have NB188_182 := n6_; have NB183_188 := n7_; have NB188_183 := n8_; have HB := n9_; clear n0_ n1_ n2_ n3_ n4_ n5_ n6_ n7_ n8_ n9_
    have hHeld : w14.cell? ⟨gb182, 0, none⟩ = some (.int .u64 a0_0) ∧ w14.cell? ⟨gb182, 1, none⟩ = some (.int .u64 a0_1) ∧ w14.cell? ⟨gb183, 0, none⟩ = some (.int .u64 a1_0) ∧ w14.cell? ⟨gb183, 1, none⟩ = some (.int .u64 a1_1) := hS_
    refine norm_ (a' := ?_) ?_ ?_
    rotate_left
    ·
     simp only [putAll, Act.put, List.setIfInBounds_toArray, List.set_cons_zero, List.set_cons_succ]
     rfl
    refine one_ (i := 7) (N := some 12) #[T,T,T,T,T,T,T,T,F,F] rfl rfl (one_of HT_.out (by kernel_rfl)) (by decide) (fun K hK => ?_)
    refine box_step ?hg (N := 12) ?hd (cs := #[.int .u64 0, .int .u64 0]) (t := 24) ?hr ?_; (case hd => rfl); (case hg => rfl); (case hr => first | (go_simp; done) | (go_simp; rfl))
    intro gb189 hg w15 hbox hb
    have n0_ := Aside0.mk (blk_below (bkA BK182.out) hb); have n1_ := Aside0.mk (blk_below (bkA BK183.out) hb); have n2_ := Aside0.mk (blk_below (bkA BK188.out) hb)
    have n3_ := Aside0.mk (below_step (by repeat (first | (with_reducible first | exact HB.out | apply below_alloc | apply pw_below_drewN | apply below_drew1 | refine below_set ?_ GE182.out | refine below_set ?_ GE183.out | refine below_set ?_ GE188.out) | exact HB.out)) hb)
    have n4_ := Aside0.mk (hbox)
    have n5_ := Aside0.mk ((by rw [hg]; exact (below_size (by repeat (first | (with_reducible first | exact HB.out | apply below_alloc | apply pw_below_drewN | apply below_drew1 | refine below_set ?_ GE182.out | refine below_set ?_ GE183.out | refine below_set ?_ GE188.out) | exact HB.out))) : w.heap.size ≤ gb189))
    have n6_ := Aside0.mk ((by rw [hg]; exact (below_size (by repeat (first | (with_reducible first | exact HB.out | apply below_alloc | apply pw_below_drewN | apply below_drew1 | refine below_set ?_ GE182.out | refine below_set ?_ GE183.out | refine below_set ?_ GE188.out) | exact HB.out))) : w.heap.size ≤ gb189))
    have n7_ := Aside0.mk ((by rw [hg]; exact Nat.ne_of_lt (blk_lt (bkA BK182.out)) : gb182 ≠ gb189))
    have n8_ := Aside0.mk ((by rw [hg]; exact Nat.ne_of_gt (blk_lt (bkA BK182.out)) : gb189 ≠ gb182))
    have n9_ := Aside0.mk ((by rw [hg]; exact Nat.ne_of_lt (blk_lt (bkA BK183.out)) : gb183 ≠ gb189))
    have n10_ := Aside0.mk ((by rw [hg]; exact Nat.ne_of_gt (blk_lt (bkA BK183.out)) : gb189 ≠ gb183))
    have n11_ := Aside0.mk ((by rw [hg]; exact Nat.ne_of_lt (blk_lt (bkA BK188.out)) : gb188 ≠ gb189))
    have n12_ := Aside0.mk ((by rw [hg]; exact Nat.ne_of_gt (blk_lt (bkA BK188.out)) : gb189 ≠ gb188))
    clear BK182; clear BK183; clear BK188; clear HB; have BK182 := n0_; have BK183 := n1_; have BK188 := n2_; have HB := n3_; have BK189 := n4_; have GW189 := n5_; have GE189 := n6_; have NB182_189 := n7_; have NB189_182 := n8_; have NB183_189 := n9_; have NB189_183 := n10_; have NB188_189 := n11_; have NB189_188 := n12_; clear n0_ n1_ n2_ n3_ n4_ n5_ n6_ n7_ n8_ n9_ n10_ n11_ n12_; clear hb hbox hg
    refine hK.out _ _ ⟨(blk_cell BK182.out 0).trans rfl, (blk_cell BK182.out 1).trans rfl, (blk_cell BK183.out 0).trans rfl, (blk_cell BK183.out 1).trans rfl⟩ (fun hHeld => ?_)
    clear hK K
    refine norm_ (a' := ?_) ?_ ?_
    rotate_left
    ·
     show Act.put _ (some 12) _ = _
     simp only [Act.put, List.setIfInBounds_toArray, List.set_cons_zero, List.set_cons_succ, i64_w, i32_w]
     rfl
    exact norm_ (by first | (simp only [putAll, Act.put, List.setIfInBounds_toArray, List.set_cons_zero, List.set_cons_succ]; done) | (simp only [putAll, Act.put, List.setIfInBounds_toArray, List.set_cons_zero, List.set_cons_succ]; rfl)) (hJ2_5_6_7 (gb188, gb189) _ ⟨hHeld, (bkA BK182.out), (bkA BK183.out), (bkA BK188.out), (bkA BK189.out), GW188.out, GE188.out, NB182_188.out, NB188_182.out, NB183_188.out, NB188_183.out, NB189_188.out, NB188_189.out, GW189.out, GE189.out, NB182_189.out, NB189_182.out, NB183_189.out, NB189_183.out, (by repeat (first | (with_reducible first | exact HB.out | apply below_alloc | apply pw_below_drewN | apply below_drew1 | refine below_set ?_ GE182.out | refine below_set ?_ GE183.out | refine below_set ?_ GE188.out | refine below_set ?_ GE189.out) | exact HB.out))⟩)
  rintro ⟨gb188, gb189⟩ w15 ⟨hS_, h0_, h1_, h2_, h3_, h4_, h5_, h6_, h7_, h8_, h9_, h10_, h11_, h12_, h13_, h14_, h15_, h16_, h17_, h18_⟩
  have n0_ : Aside0 (w15.heap[gb182]? = some (.cells #[.int .u64 a0_0, .int .u64 a0_1] 24 (0, 0))) := ⟨h0_⟩
  have n1_ : Aside0 (w15.heap[gb183]? = some (.cells #[.int .u64 a1_0, .int .u64 a1_1] 24 (0, 0))) := ⟨h1_⟩
  have n2_ : Aside0 (w15.heap[gb188]? = some (.cells #[.int .u64 0, .int .u64 0] 24 (0, 0))) := ⟨h2_⟩
  have n3_ : Aside0 (w15.heap[gb189]? = some (.cells #[.int .u64 0, .int .u64 0] 24 (0, 0))) := ⟨h3_⟩
  have n4_ : Aside0 (w.heap.size ≤ gb188) := ⟨h4_⟩
  have n5_ : Aside0 (w.heap.size ≤ gb188) := ⟨h5_⟩
  have n6_ : Aside0 (gb182 ≠ gb188) := ⟨h6_⟩
  have n7_ : Aside0 (gb188 ≠ gb182) := ⟨h7_⟩
  have n8_ : Aside0 (gb183 ≠ gb188) := ⟨h8_⟩
  have n9_ : Aside0 (gb188 ≠ gb183) := ⟨h9_⟩
  have n10_ : Aside0 (gb189 ≠ gb188) := ⟨h10_⟩
  have n11_ : Aside0 (gb188 ≠ gb189) := ⟨h11_⟩
  have n12_ : Aside0 (w.heap.size ≤ gb189) := ⟨h12_⟩
  have n13_ : Aside0 (w.heap.size ≤ gb189) := ⟨h13_⟩
  have n14_ : Aside0 (gb182 ≠ gb189) := ⟨h14_⟩
  have n15_ : Aside0 (gb189 ≠ gb182) := ⟨h15_⟩
  have n16_ : Aside0 (gb183 ≠ gb189) := ⟨h16_⟩
  have n17_ : Aside0 (gb189 ≠ gb183) := ⟨h17_⟩
  have n18_ : Aside0 (Below w.heap.size w w15) := ⟨h18_⟩
  clear BK182
  clear BK183
  clear HB
  clear h0_ h1_ h2_ h3_ h4_ h5_ h6_ h7_ h8_ h9_ h10_ h11_ h12_ h13_ h14_ h15_ h16_ h17_ h18_
  have BK182 := n0_
  have BK183 := n1_
  have BK188 := n2_
  have BK189 := n3_
  have GW188 := n4_
  have GE188 := n5_
  have NB182_188 := n6_
  have NB188_182 := n7_
  have NB183_188 := n8_
  have NB188_183 := n9_
  have NB189_188 := n10_
  have NB188_189 := n11_
  have GW189 := n12_
  have GE189 := n13_
  have NB182_189 := n14_
  have NB189_182 := n15_
  have NB183_189 := n16_
  have NB189_183 := n17_
  have HB := n18_
  clear n0_ n1_ n2_ n3_ n4_ n5_ n6_ n7_ n8_ n9_ n10_ n11_ n12_ n13_ n14_ n15_ n16_ n17_ n18_
  have hHeld : w15.cell? ⟨gb182, 0, none⟩ = some (.int .u64 a0_0) ∧ w15.cell? ⟨gb182, 1, none⟩ = some (.int .u64 a0_1) ∧ w15.cell? ⟨gb183, 0, none⟩ = some (.int .u64 a1_0) ∧ w15.cell? ⟨gb183, 1, none⟩ = some (.int .u64 a1_1) := hS_
  refine norm_ (a' := ?_) ?_ ?_
  rotate_left
  ·
   simp only [putAll, Act.put, List.setIfInBounds_toArray, List.set_cons_zero, List.set_cons_succ]
   rfl
  refine one_ (i := 8) (N := none) #[T,T,T,T,T,T,T,T,T,F] rfl rfl (one_of HT_.out (by kernel_rfl)) (by decide) (fun K hK => ?_)
  have hs16 : w15.cell? ⟨gb188, 0, none⟩ = some (.int .u64 0) := (blk_cell BK188.out 0).trans rfl
  have hfs16 := blk_frozen BK188.out 0
  have hns16_0 := NB182_188.out
  have hns16_1 := NB183_188.out
  have hns16_3 := NB189_188.out
  have hms16_0 := NB188_182.out
  have hms16_1 := NB188_183.out
  have hms16_3 := NB188_189.out
  have hs17 : w15.cell? ⟨gb188, 1, none⟩ = some (.int .u64 0) := (blk_cell BK188.out 1).trans rfl
  have hfs17 := blk_frozen BK188.out 1
  have hns17_0 := NB182_188.out
  have hns17_1 := NB183_188.out
  have hns17_3 := NB189_188.out
  have hms17_0 := NB188_182.out
  have hms17_1 := NB188_183.out
  have hms17_3 := NB188_189.out
  refine skip_ (w1 := ?_) (by rfl) rfl ?_ ?_
  rotate_left
  ·
   go_simp
   rfl
  refine hK.out _ _ ⟨((cell_far (p := ⟨gb188, _, none⟩) NB182_188.out _).trans (((cell_far (p := ⟨gb188, _, none⟩) NB182_188.out _).trans (hHeld.1)))), ((cell_far (p := ⟨gb188, _, none⟩) NB182_188.out _).trans (((cell_far (p := ⟨gb188, _, none⟩) NB182_188.out _).trans (hHeld.2.1)))), ((cell_far (p := ⟨gb188, _, none⟩) NB183_188.out _).trans (((cell_far (p := ⟨gb188, _, none⟩) NB183_188.out _).trans (hHeld.2.2.1)))), ((cell_far (p := ⟨gb188, _, none⟩) NB183_188.out _).trans (((cell_far (p := ⟨gb188, _, none⟩) NB183_188.out _).trans (hHeld.2.2.2))))⟩ (fun hHeld => ?_)
  clear hK K
  refine one_ (i := 9) (N := none) #[T,T,T,T,T,T,T,T,T,T] rfl rfl (one_of HT_.out (by kernel_rfl)) (by decide) (fun K hK => ?_)
  have hs18 : w15.cell? ⟨gb189, 0, none⟩ = some (.int .u64 0) := (blk_cell BK189.out 0).trans rfl
  have hfs18 := blk_frozen BK189.out 0
  have hns18_0 := NB182_189.out
  have hns18_1 := NB183_189.out
  have hns18_2 := NB188_189.out
  have hms18_0 := NB189_182.out
  have hms18_1 := NB189_183.out
  have hms18_2 := NB189_188.out
  have hs19 : w15.cell? ⟨gb189, 1, none⟩ = some (.int .u64 0) := (blk_cell BK189.out 1).trans rfl
  have hfs19 := blk_frozen BK189.out 1
  have hns19_0 := NB182_189.out
  have hns19_1 := NB183_189.out
  have hns19_2 := NB188_189.out
  have hms19_0 := NB189_182.out
  have hms19_1 := NB189_183.out
  have hms19_2 := NB189_188.out
  refine skip_ (w1 := ?_) (by rfl) rfl ?_ ?_
  rotate_left
  ·
   go_simp
   rfl
  refine hK.out _ _ ⟨((cell_far (p := ⟨gb189, _, none⟩) NB182_189.out _).trans (((cell_far (p := ⟨gb189, _, none⟩) NB182_189.out _).trans (hHeld.1)))), ((cell_far (p := ⟨gb189, _, none⟩) NB182_189.out _).trans (((cell_far (p := ⟨gb189, _, none⟩) NB182_189.out _).trans (hHeld.2.1)))), ((cell_far (p := ⟨gb189, _, none⟩) NB183_189.out _).trans (((cell_far (p := ⟨gb189, _, none⟩) NB183_189.out _).trans (hHeld.2.2.1)))), ((cell_far (p := ⟨gb189, _, none⟩) NB183_189.out _).trans (((cell_far (p := ⟨gb189, _, none⟩) NB183_189.out _).trans (hHeld.2.2.2))))⟩ (fun hHeld => ?_)
  clear hK K
  refine done_ (done_of HT_.out (by kernel_rfl)) ?_
  go_upto_region 4 with (fail)
  go_cut [61] (fun v61 wc => ∃ (kq : Nat) (x61_6 : Bool), v61 = .bool x61_6 ∧ Aside0 (turnoutlaw01_WordCut.j0 kq (wrap64 (Int.tmod (IntKind.u64.wrap (a2)) 131)) x61_6 a0_0 a0_1 a1_0 a1_1 t184 t185 t186 t187 = some r) ∧ Aside0 (kq ≤ k) ∧ Aside0 (wc.heap[gb182]? = some (.cells #[.int .u64 a0_0, .int .u64 a0_1] 24 (0, 0))) ∧ Aside0 (wc.heap[gb183]? = some (.cells #[.int .u64 a1_0, .int .u64 a1_1] 24 (0, 0))) ∧ Aside0 (wc.heap[gb188]? = some (.cells #[.int .u64 t184, .int .u64 t185] 24 (0, 0))) ∧ Aside0 (wc.heap[gb189]? = some (.cells #[.int .u64 t186, .int .u64 t187] 24 (0, 0))) ∧ Aside0 (Below w.heap.size w wc))
  case first =>
   have H := HC7.out
   clear HC7
   replace H := Option.bind_eq_some_iff.mp H
   obtain ⟨t190, A200, H⟩ := H
   replace H : (if t190 = true then ((word_Mask.f (wrap64 (Int.tmod (IntKind.u64.wrap (a2)) 131))).bind fun bt191 => ((word_Compare.f t184 t185 bt191.1 bt191.2).bind fun t193 => (if t193 > 0 then (turnoutlaw01_WordCut.j0 k (wrap64 (Int.tmod (IntKind.u64.wrap (a2)) 131)) true a0_0 a0_1 a1_0 a1_1 t184 t185 t186 t187) else ((word_Size.f k t184 t185).bind fun t194 => (if t194 > (wrap64 (Int.tmod (IntKind.u64.wrap (a2)) 131)) then (turnoutlaw01_WordCut.j0 k (wrap64 (Int.tmod (IntKind.u64.wrap (a2)) 131)) true a0_0 a0_1 a1_0 a1_1 t184 t185 t186 t187) else ((word_Cut.f t184 t185 (wrap64 (Int.tmod (IntKind.u64.wrap (a2)) 131))).bind fun bt195 => (if (!(bt195.1 == t184) || (!(bt195.2 == t185))) = true then (turnoutlaw01_WordCut.j0 k (wrap64 (Int.tmod (IntKind.u64.wrap (a2)) 131)) true a0_0 a0_1 a1_0 a1_1 t184 t185 t186 t187) else ((word_Cut.f a0_0 a0_1 (wrap64 (Int.tmod (IntKind.u64.wrap (a3)) 131))).bind fun bt197 => ((word_Cut.f bt197.1 bt197.2 (wrap64 (Int.tmod (IntKind.u64.wrap (a2)) 131))).bind fun bt199 => ((word_Cut.f a0_0 a0_1 (mn (wrap64 (Int.tmod (IntKind.u64.wrap (a2)) 131)) (wrap64 (Int.tmod (IntKind.u64.wrap (a3)) 131)))).bind fun bt201 => (turnoutlaw01_WordCut.j0 k (wrap64 (Int.tmod (IntKind.u64.wrap (a2)) 131)) (!(bt199.1 == bt201.1) || (!(bt199.2 == bt201.2))) a0_0 a0_1 a1_0 a1_1 t184 t185 t186 t187))))))))))) else (turnoutlaw01_WordCut.j0 k (wrap64 (Int.tmod (IntKind.u64.wrap (a2)) 131)) true a0_0 a0_1 a1_0 a1_1 t184 t185 t186 t187)) = some r := H
   have A20 := Aside0.mk A200
   clear A200
   by_cases c21 : t190 = true
   ·
    subst c21
    have H1 : ((word_Mask.f (wrap64 (Int.tmod (IntKind.u64.wrap (a2)) 131))).bind fun bt191 => ((word_Compare.f t184 t185 bt191.1 bt191.2).bind fun t193 => (if t193 > 0 then (turnoutlaw01_WordCut.j0 k (wrap64 (Int.tmod (IntKind.u64.wrap (a2)) 131)) true a0_0 a0_1 a1_0 a1_1 t184 t185 t186 t187) else ((word_Size.f k t184 t185).bind fun t194 => (if t194 > (wrap64 (Int.tmod (IntKind.u64.wrap (a2)) 131)) then (turnoutlaw01_WordCut.j0 k (wrap64 (Int.tmod (IntKind.u64.wrap (a2)) 131)) true a0_0 a0_1 a1_0 a1_1 t184 t185 t186 t187) else ((word_Cut.f t184 t185 (wrap64 (Int.tmod (IntKind.u64.wrap (a2)) 131))).bind fun bt195 => (if (!(bt195.1 == t184) || (!(bt195.2 == t185))) = true then (turnoutlaw01_WordCut.j0 k (wrap64 (Int.tmod (IntKind.u64.wrap (a2)) 131)) true a0_0 a0_1 a1_0 a1_1 t184 t185 t186 t187) else ((word_Cut.f a0_0 a0_1 (wrap64 (Int.tmod (IntKind.u64.wrap (a3)) 131))).bind fun bt197 => ((word_Cut.f bt197.1 bt197.2 (wrap64 (Int.tmod (IntKind.u64.wrap (a2)) 131))).bind fun bt199 => ((word_Cut.f a0_0 a0_1 (mn (wrap64 (Int.tmod (IntKind.u64.wrap (a2)) 131)) (wrap64 (Int.tmod (IntKind.u64.wrap (a3)) 131)))).bind fun bt201 => (turnoutlaw01_WordCut.j0 k (wrap64 (Int.tmod (IntKind.u64.wrap (a2)) 131)) (!(bt199.1 == bt201.1) || (!(bt199.2 == bt201.2))) a0_0 a0_1 a1_0 a1_1 t184 t185 t186 t187))))))))))) = some r := by rw [if_pos rfl] at H; exact H
    clear H; have H := H1; clear H1
    replace H := Option.bind_eq_some_iff.mp H
    obtain ⟨⟨t191, t192⟩, A220, H⟩ := H
    replace H : ((word_Compare.f t184 t185 t191 t192).bind fun t193 => (if t193 > 0 then (turnoutlaw01_WordCut.j0 k (wrap64 (Int.tmod (IntKind.u64.wrap (a2)) 131)) true a0_0 a0_1 a1_0 a1_1 t184 t185 t186 t187) else ((word_Size.f k t184 t185).bind fun t194 => (if t194 > (wrap64 (Int.tmod (IntKind.u64.wrap (a2)) 131)) then (turnoutlaw01_WordCut.j0 k (wrap64 (Int.tmod (IntKind.u64.wrap (a2)) 131)) true a0_0 a0_1 a1_0 a1_1 t184 t185 t186 t187) else ((word_Cut.f t184 t185 (wrap64 (Int.tmod (IntKind.u64.wrap (a2)) 131))).bind fun bt195 => (if (!(bt195.1 == t184) || (!(bt195.2 == t185))) = true then (turnoutlaw01_WordCut.j0 k (wrap64 (Int.tmod (IntKind.u64.wrap (a2)) 131)) true a0_0 a0_1 a1_0 a1_1 t184 t185 t186 t187) else ((word_Cut.f a0_0 a0_1 (wrap64 (Int.tmod (IntKind.u64.wrap (a3)) 131))).bind fun bt197 => ((word_Cut.f bt197.1 bt197.2 (wrap64 (Int.tmod (IntKind.u64.wrap (a2)) 131))).bind fun bt199 => ((word_Cut.f a0_0 a0_1 (mn (wrap64 (Int.tmod (IntKind.u64.wrap (a2)) 131)) (wrap64 (Int.tmod (IntKind.u64.wrap (a3)) 131)))).bind fun bt201 => (turnoutlaw01_WordCut.j0 k (wrap64 (Int.tmod (IntKind.u64.wrap (a2)) 131)) (!(bt199.1 == bt201.1) || (!(bt199.2 == bt201.2))) a0_0 a0_1 a1_0 a1_1 t184 t185 t186 t187)))))))))) = some r := H
    have A22 := Aside0.mk A220
    clear A220
    replace H := Option.bind_eq_some_iff.mp H
    obtain ⟨t193, A230, H⟩ := H
    replace H : (if t193 > 0 then (turnoutlaw01_WordCut.j0 k (wrap64 (Int.tmod (IntKind.u64.wrap (a2)) 131)) true a0_0 a0_1 a1_0 a1_1 t184 t185 t186 t187) else ((word_Size.f k t184 t185).bind fun t194 => (if t194 > (wrap64 (Int.tmod (IntKind.u64.wrap (a2)) 131)) then (turnoutlaw01_WordCut.j0 k (wrap64 (Int.tmod (IntKind.u64.wrap (a2)) 131)) true a0_0 a0_1 a1_0 a1_1 t184 t185 t186 t187) else ((word_Cut.f t184 t185 (wrap64 (Int.tmod (IntKind.u64.wrap (a2)) 131))).bind fun bt195 => (if (!(bt195.1 == t184) || (!(bt195.2 == t185))) = true then (turnoutlaw01_WordCut.j0 k (wrap64 (Int.tmod (IntKind.u64.wrap (a2)) 131)) true a0_0 a0_1 a1_0 a1_1 t184 t185 t186 t187) else ((word_Cut.f a0_0 a0_1 (wrap64 (Int.tmod (IntKind.u64.wrap (a3)) 131))).bind fun bt197 => ((word_Cut.f bt197.1 bt197.2 (wrap64 (Int.tmod (IntKind.u64.wrap (a2)) 131))).bind fun bt199 => ((word_Cut.f a0_0 a0_1 (mn (wrap64 (Int.tmod (IntKind.u64.wrap (a2)) 131)) (wrap64 (Int.tmod (IntKind.u64.wrap (a3)) 131)))).bind fun bt201 => (turnoutlaw01_WordCut.j0 k (wrap64 (Int.tmod (IntKind.u64.wrap (a2)) 131)) (!(bt199.1 == bt201.1) || (!(bt199.2 == bt201.2))) a0_0 a0_1 a1_0 a1_1 t184 t185 t186 t187))))))))) = some r := H
    have A23 := Aside0.mk A230
    clear A230
    by_cases c24 : t193 > 0
    ·
     rw [if_pos c24] at H
     have c24b0 : decide (0 < t193) = true := decide_eq_true c24
     clear c24
     (first | rw [c24b0] | (simp only [i64_w, i32_w]; rw [c24b0]) | skip)
     exact absurd hr_.out (by cases k with | zero => simp [turnoutlaw01_WordCut.j0] at H | succ _ => simp only [turnoutlaw01_WordCut.j0] at H; (first | rw [if_pos rfl] at H | rw [if_pos trivial] at H); rw [← Option.some.inj H]; decide)
    ·
     rw [if_neg c24] at H
     have c24b0 : decide (0 < t193) = false := decide_eq_false c24
     clear c24
     (first | rw [c24b0] | (simp only [i64_w, i32_w]; rw [c24b0]) | skip)
     replace H := Option.bind_eq_some_iff.mp H
     obtain ⟨t194, A250, H⟩ := H
     replace H : (if t194 > (wrap64 (Int.tmod (IntKind.u64.wrap (a2)) 131)) then (turnoutlaw01_WordCut.j0 k (wrap64 (Int.tmod (IntKind.u64.wrap (a2)) 131)) true a0_0 a0_1 a1_0 a1_1 t184 t185 t186 t187) else ((word_Cut.f t184 t185 (wrap64 (Int.tmod (IntKind.u64.wrap (a2)) 131))).bind fun bt195 => (if (!(bt195.1 == t184) || (!(bt195.2 == t185))) = true then (turnoutlaw01_WordCut.j0 k (wrap64 (Int.tmod (IntKind.u64.wrap (a2)) 131)) true a0_0 a0_1 a1_0 a1_1 t184 t185 t186 t187) else ((word_Cut.f a0_0 a0_1 (wrap64 (Int.tmod (IntKind.u64.wrap (a3)) 131))).bind fun bt197 => ((word_Cut.f bt197.1 bt197.2 (wrap64 (Int.tmod (IntKind.u64.wrap (a2)) 131))).bind fun bt199 => ((word_Cut.f a0_0 a0_1 (mn (wrap64 (Int.tmod (IntKind.u64.wrap (a2)) 131)) (wrap64 (Int.tmod (IntKind.u64.wrap (a3)) 131)))).bind fun bt201 => (turnoutlaw01_WordCut.j0 k (wrap64 (Int.tmod (IntKind.u64.wrap (a2)) 131)) (!(bt199.1 == bt201.1) || (!(bt199.2 == bt201.2))) a0_0 a0_1 a1_0 a1_1 t184 t185 t186 t187))))))) = some r := H
     have A25 := Aside0.mk A250
     clear A250
     by_cases c26 : t194 > (wrap64 (Int.tmod (IntKind.u64.wrap (a2)) 131))
     ·
      rw [if_pos c26] at H
      have c26b0 : decide ((wrap64 (Int.tmod (IntKind.u64.wrap (a2)) 131)) < t194) = true := decide_eq_true c26
      clear c26
      exact absurd hr_.out (by cases k with | zero => simp [turnoutlaw01_WordCut.j0] at H | succ _ => simp only [turnoutlaw01_WordCut.j0] at H; (first | rw [if_pos rfl] at H | rw [if_pos trivial] at H); rw [← Option.some.inj H]; decide)
     ·
      rw [if_neg c26] at H
      have c26b0 : decide ((wrap64 (Int.tmod (IntKind.u64.wrap (a2)) 131)) < t194) = false := decide_eq_false c26
      clear c26
      replace H := Option.bind_eq_some_iff.mp H
      obtain ⟨⟨t195, t196⟩, A270, H⟩ := H
      replace H : (if (!(t195 == t184) || (!(t196 == t185))) = true then (turnoutlaw01_WordCut.j0 k (wrap64 (Int.tmod (IntKind.u64.wrap (a2)) 131)) true a0_0 a0_1 a1_0 a1_1 t184 t185 t186 t187) else ((word_Cut.f a0_0 a0_1 (wrap64 (Int.tmod (IntKind.u64.wrap (a3)) 131))).bind fun bt197 => ((word_Cut.f bt197.1 bt197.2 (wrap64 (Int.tmod (IntKind.u64.wrap (a2)) 131))).bind fun bt199 => ((word_Cut.f a0_0 a0_1 (mn (wrap64 (Int.tmod (IntKind.u64.wrap (a2)) 131)) (wrap64 (Int.tmod (IntKind.u64.wrap (a3)) 131)))).bind fun bt201 => (turnoutlaw01_WordCut.j0 k (wrap64 (Int.tmod (IntKind.u64.wrap (a2)) 131)) (!(bt199.1 == bt201.1) || (!(bt199.2 == bt201.2))) a0_0 a0_1 a1_0 a1_1 t184 t185 t186 t187))))) = some r := H
      have A27 := Aside0.mk A270
      clear A270
      by_cases c28 : (!(t195 == t184) || (!(t196 == t185))) = true
      ·
       rw [if_pos c28] at H
       have c28b0 : (!(t195 == t184) || (!(t196 == t185))) = true := c28
       clear c28
       exact absurd hr_.out (by cases k with | zero => simp [turnoutlaw01_WordCut.j0] at H | succ _ => simp only [turnoutlaw01_WordCut.j0] at H; (first | rw [if_pos rfl] at H | rw [if_pos trivial] at H); rw [← Option.some.inj H]; decide)
      ·
       rw [if_neg c28] at H
       have c28b0 : (!(t195 == t184) || (!(t196 == t185))) = false := by simpa using c28
       clear c28
       replace H := Option.bind_eq_some_iff.mp H
       obtain ⟨⟨t197, t198⟩, A290, H⟩ := H
       replace H : ((word_Cut.f t197 t198 (wrap64 (Int.tmod (IntKind.u64.wrap (a2)) 131))).bind fun bt199 => ((word_Cut.f a0_0 a0_1 (mn (wrap64 (Int.tmod (IntKind.u64.wrap (a2)) 131)) (wrap64 (Int.tmod (IntKind.u64.wrap (a3)) 131)))).bind fun bt201 => (turnoutlaw01_WordCut.j0 k (wrap64 (Int.tmod (IntKind.u64.wrap (a2)) 131)) (!(bt199.1 == bt201.1) || (!(bt199.2 == bt201.2))) a0_0 a0_1 a1_0 a1_1 t184 t185 t186 t187))) = some r := H
       have A29 := Aside0.mk A290
       clear A290
       replace H := Option.bind_eq_some_iff.mp H
       obtain ⟨⟨t199, t200⟩, A300, H⟩ := H
       replace H : ((word_Cut.f a0_0 a0_1 (mn (wrap64 (Int.tmod (IntKind.u64.wrap (a2)) 131)) (wrap64 (Int.tmod (IntKind.u64.wrap (a3)) 131)))).bind fun bt201 => (turnoutlaw01_WordCut.j0 k (wrap64 (Int.tmod (IntKind.u64.wrap (a2)) 131)) (!(t199 == bt201.1) || (!(t200 == bt201.2))) a0_0 a0_1 a1_0 a1_1 t184 t185 t186 t187)) = some r := H
       have A30 := Aside0.mk A300
       clear A300
       obtain ⟨ji31, hji31⟩ : ∃ j_ : Int, (mn (wrap64 (Int.tmod (IntKind.u64.wrap (a2)) 131)) (wrap64 (Int.tmod (IntKind.u64.wrap (a3)) 131))) = j_ := ⟨_, rfl⟩
       replace H : ((word_Cut.f a0_0 a0_1 (ji31)).bind fun bt201 => (turnoutlaw01_WordCut.j0 k (wrap64 (Int.tmod (IntKind.u64.wrap (a2)) 131)) (!(t199 == bt201.1) || (!(t200 == bt201.2))) a0_0 a0_1 a1_0 a1_1 t184 t185 t186 t187)) = some r := by first | (rw [hji31] at H; exact H) | (simp only [hji31] at H ⊢; exact H)
       (try rw [hji31] at A20)
       (try rw [hji31] at A22)
       (try rw [hji31] at A23)
       (try rw [hji31] at A25)
       (try rw [hji31] at A27)
       (try rw [hji31] at A29)
       (try rw [hji31] at A30)
       have hji31_ : (if (wrap64 (Int.tmod (IntKind.u64.wrap (a3)) 131)) < (wrap64 (Int.tmod (IntKind.u64.wrap (a2)) 131)) then (wrap64 (Int.tmod (IntKind.u64.wrap (a3)) 131)) else (wrap64 (Int.tmod (IntKind.u64.wrap (a2)) 131))) = ji31 := hji31
       replace H := Option.bind_eq_some_iff.mp H
       obtain ⟨⟨t201, t202⟩, A320, H⟩ := H
       replace H : (turnoutlaw01_WordCut.j0 k (wrap64 (Int.tmod (IntKind.u64.wrap (a2)) 131)) (!(t199 == t201) || (!(t200 == t202))) a0_0 a0_1 a1_0 a1_1 t184 t185 t186 t187) = some r := H
       have A32 := Aside0.mk A320
       clear A320
       have H' := Aside0.mk H
       clear H
       try go_wp2
       have n0_ : Aside0 (((((w15.setCell ⟨gb188, 0, none⟩ (.int .u64 t184)).setCell ⟨gb188, 1, none⟩ (.int .u64 t185)).setCell ⟨gb189, 0, none⟩ (.int .u64 t186)).setCell ⟨gb189, 1, none⟩ (.int .u64 t187)).heap[gb182]? = some (.cells #[.int .u64 a0_0, .int .u64 a0_1] 24 (0, 0))) := ⟨by (with_reducible repeat (first | refine blk_drewN ?_ _ | refine blk_drew ?_ | refine blk_alloc ?_ _)); refine blk_far ?_ NB182_189.out _; (with_reducible repeat (first | refine blk_drewN ?_ _ | refine blk_drew ?_ | refine blk_alloc ?_ _)); refine blk_far ?_ NB182_189.out _; (with_reducible repeat (first | refine blk_drewN ?_ _ | refine blk_drew ?_ | refine blk_alloc ?_ _)); refine blk_far ?_ NB182_188.out _; (with_reducible repeat (first | refine blk_drewN ?_ _ | refine blk_drew ?_ | refine blk_alloc ?_ _)); refine blk_far ?_ NB182_188.out _; (with_reducible repeat (first | refine blk_drewN ?_ _ | refine blk_drew ?_ | refine blk_alloc ?_ _)); exact BK182.out⟩
       have n1_ : Aside0 (((((w15.setCell ⟨gb188, 0, none⟩ (.int .u64 t184)).setCell ⟨gb188, 1, none⟩ (.int .u64 t185)).setCell ⟨gb189, 0, none⟩ (.int .u64 t186)).setCell ⟨gb189, 1, none⟩ (.int .u64 t187)).heap[gb183]? = some (.cells #[.int .u64 a1_0, .int .u64 a1_1] 24 (0, 0))) := ⟨by (with_reducible repeat (first | refine blk_drewN ?_ _ | refine blk_drew ?_ | refine blk_alloc ?_ _)); refine blk_far ?_ NB183_189.out _; (with_reducible repeat (first | refine blk_drewN ?_ _ | refine blk_drew ?_ | refine blk_alloc ?_ _)); refine blk_far ?_ NB183_189.out _; (with_reducible repeat (first | refine blk_drewN ?_ _ | refine blk_drew ?_ | refine blk_alloc ?_ _)); refine blk_far ?_ NB183_188.out _; (with_reducible repeat (first | refine blk_drewN ?_ _ | refine blk_drew ?_ | refine blk_alloc ?_ _)); refine blk_far ?_ NB183_188.out _; (with_reducible repeat (first | refine blk_drewN ?_ _ | refine blk_drew ?_ | refine blk_alloc ?_ _)); exact BK183.out⟩
       have n2_ : Aside0 (((((w15.setCell ⟨gb188, 0, none⟩ (.int .u64 t184)).setCell ⟨gb188, 1, none⟩ (.int .u64 t185)).setCell ⟨gb189, 0, none⟩ (.int .u64 t186)).setCell ⟨gb189, 1, none⟩ (.int .u64 t187)).heap[gb188]? = some (.cells #[.int .u64 t184, .int .u64 t185] 24 (0, 0))) := ⟨by (with_reducible repeat (first | refine blk_drewN ?_ _ | refine blk_drew ?_ | refine blk_alloc ?_ _)); refine blk_far ?_ NB188_189.out _; (with_reducible repeat (first | refine blk_drewN ?_ _ | refine blk_drew ?_ | refine blk_alloc ?_ _)); refine blk_far ?_ NB188_189.out _; (with_reducible repeat (first | refine blk_drewN ?_ _ | refine blk_drew ?_ | refine blk_alloc ?_ _)); refine blk_put (cs := #[.int .u64 t184, .int .u64 0]) ?_ 1 _ rfl; (with_reducible repeat (first | refine blk_drewN ?_ _ | refine blk_drew ?_ | refine blk_alloc ?_ _)); refine blk_put (cs := #[.int .u64 0, .int .u64 0]) ?_ 0 _ rfl; (with_reducible repeat (first | refine blk_drewN ?_ _ | refine blk_drew ?_ | refine blk_alloc ?_ _)); exact BK188.out⟩
       have n3_ : Aside0 (((((w15.setCell ⟨gb188, 0, none⟩ (.int .u64 t184)).setCell ⟨gb188, 1, none⟩ (.int .u64 t185)).setCell ⟨gb189, 0, none⟩ (.int .u64 t186)).setCell ⟨gb189, 1, none⟩ (.int .u64 t187)).heap[gb189]? = some (.cells #[.int .u64 t186, .int .u64 t187] 24 (0, 0))) := ⟨by (with_reducible repeat (first | refine blk_drewN ?_ _ | refine blk_drew ?_ | refine blk_alloc ?_ _)); refine blk_put (cs := #[.int .u64 t186, .int .u64 0]) ?_ 1 _ rfl; (with_reducible repeat (first | refine blk_drewN ?_ _ | refine blk_drew ?_ | refine blk_alloc ?_ _)); refine blk_put (cs := #[.int .u64 0, .int .u64 0]) ?_ 0 _ rfl; (with_reducible repeat (first | refine blk_drewN ?_ _ | refine blk_drew ?_ | refine blk_alloc ?_ _)); refine blk_far ?_ NB189_188.out _; (with_reducible repeat (first | refine blk_drewN ?_ _ | refine blk_drew ?_ | refine blk_alloc ?_ _)); refine blk_far ?_ NB189_188.out _; (with_reducible repeat (first | refine blk_drewN ?_ _ | refine blk_drew ?_ | refine blk_alloc ?_ _)); exact BK189.out⟩
       have n4_ : Aside0 (Below w.heap.size w ((((w15.setCell ⟨gb188, 0, none⟩ (.int .u64 t184)).setCell ⟨gb188, 1, none⟩ (.int .u64 t185)).setCell ⟨gb189, 0, none⟩ (.int .u64 t186)).setCell ⟨gb189, 1, none⟩ (.int .u64 t187))) := ⟨by repeat (first | (with_reducible first | exact HB.out | apply below_alloc | apply pw_below_drewN | apply below_drew1 | refine below_set ?_ GE182.out | refine below_set ?_ GE183.out | refine below_set ?_ GE188.out | refine below_set ?_ GE189.out) | exact HB.out)⟩
       (try clear BK182); (try clear BK183); (try clear BK188); (try clear BK189); (try clear HB); generalize ((((w15.setCell ⟨gb188, 0, none⟩ (.int .u64 t184)).setCell ⟨gb188, 1, none⟩ (.int .u64 t185)).setCell ⟨gb189, 0, none⟩ (.int .u64 t186)).setCell ⟨gb189, 1, none⟩ (.int .u64 t187)) = w33 at n0_ n1_ n2_ n3_ n4_ ⊢; have BK182 := n0_; have BK183 := n1_; have BK188 := n2_; have BK189 := n3_; have HB := n4_; clear n0_ n1_ n2_ n3_ n4_; replace BK182 := Aside0.mk (blk_drew BK182.out); replace BK183 := Aside0.mk (blk_drew BK183.out); replace BK188 := Aside0.mk (blk_drew BK188.out); replace BK189 := Aside0.mk (blk_drew BK189.out); replace HB := Aside0.mk (below_drew1 HB.out)
       refine start_ (n := 35) (S := fun w' => w'.cell? ⟨gb188, 0, none⟩ = some (.int .u64 t184) ∧ w'.cell? ⟨gb188, 1, none⟩ = some (.int .u64 t185) ∧ w'.cell? ⟨gb182, 0, none⟩ = some (.int .u64 a0_0) ∧ w'.cell? ⟨gb182, 1, none⟩ = some (.int .u64 a0_1)) (ds := []) #[F,F,F,F,F,F,F,F,F,F,F,F,F,F,F,F,F,F,F,F,F,F,F,F,F,F,F,F,F,F,F,F,F,F,F] (by kernel_rfl) rfl rfl ⟨(blk_cell BK188.out 0).trans rfl, (blk_cell BK188.out 1).trans rfl, (blk_cell BK182.out 0).trans rfl, (blk_cell BK182.out 1).trans rfl⟩ (fun hHeld => ?_); refine with_tabW turnoutlaw01_WordCut.tab4 turnoutlaw01_WordCut.bits4 (fun HT_ HW_ => ?_)
       generalize w33.drew = w34 at BK182 BK183 BK188 BK189 HB hHeld ⊢
       refine one_ (i := 0) (N := some 27) #[T,F,F,F,F,F,F,F,F,F,F,F,F,F,F,F,F,F,F,F,F,F,F,F,F,F,F,F,F,F,F,F,F,F,F] rfl rfl (one_of HT_.out (by kernel_rfl)) (by decide) (fun K hK => ?_)
       refine goes_ Try.func20 (by kernel_rfl) rfl #[] (by rfl) rfl rfl (by (try simp only [List.map_toArray, List.map_cons, List.map_nil]); first | done | rfl | (simp only [List.length_drop, List.length_take]; rfl)) ?_
       with_reducible refine (turnoutlaw01_awake.calls k  true _ A20.out ⟨HAW20.out _ _ A20.out⟩).mono ?_
       rintro e w35 ⟨rfl, hb⟩
       refine ⟨_, rfl, ?_⟩
       have n0_ := Aside0.mk (blk_below (bkA BK182.out) hb); have n1_ := Aside0.mk (blk_below (bkA BK183.out) hb); have n2_ := Aside0.mk (blk_below (bkA BK188.out) hb); have n3_ := Aside0.mk (blk_below (bkA BK189.out) hb)
       have n4_ := Aside0.mk (below_step (by repeat (first | (with_reducible first | exact HB.out | apply below_alloc | apply pw_below_drewN | apply below_drew1 | refine below_set ?_ GE182.out | refine below_set ?_ GE183.out | refine below_set ?_ GE188.out | refine below_set ?_ GE189.out) | exact HB.out)) hb)
       clear BK182; clear BK183; clear BK188; clear BK189; clear HB; have BK182 := n0_; have BK183 := n1_; have BK188 := n2_; have BK189 := n3_; have HB := n4_; clear n0_ n1_ n2_ n3_ n4_; (try clear hb); (try clear hb2); (try clear hk); (try clear hi)
       refine hK.out _ _ ⟨(blk_cell BK188.out 0).trans rfl, (blk_cell BK188.out 1).trans rfl, (blk_cell BK182.out 0).trans rfl, (blk_cell BK182.out 1).trans rfl⟩ (fun hHeld => ?_)
       clear hK K
       refine norm_ (a' := ?_) ?_ ?_
       rotate_left
       ·
        show Act.put _ (some 27) _ = _
        simp only [Act.put, List.setIfInBounds_toArray, List.set_cons_zero, List.set_cons_succ, i64_w, i32_w]
        rfl
       refine pure_ (i := 1) (N := some 28) (v := ?_) (a' := ?_) #[T,T,F,F,F,F,F,F,F,F,F,F,F,F,F,F,F,F,F,F,F,F,F,F,F,F,F,F,F,F,F,F,F,F,F] rfl rfl (any_of HT_.out (by kernel_rfl)) (fun _ _ _ h => h) (Or.inl ⟨by rfl, ?_⟩) ?_ ?_
       rotate_left
       ·
        intro w'
        go_simp
        with_reducible rfl
       rotate_left
       ·
        simp only [Act.put, List.setIfInBounds_toArray, List.set_cons_zero, List.set_cons_succ, i64_w, i32_w]
        rfl
       refine pure_ (i := 2) (N := some 29) (v := ?_) (a' := ?_) #[T,T,T,F,F,F,F,F,F,F,F,F,F,F,F,F,F,F,F,F,F,F,F,F,F,F,F,F,F,F,F,F,F,F,F] rfl rfl (any_of HT_.out (by kernel_rfl)) (fun _ _ _ h => h) (Or.inl ⟨by rfl, ?_⟩) ?_ ?_
       rotate_left
       ·
        intro w'
        go_simp
        with_reducible rfl
       rotate_left
       ·
        simp only [Act.put, List.setIfInBounds_toArray, List.set_cons_zero, List.set_cons_succ, i64_w, i32_w]
        rfl
       refine pure_ (i := 4) (N := some 31) (v := ?_) (a' := ?_) #[T,T,T,F,T,F,F,F,F,F,F,F,F,F,F,F,F,F,F,F,F,F,F,F,F,F,F,F,F,F,F,F,F,F,F] rfl rfl (any_of HT_.out (by kernel_rfl)) (fun _ _ _ h => h) (Or.inl ⟨by rfl, ?_⟩) ?_ ?_
       rotate_left
       ·
        intro w'
        go_simp
        with_reducible rfl
       rotate_left
       ·
        simp only [Act.put, List.setIfInBounds_toArray, List.set_cons_zero, List.set_cons_succ, i64_w, i32_w]
        rfl
       refine take_ (i := 3) (N := some 30) (v := ?_) (a' := ?_) #[T,T,T,T,T,F,F,F,F,F,F,F,F,F,F,F,F,F,F,F,F,F,F,F,F,F,F,F,F,F,F,F,F,F,F] rfl rfl (take_ofW HT_.out HW_.out (by kernel_rfl)) (fun _ _ _ h => h) (Or.inl ⟨by rfl, ?_⟩) hHeld ?_ ?_
       rotate_left
       ·
        rintro w' ⟨s0, s1, s2, s3⟩
        go_simp
        with_reducible rfl
       rotate_left
       ·
        simp only [Act.put, List.setIfInBounds_toArray, List.set_cons_zero, List.set_cons_succ, i64_w, i32_w]
        rfl
       refine one_ (i := 5) (N := some 32) #[T,T,T,T,T,T,F,F,F,F,F,F,F,F,F,F,F,F,F,F,F,F,F,F,F,F,F,F,F,F,F,F,F,F,F] rfl rfl (one_of HT_.out (by kernel_rfl)) (by decide) (fun K hK => ?_)
       refine goes_ Try.func22 (by kernel_rfl) rfl #[.int .i64 (wrap64 (Int.tmod (IntKind.u64.wrap (a2)) 131))] (by rfl) rfl rfl (by (try simp only [List.map_toArray, List.map_cons, List.map_nil]); first | done | rfl | (simp only [List.length_drop, List.length_take]; rfl)) ?_
       with_reducible refine (word_Mask.calls (wrap64 (Int.tmod (IntKind.u64.wrap (a2)) 131)) t191 t192 _ A22.out).mono ?_
       rintro e w36 ⟨rfl, hb⟩
       refine ⟨_, rfl, ?_⟩
       have n0_ := Aside0.mk (blk_below (bkA BK182.out) hb); have n1_ := Aside0.mk (blk_below (bkA BK183.out) hb); have n2_ := Aside0.mk (blk_below (bkA BK188.out) hb); have n3_ := Aside0.mk (blk_below (bkA BK189.out) hb)
       have n4_ := Aside0.mk (below_step (by repeat (first | (with_reducible first | exact HB.out | apply below_alloc | apply pw_below_drewN | apply below_drew1 | refine below_set ?_ GE182.out | refine below_set ?_ GE183.out | refine below_set ?_ GE188.out | refine below_set ?_ GE189.out) | exact HB.out)) hb)
       clear BK182; clear BK183; clear BK188; clear BK189; clear HB; have BK182 := n0_; have BK183 := n1_; have BK188 := n2_; have BK189 := n3_; have HB := n4_; clear n0_ n1_ n2_ n3_ n4_; (try clear hb); (try clear hb2); (try clear hk); (try clear hi)
       refine hK.out _ _ ⟨(blk_cell BK188.out 0).trans rfl, (blk_cell BK188.out 1).trans rfl, (blk_cell BK182.out 0).trans rfl, (blk_cell BK182.out 1).trans rfl⟩ (fun hHeld => ?_)
       clear hK K
       refine norm_ (a' := ?_) ?_ ?_
       rotate_left
       ·
        show Act.put _ (some 32) _ = _
        simp only [Act.put, List.setIfInBounds_toArray, List.set_cons_zero, List.set_cons_succ, i64_w, i32_w]
        rfl
       refine one_ (i := 6) (N := some 33) #[T,T,T,T,T,T,T,F,F,F,F,F,F,F,F,F,F,F,F,F,F,F,F,F,F,F,F,F,F,F,F,F,F,F,F] rfl rfl (one_of HT_.out (by kernel_rfl)) (by decide) (fun K hK => ?_)
       refine goes_ Try.func40 (by kernel_rfl) rfl #[.agg #[.int .u64 t184, .int .u64 t185], .agg #[.int .u64 t191, .int .u64 t192]] (by rfl) rfl rfl (by (try simp only [List.map_toArray, List.map_cons, List.map_nil]); first | done | rfl | (simp only [List.length_drop, List.length_take]; rfl)) ?_
       with_reducible refine (word_Compare.calls t184 t185 t191 t192 t193 _ A23.out).mono ?_
       rintro e w37 ⟨rfl, hb⟩
       refine ⟨_, rfl, ?_⟩
       have n0_ := Aside0.mk (blk_below (bkA BK182.out) hb); have n1_ := Aside0.mk (blk_below (bkA BK183.out) hb); have n2_ := Aside0.mk (blk_below (bkA BK188.out) hb); have n3_ := Aside0.mk (blk_below (bkA BK189.out) hb)
       have n4_ := Aside0.mk (below_step (by repeat (first | (with_reducible first | exact HB.out | apply below_alloc | apply pw_below_drewN | apply below_drew1 | refine below_set ?_ GE182.out | refine below_set ?_ GE183.out | refine below_set ?_ GE188.out | refine below_set ?_ GE189.out) | exact HB.out)) hb)
       clear BK182; clear BK183; clear BK188; clear BK189; clear HB; have BK182 := n0_; have BK183 := n1_; have BK188 := n2_; have BK189 := n3_; have HB := n4_; clear n0_ n1_ n2_ n3_ n4_; (try clear hb); (try clear hb2); (try clear hk); (try clear hi)
       refine hK.out _ _ ⟨(blk_cell BK188.out 0).trans rfl, (blk_cell BK188.out 1).trans rfl, (blk_cell BK182.out 0).trans rfl, (blk_cell BK182.out 1).trans rfl⟩ (fun hHeld => ?_)
       clear hK K
       refine norm_ (a' := ?_) ?_ ?_
       rotate_left
       ·
        show Act.put _ (some 33) _ = _
        simp only [Act.put, List.setIfInBounds_toArray, List.set_cons_zero, List.set_cons_succ, i64_w, i32_w]
        rfl
       refine pure_ (i := 7) (N := some 34) (v := ?_) (a' := ?_) #[T,T,T,T,T,T,T,T,F,F,F,F,F,F,F,F,F,F,F,F,F,F,F,F,F,F,F,F,F,F,F,F,F,F,F] rfl rfl (any_of HT_.out (by kernel_rfl)) (fun _ _ _ h => h) (Or.inl ⟨by rfl, ?_⟩) ?_ ?_
       rotate_left
       ·
        intro w'
        go_simp
        with_reducible rfl
       rotate_left
       ·
        simp only [Act.put, List.setIfInBounds_toArray, List.set_cons_zero, List.set_cons_succ, i64_w, i32_w]
        rfl
       refine pure_ (i := 8) (N := some 35) (v := ?_) (a' := ?_) #[T,T,T,T,T,T,T,T,T,F,F,F,F,F,F,F,F,F,F,F,F,F,F,F,F,F,F,F,F,F,F,F,F,F,F] rfl rfl (any_of HT_.out (by kernel_rfl)) (fun _ _ _ h => h) (Or.inl ⟨by rfl, ?_⟩) ?_ ?_
       rotate_left
       ·
        intro w'
        go_simp
        with_reducible rfl
       rotate_left
       ·
        simp only [Act.put, List.setIfInBounds_toArray, List.set_cons_zero, List.set_cons_succ, i64_w, i32_w]
        rfl
       refine pure_ (i := 9) (N := some 36) (v := ?_) (a' := ?_) #[T,T,T,T,T,T,T,T,T,T,F,F,F,F,F,F,F,F,F,F,F,F,F,F,F,F,F,F,F,F,F,F,F,F,F] rfl rfl (any_of HT_.out (by kernel_rfl)) (fun _ _ _ h => h) (Or.inl ⟨by rfl, ?_⟩) ?_ ?_
       rotate_left
       ·
        intro w'
        go_simp
        with_reducible rfl
       rotate_left
       ·
        simp only [Act.put, List.setIfInBounds_toArray, List.set_cons_zero, List.set_cons_succ, i64_w, i32_w]
        rfl
       refine pure_ (i := 12) (N := some 39) (v := ?_) (a' := ?_) #[T,T,T,T,T,T,T,T,T,T,F,F,T,F,F,F,F,F,F,F,F,F,F,F,F,F,F,F,F,F,F,F,F,F,F] rfl rfl (any_of HT_.out (by kernel_rfl)) (fun _ _ _ h => h) (Or.inl ⟨by rfl, ?_⟩) ?_ ?_
       rotate_left
       ·
        intro w'
        go_simp
        with_reducible rfl
       rotate_left
       ·
        simp only [Act.put, List.setIfInBounds_toArray, List.set_cons_zero, List.set_cons_succ, i64_w, i32_w]
        rfl
       refine take_ (i := 10) (N := some 37) (v := ?_) (a' := ?_) #[T,T,T,T,T,T,T,T,T,T,T,F,T,F,F,F,F,F,F,F,F,F,F,F,F,F,F,F,F,F,F,F,F,F,F] rfl rfl (take_ofW HT_.out HW_.out (by kernel_rfl)) (fun _ _ _ h => h) (Or.inl ⟨by rfl, ?_⟩) hHeld ?_ ?_
       rotate_left
       ·
        rintro w' ⟨s0, s1, s2, s3⟩
        go_simp
        with_reducible rfl
       rotate_left
       ·
        simp only [Act.put, List.setIfInBounds_toArray, List.set_cons_zero, List.set_cons_succ, i64_w, i32_w]
        rfl
       refine one_ (i := 11) (N := some 38) #[T,T,T,T,T,T,T,T,T,T,T,T,T,F,F,F,F,F,F,F,F,F,F,F,F,F,F,F,F,F,F,F,F,F,F] rfl rfl (one_of HT_.out (by kernel_rfl)) (by decide) (fun K hK => ?_)
       refine goes_ Try.func39 (by kernel_rfl) rfl #[.agg #[.int .u64 t184, .int .u64 t185]] (by rfl) rfl rfl (by (try simp only [List.map_toArray, List.map_cons, List.map_nil]); first | done | rfl | (simp only [List.length_drop, List.length_take]; rfl)) ?_
       with_reducible refine (word_Size.calls k t184 t185 t194 _ A25.out).mono ?_
       rintro e w38 ⟨rfl, hb⟩
       refine ⟨_, rfl, ?_⟩
       have n0_ := Aside0.mk (blk_below (bkA BK182.out) hb); have n1_ := Aside0.mk (blk_below (bkA BK183.out) hb); have n2_ := Aside0.mk (blk_below (bkA BK188.out) hb); have n3_ := Aside0.mk (blk_below (bkA BK189.out) hb)
       have n4_ := Aside0.mk (below_step (by repeat (first | (with_reducible first | exact HB.out | apply below_alloc | apply pw_below_drewN | apply below_drew1 | refine below_set ?_ GE182.out | refine below_set ?_ GE183.out | refine below_set ?_ GE188.out | refine below_set ?_ GE189.out) | exact HB.out)) hb)
       clear BK182; clear BK183; clear BK188; clear BK189; clear HB; have BK182 := n0_; have BK183 := n1_; have BK188 := n2_; have BK189 := n3_; have HB := n4_; clear n0_ n1_ n2_ n3_ n4_; (try clear hb); (try clear hb2); (try clear hk); (try clear hi)
       refine hK.out _ _ ⟨(blk_cell BK188.out 0).trans rfl, (blk_cell BK188.out 1).trans rfl, (blk_cell BK182.out 0).trans rfl, (blk_cell BK182.out 1).trans rfl⟩ (fun hHeld => ?_)
       clear hK K
       refine norm_ (a' := ?_) ?_ ?_
       rotate_left
       ·
        show Act.put _ (some 38) _ = _
        simp only [Act.put, List.setIfInBounds_toArray, List.set_cons_zero, List.set_cons_succ, i64_w, i32_w]
        rfl
       refine pure_ (i := 13) (N := some 40) (v := ?_) (a' := ?_) #[T,T,T,T,T,T,T,T,T,T,T,T,T,T,F,F,F,F,F,F,F,F,F,F,F,F,F,F,F,F,F,F,F,F,F] rfl rfl (any_of HT_.out (by kernel_rfl)) (fun _ _ _ h => h) (Or.inl ⟨by rfl, ?_⟩) ?_ ?_
       rotate_left
       ·
        intro w'
        go_simp
        with_reducible rfl
       rotate_left
       ·
        simp only [Act.put, List.setIfInBounds_toArray, List.set_cons_zero, List.set_cons_succ, i64_w, i32_w]
        rfl
       refine pure_ (i := 14) (N := some 41) (v := ?_) (a' := ?_) #[T,T,T,T,T,T,T,T,T,T,T,T,T,T,T,F,F,F,F,F,F,F,F,F,F,F,F,F,F,F,F,F,F,F,F] rfl rfl (any_of HT_.out (by kernel_rfl)) (fun _ _ _ h => h) (Or.inl ⟨by rfl, ?_⟩) ?_ ?_
       rotate_left
       ·
        intro w'
        go_simp
        with_reducible rfl
       rotate_left
       ·
        simp only [Act.put, List.setIfInBounds_toArray, List.set_cons_zero, List.set_cons_succ, i64_w, i32_w]
        rfl
       refine pure_ (i := 15) (N := some 42) (v := ?_) (a' := ?_) #[T,T,T,T,T,T,T,T,T,T,T,T,T,T,T,T,F,F,F,F,F,F,F,F,F,F,F,F,F,F,F,F,F,F,F] rfl rfl (any_of HT_.out (by kernel_rfl)) (fun _ _ _ h => h) (Or.inl ⟨by rfl, ?_⟩) ?_ ?_
       rotate_left
       ·
        intro w'
        go_simp
        with_reducible rfl
       rotate_left
       ·
        simp only [Act.put, List.setIfInBounds_toArray, List.set_cons_zero, List.set_cons_succ, i64_w, i32_w]
        rfl
       refine pure_ (i := 17) (N := some 44) (v := ?_) (a' := ?_) #[T,T,T,T,T,T,T,T,T,T,T,T,T,T,T,T,F,T,F,F,F,F,F,F,F,F,F,F,F,F,F,F,F,F,F] rfl rfl (any_of HT_.out (by kernel_rfl)) (fun _ _ _ h => h) (Or.inl ⟨by rfl, ?_⟩) ?_ ?_
       rotate_left
       ·
        intro w'
        go_simp
        with_reducible rfl
       rotate_left
       ·
        simp only [Act.put, List.setIfInBounds_toArray, List.set_cons_zero, List.set_cons_succ, i64_w, i32_w]
        rfl
       refine take_ (i := 16) (N := some 43) (v := ?_) (a' := ?_) #[T,T,T,T,T,T,T,T,T,T,T,T,T,T,T,T,T,T,F,F,F,F,F,F,F,F,F,F,F,F,F,F,F,F,F] rfl rfl (take_ofW HT_.out HW_.out (by kernel_rfl)) (fun _ _ _ h => h) (Or.inl ⟨by rfl, ?_⟩) hHeld ?_ ?_
       rotate_left
       ·
        rintro w' ⟨s0, s1, s2, s3⟩
        go_simp
        with_reducible rfl
       rotate_left
       ·
        simp only [Act.put, List.setIfInBounds_toArray, List.set_cons_zero, List.set_cons_succ, i64_w, i32_w]
        rfl
       refine take_ (i := 19) (N := some 46) (v := ?_) (a' := ?_) #[T,T,T,T,T,T,T,T,T,T,T,T,T,T,T,T,T,T,F,T,F,F,F,F,F,F,F,F,F,F,F,F,F,F,F] rfl rfl (take_ofW HT_.out HW_.out (by kernel_rfl)) (fun _ _ _ h => h) (Or.inl ⟨by rfl, ?_⟩) hHeld ?_ ?_
       rotate_left
       ·
        rintro w' ⟨s0, s1, s2, s3⟩
        go_simp
        with_reducible rfl
       rotate_left
       ·
        simp only [Act.put, List.setIfInBounds_toArray, List.set_cons_zero, List.set_cons_succ, i64_w, i32_w]
        rfl
       refine one_ (i := 18) (N := some 45) #[T,T,T,T,T,T,T,T,T,T,T,T,T,T,T,T,T,T,T,T,F,F,F,F,F,F,F,F,F,F,F,F,F,F,F] rfl rfl (one_of HT_.out (by kernel_rfl)) (by decide) (fun K hK => ?_)
       refine goes_ Try.func34 (by kernel_rfl) rfl #[.agg #[.int .u64 t184, .int .u64 t185], .int .i64 (wrap64 (Int.tmod (IntKind.u64.wrap (a2)) 131))] (by rfl) rfl rfl (by (try simp only [List.map_toArray, List.map_cons, List.map_nil]); first | done | rfl | (simp only [List.length_drop, List.length_take]; rfl)) ?_
       with_reducible refine (word_Cut.calls t184 t185 (wrap64 (Int.tmod (IntKind.u64.wrap (a2)) 131)) t195 t196 _ A27.out).mono ?_
       rintro e w39 ⟨rfl, hb⟩
       refine ⟨_, rfl, ?_⟩
       have n0_ := Aside0.mk (blk_below (bkA BK182.out) hb); have n1_ := Aside0.mk (blk_below (bkA BK183.out) hb); have n2_ := Aside0.mk (blk_below (bkA BK188.out) hb); have n3_ := Aside0.mk (blk_below (bkA BK189.out) hb)
       have n4_ := Aside0.mk (below_step (by repeat (first | (with_reducible first | exact HB.out | apply below_alloc | apply pw_below_drewN | apply below_drew1 | refine below_set ?_ GE182.out | refine below_set ?_ GE183.out | refine below_set ?_ GE188.out | refine below_set ?_ GE189.out) | exact HB.out)) hb)
       clear BK182; clear BK183; clear BK188; clear BK189; clear HB; have BK182 := n0_; have BK183 := n1_; have BK188 := n2_; have BK189 := n3_; have HB := n4_; clear n0_ n1_ n2_ n3_ n4_; (try clear hb); (try clear hb2); (try clear hk); (try clear hi)
       refine hK.out _ _ ⟨(blk_cell BK188.out 0).trans rfl, (blk_cell BK188.out 1).trans rfl, (blk_cell BK182.out 0).trans rfl, (blk_cell BK182.out 1).trans rfl⟩ (fun hHeld => ?_)
       clear hK K
       refine norm_ (a' := ?_) ?_ ?_
       rotate_left
       ·
        show Act.put _ (some 45) _ = _
        simp only [Act.put, List.setIfInBounds_toArray, List.set_cons_zero, List.set_cons_succ, i64_w, i32_w]
        rfl
       refine pure_ (i := 20) (N := some 47) (v := ?_) (a' := ?_) #[T,T,T,T,T,T,T,T,T,T,T,T,T,T,T,T,T,T,T,T,T,F,F,F,F,F,F,F,F,F,F,F,F,F,F] rfl rfl (any_of HT_.out (by kernel_rfl)) (fun _ _ _ h => h) (Or.inl ⟨by rfl, ?_⟩) ?_ ?_
       rotate_left
       ·
        intro w'
        go_simp
        with_reducible rfl
       rotate_left
       ·
        simp only [Act.put, List.setIfInBounds_toArray, List.set_cons_zero, List.set_cons_succ, i64_w, i32_w]
        rfl
       refine pure_ (i := 21) (N := some 48) (v := ?_) (a' := ?_) #[T,T,T,T,T,T,T,T,T,T,T,T,T,T,T,T,T,T,T,T,T,T,F,F,F,F,F,F,F,F,F,F,F,F,F] rfl rfl (any_of HT_.out (by kernel_rfl)) (fun _ _ _ h => h) (Or.inl ⟨by rfl, ?_⟩) ?_ ?_
       rotate_left
       ·
        intro w'
        go_simp
        with_reducible rfl
       rotate_left
       ·
        simp only [Act.put, List.setIfInBounds_toArray, List.set_cons_zero, List.set_cons_succ, i64_w, i32_w]
        rfl
       refine pure_ (i := 22) (N := some 49) (v := ?_) (a' := ?_) #[T,T,T,T,T,T,T,T,T,T,T,T,T,T,T,T,T,T,T,T,T,T,T,F,F,F,F,F,F,F,F,F,F,F,F] rfl rfl (any_of HT_.out (by kernel_rfl)) (fun _ _ _ h => h) (Or.inl ⟨by rfl, ?_⟩) ?_ ?_
       rotate_left
       ·
        intro w'
        go_simp
        with_reducible rfl
       rotate_left
       ·
        simp only [Act.put, List.setIfInBounds_toArray, List.set_cons_zero, List.set_cons_succ, i64_w, i32_w]
        rfl
       refine pure_ (i := 24) (N := some 51) (v := ?_) (a' := ?_) #[T,T,T,T,T,T,T,T,T,T,T,T,T,T,T,T,T,T,T,T,T,T,T,F,T,F,F,F,F,F,F,F,F,F,F] rfl rfl (any_of HT_.out (by kernel_rfl)) (fun _ _ _ h => h) (Or.inl ⟨by rfl, ?_⟩) ?_ ?_
       rotate_left
       ·
        intro w'
        go_simp
        with_reducible rfl
       rotate_left
       ·
        simp only [Act.put, List.setIfInBounds_toArray, List.set_cons_zero, List.set_cons_succ, i64_w, i32_w]
        rfl
       refine pure_ (i := 26) (N := some 53) (v := ?_) (a' := ?_) #[T,T,T,T,T,T,T,T,T,T,T,T,T,T,T,T,T,T,T,T,T,T,T,F,T,F,T,F,F,F,F,F,F,F,F] rfl rfl (any_of HT_.out (by kernel_rfl)) (fun _ _ _ h => h) (Or.inl ⟨by rfl, ?_⟩) ?_ ?_
       rotate_left
       ·
        intro w'
        go_simp
        with_reducible rfl
       rotate_left
       ·
        simp only [Act.put, List.setIfInBounds_toArray, List.set_cons_zero, List.set_cons_succ, i64_w, i32_w]
        rfl
       refine pure_ (i := 29) (N := some 56) (v := ?_) (a' := ?_) #[T,T,T,T,T,T,T,T,T,T,T,T,T,T,T,T,T,T,T,T,T,T,T,F,T,F,T,F,F,T,F,F,F,F,F] rfl rfl (any_of HT_.out (by kernel_rfl)) (fun _ _ _ h => h) (Or.inl ⟨by rfl, ?_⟩) ?_ ?_
       rotate_left
       ·
        intro w'
        go_simp
        with_reducible rfl
       rotate_left
       ·
        simp only [Act.put, List.setIfInBounds_toArray, List.set_cons_zero, List.set_cons_succ, i64_w, i32_w]
        rfl
       refine pure_ (i := 30) (N := some 57) (v := ?_) (a' := ?_) #[T,T,T,T,T,T,T,T,T,T,T,T,T,T,T,T,T,T,T,T,T,T,T,F,T,F,T,F,F,T,T,F,F,F,F] rfl rfl (any_of HT_.out (by kernel_rfl)) (fun _ _ _ h => h) (Or.inl ⟨by rfl, ?_⟩) ?_ ?_
       rotate_left
       ·
        intro w'
        go_simp
        with_reducible rfl
       rotate_left
       ·
        simp only [Act.put, List.setIfInBounds_toArray, List.set_cons_zero, List.set_cons_succ, i64_w, i32_w]
        rfl
       refine pure_ (i := 31) (N := some 58) (v := ?_) (a' := ?_) #[T,T,T,T,T,T,T,T,T,T,T,T,T,T,T,T,T,T,T,T,T,T,T,F,T,F,T,F,F,T,T,T,F,F,F] rfl rfl (any_of HT_.out (by kernel_rfl)) (fun _ _ _ h => h) (Or.inl ⟨by rfl, ?_⟩) ?_ ?_
       rotate_left
       ·
        intro w'
        go_simp
        with_reducible rfl
       rotate_left
       ·
        simp only [Act.put, List.setIfInBounds_toArray, List.set_cons_zero, List.set_cons_succ, i64_w, i32_w]
        rfl
       refine take_ (i := 23) (N := some 50) (v := ?_) (a' := ?_) #[T,T,T,T,T,T,T,T,T,T,T,T,T,T,T,T,T,T,T,T,T,T,T,T,T,F,T,F,F,T,T,T,F,F,F] rfl rfl (take_ofW HT_.out HW_.out (by kernel_rfl)) (fun _ _ _ h => h) (Or.inl ⟨by rfl, ?_⟩) hHeld ?_ ?_
       rotate_left
       ·
        rintro w' ⟨s0, s1, s2, s3⟩
        go_simp
        with_reducible rfl
       rotate_left
       ·
        simp only [Act.put, List.setIfInBounds_toArray, List.set_cons_zero, List.set_cons_succ, i64_w, i32_w]
        rfl
       refine take_ (i := 28) (N := some 55) (v := ?_) (a' := ?_) #[T,T,T,T,T,T,T,T,T,T,T,T,T,T,T,T,T,T,T,T,T,T,T,T,T,F,T,F,T,T,T,T,F,F,F] rfl rfl (take_ofW HT_.out HW_.out (by kernel_rfl)) (fun _ _ _ h => h) (Or.inl ⟨by rfl, ?_⟩) hHeld ?_ ?_
       rotate_left
       ·
        rintro w' ⟨s0, s1, s2, s3⟩
        go_simp
        with_reducible rfl
       rotate_left
       ·
        simp only [Act.put, List.setIfInBounds_toArray, List.set_cons_zero, List.set_cons_succ, i64_w, i32_w]
        rfl
       refine one_ (i := 25) (N := some 52) #[T,T,T,T,T,T,T,T,T,T,T,T,T,T,T,T,T,T,T,T,T,T,T,T,T,T,T,F,T,T,T,T,F,F,F] rfl rfl (one_of HT_.out (by kernel_rfl)) (by decide) (fun K hK => ?_)
       refine goes_ Try.func34 (by kernel_rfl) rfl #[.agg #[.int .u64 a0_0, .int .u64 a0_1], .int .i64 (wrap64 (Int.tmod (IntKind.u64.wrap (a3)) 131))] (by rfl) rfl rfl (by (try simp only [List.map_toArray, List.map_cons, List.map_nil]); first | done | rfl | (simp only [List.length_drop, List.length_take]; rfl)) ?_
       with_reducible refine (word_Cut.calls a0_0 a0_1 (wrap64 (Int.tmod (IntKind.u64.wrap (a3)) 131)) t197 t198 _ A29.out).mono ?_
       rintro e w40 ⟨rfl, hb⟩
       refine ⟨_, rfl, ?_⟩
       have n0_ := Aside0.mk (blk_below (bkA BK182.out) hb); have n1_ := Aside0.mk (blk_below (bkA BK183.out) hb); have n2_ := Aside0.mk (blk_below (bkA BK188.out) hb); have n3_ := Aside0.mk (blk_below (bkA BK189.out) hb)
       have n4_ := Aside0.mk (below_step (by repeat (first | (with_reducible first | exact HB.out | apply below_alloc | apply pw_below_drewN | apply below_drew1 | refine below_set ?_ GE182.out | refine below_set ?_ GE183.out | refine below_set ?_ GE188.out | refine below_set ?_ GE189.out) | exact HB.out)) hb)
       clear BK182; clear BK183; clear BK188; clear BK189; clear HB; have BK182 := n0_; have BK183 := n1_; have BK188 := n2_; have BK189 := n3_; have HB := n4_; clear n0_ n1_ n2_ n3_ n4_; (try clear hb); (try clear hb2); (try clear hk); (try clear hi)
       refine hK.out _ _ ⟨(blk_cell BK188.out 0).trans rfl, (blk_cell BK188.out 1).trans rfl, (blk_cell BK182.out 0).trans rfl, (blk_cell BK182.out 1).trans rfl⟩ (fun hHeld => ?_)
       clear hK K
       refine norm_ (a' := ?_) ?_ ?_
       rotate_left
       ·
        show Act.put _ (some 52) _ = _
        simp only [Act.put, List.setIfInBounds_toArray, List.set_cons_zero, List.set_cons_succ, i64_w, i32_w]
        rfl
       refine one_ (i := 27) (N := some 54) #[T,T,T,T,T,T,T,T,T,T,T,T,T,T,T,T,T,T,T,T,T,T,T,T,T,T,T,T,T,T,T,T,F,F,F] rfl rfl (one_of HT_.out (by kernel_rfl)) (by decide) (fun K hK => ?_)
       refine goes_ Try.func34 (by kernel_rfl) rfl #[.agg #[.int .u64 t197, .int .u64 t198], .int .i64 (wrap64 (Int.tmod (IntKind.u64.wrap (a2)) 131))] (by rfl) rfl rfl (by (try simp only [List.map_toArray, List.map_cons, List.map_nil]); first | done | rfl | (simp only [List.length_drop, List.length_take]; rfl)) ?_
       with_reducible refine (word_Cut.calls t197 t198 (wrap64 (Int.tmod (IntKind.u64.wrap (a2)) 131)) t199 t200 _ A30.out).mono ?_
       rintro e w41 ⟨rfl, hb⟩
       refine ⟨_, rfl, ?_⟩
       have n0_ := Aside0.mk (blk_below (bkA BK182.out) hb); have n1_ := Aside0.mk (blk_below (bkA BK183.out) hb); have n2_ := Aside0.mk (blk_below (bkA BK188.out) hb); have n3_ := Aside0.mk (blk_below (bkA BK189.out) hb)
       have n4_ := Aside0.mk (below_step (by repeat (first | (with_reducible first | exact HB.out | apply below_alloc | apply pw_below_drewN | apply below_drew1 | refine below_set ?_ GE182.out | refine below_set ?_ GE183.out | refine below_set ?_ GE188.out | refine below_set ?_ GE189.out) | exact HB.out)) hb)
       clear BK182; clear BK183; clear BK188; clear BK189; clear HB; have BK182 := n0_; have BK183 := n1_; have BK188 := n2_; have BK189 := n3_; have HB := n4_; clear n0_ n1_ n2_ n3_ n4_; (try clear hb); (try clear hb2); (try clear hk); (try clear hi)
       refine hK.out _ _ ⟨(blk_cell BK188.out 0).trans rfl, (blk_cell BK188.out 1).trans rfl, (blk_cell BK182.out 0).trans rfl, (blk_cell BK182.out 1).trans rfl⟩ (fun hHeld => ?_)
       clear hK K
       refine norm_ (a' := ?_) ?_ ?_
       rotate_left
       ·
        show Act.put _ (some 54) _ = _
        simp only [Act.put, List.setIfInBounds_toArray, List.set_cons_zero, List.set_cons_succ, i64_w, i32_w]
        rfl
       refine one_ (i := 32) (N := some 59) #[T,T,T,T,T,T,T,T,T,T,T,T,T,T,T,T,T,T,T,T,T,T,T,T,T,T,T,T,T,T,T,T,T,F,F] rfl rfl (one_of HT_.out (by kernel_rfl)) (by decide) (fun K hK => ?_)
       refine goes_ Try.func34 (by kernel_rfl) rfl #[.agg #[.int .u64 a0_0, .int .u64 a0_1], .int .i64 ji31] (by rfl) rfl rfl (by (try simp only [List.map_toArray, List.map_cons, List.map_nil]); first | done | (simp only [hji31]; rfl) | rfl | (simp only [List.length_drop, List.length_take]; rfl)) ?_
       with_reducible refine (word_Cut.calls a0_0 a0_1 ji31 t201 t202 _ A32.out).mono ?_
       rintro e w42 ⟨rfl, hb⟩
       refine ⟨_, rfl, ?_⟩
       have n0_ := Aside0.mk (blk_below (bkA BK182.out) hb); have n1_ := Aside0.mk (blk_below (bkA BK183.out) hb); have n2_ := Aside0.mk (blk_below (bkA BK188.out) hb); have n3_ := Aside0.mk (blk_below (bkA BK189.out) hb)
       have n4_ := Aside0.mk (below_step (by repeat (first | (with_reducible first | exact HB.out | apply below_alloc | apply pw_below_drewN | apply below_drew1 | refine below_set ?_ GE182.out | refine below_set ?_ GE183.out | refine below_set ?_ GE188.out | refine below_set ?_ GE189.out) | exact HB.out)) hb)
       clear BK182; clear BK183; clear BK188; clear BK189; clear HB; have BK182 := n0_; have BK183 := n1_; have BK188 := n2_; have BK189 := n3_; have HB := n4_; clear n0_ n1_ n2_ n3_ n4_; (try clear hb); (try clear hb2); (try clear hk); (try clear hi)
       refine hK.out _ _ ⟨(blk_cell BK188.out 0).trans rfl, (blk_cell BK188.out 1).trans rfl, (blk_cell BK182.out 0).trans rfl, (blk_cell BK182.out 1).trans rfl⟩ (fun hHeld => ?_)
       clear hK K
       refine norm_ (a' := ?_) ?_ ?_
       rotate_left
       ·
        show Act.put _ (some 59) _ = _
        simp only [Act.put, List.setIfInBounds_toArray, List.set_cons_zero, List.set_cons_succ, i64_w, i32_w]
        rfl
       refine pure_ (i := 33) (N := some 60) (v := ?_) (a' := ?_) #[T,T,T,T,T,T,T,T,T,T,T,T,T,T,T,T,T,T,T,T,T,T,T,T,T,T,T,T,T,T,T,T,T,T,F] rfl rfl (any_of HT_.out (by kernel_rfl)) (fun _ _ _ h => h) (Or.inl ⟨by rfl, ?_⟩) ?_ ?_
       rotate_left
       ·
        intro w'
        go_simp
        with_reducible rfl
       rotate_left
       ·
        simp only [Act.put, List.setIfInBounds_toArray, List.set_cons_zero, List.set_cons_succ, i64_w, i32_w]
        rfl
       refine pure_ (i := 34) (N := some 61) (v := ?_) (a' := ?_) #[T,T,T,T,T,T,T,T,T,T,T,T,T,T,T,T,T,T,T,T,T,T,T,T,T,T,T,T,T,T,T,T,T,T,T] rfl rfl (any_of HT_.out (by kernel_rfl)) (fun _ _ _ h => h) (Or.inl ⟨by rfl, ?_⟩) ?_ ?_
       rotate_left
       ·
        intro w'
        go_simp
        with_reducible rfl
       rotate_left
       ·
        simp only [Act.put, List.setIfInBounds_toArray, List.set_cons_zero, List.set_cons_succ, i64_w, i32_w]
        rfl
       refine done_ (done_of HT_.out (by kernel_rfl)) ?_
       try go_wp2
       go_meet
       case rel => exact ⟨_, ((!(t199 == t201) || (!(t200 == t202)))), (by first | rfl | (simp; done) | (simp [*]; done)), H', ⟨by first | omega | exact Nat.le_refl _⟩, ⟨by (with_reducible repeat (first | refine blk_drewN ?_ _ | refine blk_drew ?_ | refine blk_alloc ?_ _)); exact BK182.out⟩, ⟨by (with_reducible repeat (first | refine blk_drewN ?_ _ | refine blk_drew ?_ | refine blk_alloc ?_ _)); exact BK183.out⟩, ⟨by (with_reducible repeat (first | refine blk_drewN ?_ _ | refine blk_drew ?_ | refine blk_alloc ?_ _)); exact BK188.out⟩, ⟨by (with_reducible repeat (first | refine blk_drewN ?_ _ | refine blk_drew ?_ | refine blk_alloc ?_ _)); exact BK189.out⟩, ⟨by repeat (first | (with_reducible first | exact HB.out | apply below_alloc | apply pw_below_drewN | apply below_drew1 | refine below_set ?_ GE182.out | refine below_set ?_ GE183.out | refine below_set ?_ GE188.out | refine below_set ?_ GE189.out) | exact HB.out)⟩⟩
   ·
    replace c21 := Bool.eq_false_iff.mpr c21
    subst c21
    have H1 : (turnoutlaw01_WordCut.j0 k (wrap64 (Int.tmod (IntKind.u64.wrap (a2)) 131)) true a0_0 a0_1 a1_0 a1_1 t184 t185 t186 t187) = some r := by rw [if_neg (show ¬ (false = true) by decide)] at H; exact H
    clear H; have H := H1; clear H1
    exact absurd hr_.out (by cases k with | zero => simp [turnoutlaw01_WordCut.j0] at H | succ _ => simp only [turnoutlaw01_WordCut.j0] at H; (first | rw [if_pos rfl] at H | rw [if_pos trivial] at H); rw [← Option.some.inj H]; decide)
  case rest =>
   clear HC7
   try clear c2
   try clear p2
   try clear c3
   try clear c4
   try clear p6
   try clear c20
   try clear c21
   try clear c22
   try clear c24
   try clear c24b0
   try clear c26
   try clear c26b0
   try clear c28
   try clear c28b0
   try clear c34
   try clear c39
   try clear c40
   obtain ⟨kq, x61_6, rfl, HA, HJ6, BK182, BK183, BK188, BK189, HB⟩ := hcut
   cases kq with
   | zero => exact absurd HA.out (by simp [turnoutlaw01_WordCut.j0])
   | succ kj6 =>
    have H := HA.out
    clear HA
    simp only [turnoutlaw01_WordCut.j0] at H
    by_cases c43 : x61_6 = true
    ·
     subst c43
     have H1 : (some false) = some r := by rw [if_pos rfl] at H; exact H
     clear H; have H := H1; clear H1
     exact absurd ((Option.some.inj H).trans hr_.out) (by decide)
    ·
     replace c43 := Bool.eq_false_iff.mpr c43
     subst c43
     have H1 : ((word_Add.f t184 t185 t186 t187).bind fun bt203 => ((word_Cut.f bt203.1 bt203.2 (wrap64 (Int.tmod (IntKind.u64.wrap (a2)) 131))).bind fun bt205 => ((word_Add.f a0_0 a0_1 a1_0 a1_1).bind fun bt207 => ((word_Cut.f bt207.1 bt207.2 (wrap64 (Int.tmod (IntKind.u64.wrap (a2)) 131))).bind fun bt209 => (if (bt205.1 == bt209.1 && (bt205.2 == bt209.2)) = true then ((word_Sub.f t184 t185 t186 t187).bind fun bt211 => ((word_Cut.f bt211.1 bt211.2 (wrap64 (Int.tmod (IntKind.u64.wrap (a2)) 131))).bind fun bt213 => ((word_Sub.f a0_0 a0_1 a1_0 a1_1).bind fun bt215 => ((word_Cut.f bt215.1 bt215.2 (wrap64 (Int.tmod (IntKind.u64.wrap (a2)) 131))).bind fun bt217 => (if (bt213.1 == bt217.1 && (bt213.2 == bt217.2)) = true then ((word_Xor.f a0_0 a0_1 a1_0 a1_1).bind fun bt219 => ((word_Cut.f bt219.1 bt219.2 (wrap64 (Int.tmod (IntKind.u64.wrap (a2)) 131))).bind fun bt221 => ((word_Xor.f t184 t185 t186 t187).bind fun bt223 => (if (bt221.1 == bt223.1 && (bt221.2 == bt223.2)) = true then ((word_Or.f a0_0 a0_1 a1_0 a1_1).bind fun bt225 => ((word_Cut.f bt225.1 bt225.2 (wrap64 (Int.tmod (IntKind.u64.wrap (a2)) 131))).bind fun bt227 => ((word_Or.f t184 t185 t186 t187).bind fun bt229 => (if (bt227.1 == bt229.1 && (bt227.2 == bt229.2)) = true then ((word_And.f a0_0 a0_1 a1_0 a1_1).bind fun bt231 => ((word_Cut.f bt231.1 bt231.2 (wrap64 (Int.tmod (IntKind.u64.wrap (a2)) 131))).bind fun bt233 => ((word_And.f t184 t185 t186 t187).bind fun bt235 => (if (bt233.1 == bt235.1 && (bt233.2 == bt235.2)) = true then ((word_Not.f t184 t185).bind fun bt237 => ((word_Cut.f bt237.1 bt237.2 (wrap64 (Int.tmod (IntKind.u64.wrap (a2)) 131))).bind fun bt239 => ((word_Not.f a0_0 a0_1).bind fun bt241 => ((word_Cut.f bt241.1 bt241.2 (wrap64 (Int.tmod (IntKind.u64.wrap (a2)) 131))).bind fun bt243 => (if (bt239.1 == bt243.1 && (bt239.2 == bt243.2)) = true then ((word_Size.f kj6 a0_0 a0_1).bind fun t245 => (some ((decide (t245 ≤ (wrap64 (Int.tmod (IntKind.u64.wrap (a2)) 131)))) == (t184 == a0_0 && (t185 == a0_1))))) else (some false)))))) else (some false))))) else (some false))))) else (some false))))) else (some false)))))) else (some false)))))) = some r := by rw [if_neg (show ¬ (false = true) by decide)] at H; exact H
     clear H; have H := H1; clear H1
     replace H := Option.bind_eq_some_iff.mp H
     obtain ⟨⟨t203, t204⟩, A440, H⟩ := H
     replace H : ((word_Cut.f t203 t204 (wrap64 (Int.tmod (IntKind.u64.wrap (a2)) 131))).bind fun bt205 => ((word_Add.f a0_0 a0_1 a1_0 a1_1).bind fun bt207 => ((word_Cut.f bt207.1 bt207.2 (wrap64 (Int.tmod (IntKind.u64.wrap (a2)) 131))).bind fun bt209 => (if (bt205.1 == bt209.1 && (bt205.2 == bt209.2)) = true then ((word_Sub.f t184 t185 t186 t187).bind fun bt211 => ((word_Cut.f bt211.1 bt211.2 (wrap64 (Int.tmod (IntKind.u64.wrap (a2)) 131))).bind fun bt213 => ((word_Sub.f a0_0 a0_1 a1_0 a1_1).bind fun bt215 => ((word_Cut.f bt215.1 bt215.2 (wrap64 (Int.tmod (IntKind.u64.wrap (a2)) 131))).bind fun bt217 => (if (bt213.1 == bt217.1 && (bt213.2 == bt217.2)) = true then ((word_Xor.f a0_0 a0_1 a1_0 a1_1).bind fun bt219 => ((word_Cut.f bt219.1 bt219.2 (wrap64 (Int.tmod (IntKind.u64.wrap (a2)) 131))).bind fun bt221 => ((word_Xor.f t184 t185 t186 t187).bind fun bt223 => (if (bt221.1 == bt223.1 && (bt221.2 == bt223.2)) = true then ((word_Or.f a0_0 a0_1 a1_0 a1_1).bind fun bt225 => ((word_Cut.f bt225.1 bt225.2 (wrap64 (Int.tmod (IntKind.u64.wrap (a2)) 131))).bind fun bt227 => ((word_Or.f t184 t185 t186 t187).bind fun bt229 => (if (bt227.1 == bt229.1 && (bt227.2 == bt229.2)) = true then ((word_And.f a0_0 a0_1 a1_0 a1_1).bind fun bt231 => ((word_Cut.f bt231.1 bt231.2 (wrap64 (Int.tmod (IntKind.u64.wrap (a2)) 131))).bind fun bt233 => ((word_And.f t184 t185 t186 t187).bind fun bt235 => (if (bt233.1 == bt235.1 && (bt233.2 == bt235.2)) = true then ((word_Not.f t184 t185).bind fun bt237 => ((word_Cut.f bt237.1 bt237.2 (wrap64 (Int.tmod (IntKind.u64.wrap (a2)) 131))).bind fun bt239 => ((word_Not.f a0_0 a0_1).bind fun bt241 => ((word_Cut.f bt241.1 bt241.2 (wrap64 (Int.tmod (IntKind.u64.wrap (a2)) 131))).bind fun bt243 => (if (bt239.1 == bt243.1 && (bt239.2 == bt243.2)) = true then ((word_Size.f kj6 a0_0 a0_1).bind fun t245 => (some ((decide (t245 ≤ (wrap64 (Int.tmod (IntKind.u64.wrap (a2)) 131)))) == (t184 == a0_0 && (t185 == a0_1))))) else (some false)))))) else (some false))))) else (some false))))) else (some false))))) else (some false)))))) else (some false))))) = some r := H
     have A44 := Aside0.mk A440
     clear A440
     replace H := Option.bind_eq_some_iff.mp H
     obtain ⟨⟨t205, t206⟩, A450, H⟩ := H
     replace H : ((word_Add.f a0_0 a0_1 a1_0 a1_1).bind fun bt207 => ((word_Cut.f bt207.1 bt207.2 (wrap64 (Int.tmod (IntKind.u64.wrap (a2)) 131))).bind fun bt209 => (if (t205 == bt209.1 && (t206 == bt209.2)) = true then ((word_Sub.f t184 t185 t186 t187).bind fun bt211 => ((word_Cut.f bt211.1 bt211.2 (wrap64 (Int.tmod (IntKind.u64.wrap (a2)) 131))).bind fun bt213 => ((word_Sub.f a0_0 a0_1 a1_0 a1_1).bind fun bt215 => ((word_Cut.f bt215.1 bt215.2 (wrap64 (Int.tmod (IntKind.u64.wrap (a2)) 131))).bind fun bt217 => (if (bt213.1 == bt217.1 && (bt213.2 == bt217.2)) = true then ((word_Xor.f a0_0 a0_1 a1_0 a1_1).bind fun bt219 => ((word_Cut.f bt219.1 bt219.2 (wrap64 (Int.tmod (IntKind.u64.wrap (a2)) 131))).bind fun bt221 => ((word_Xor.f t184 t185 t186 t187).bind fun bt223 => (if (bt221.1 == bt223.1 && (bt221.2 == bt223.2)) = true then ((word_Or.f a0_0 a0_1 a1_0 a1_1).bind fun bt225 => ((word_Cut.f bt225.1 bt225.2 (wrap64 (Int.tmod (IntKind.u64.wrap (a2)) 131))).bind fun bt227 => ((word_Or.f t184 t185 t186 t187).bind fun bt229 => (if (bt227.1 == bt229.1 && (bt227.2 == bt229.2)) = true then ((word_And.f a0_0 a0_1 a1_0 a1_1).bind fun bt231 => ((word_Cut.f bt231.1 bt231.2 (wrap64 (Int.tmod (IntKind.u64.wrap (a2)) 131))).bind fun bt233 => ((word_And.f t184 t185 t186 t187).bind fun bt235 => (if (bt233.1 == bt235.1 && (bt233.2 == bt235.2)) = true then ((word_Not.f t184 t185).bind fun bt237 => ((word_Cut.f bt237.1 bt237.2 (wrap64 (Int.tmod (IntKind.u64.wrap (a2)) 131))).bind fun bt239 => ((word_Not.f a0_0 a0_1).bind fun bt241 => ((word_Cut.f bt241.1 bt241.2 (wrap64 (Int.tmod (IntKind.u64.wrap (a2)) 131))).bind fun bt243 => (if (bt239.1 == bt243.1 && (bt239.2 == bt243.2)) = true then ((word_Size.f kj6 a0_0 a0_1).bind fun t245 => (some ((decide (t245 ≤ (wrap64 (Int.tmod (IntKind.u64.wrap (a2)) 131)))) == (t184 == a0_0 && (t185 == a0_1))))) else (some false)))))) else (some false))))) else (some false))))) else (some false))))) else (some false)))))) else (some false)))) = some r := H
     have A45 := Aside0.mk A450
     clear A450
     replace H := Option.bind_eq_some_iff.mp H
     obtain ⟨⟨t207, t208⟩, A460, H⟩ := H
     replace H : ((word_Cut.f t207 t208 (wrap64 (Int.tmod (IntKind.u64.wrap (a2)) 131))).bind fun bt209 => (if (t205 == bt209.1 && (t206 == bt209.2)) = true then ((word_Sub.f t184 t185 t186 t187).bind fun bt211 => ((word_Cut.f bt211.1 bt211.2 (wrap64 (Int.tmod (IntKind.u64.wrap (a2)) 131))).bind fun bt213 => ((word_Sub.f a0_0 a0_1 a1_0 a1_1).bind fun bt215 => ((word_Cut.f bt215.1 bt215.2 (wrap64 (Int.tmod (IntKind.u64.wrap (a2)) 131))).bind fun bt217 => (if (bt213.1 == bt217.1 && (bt213.2 == bt217.2)) = true then ((word_Xor.f a0_0 a0_1 a1_0 a1_1).bind fun bt219 => ((word_Cut.f bt219.1 bt219.2 (wrap64 (Int.tmod (IntKind.u64.wrap (a2)) 131))).bind fun bt221 => ((word_Xor.f t184 t185 t186 t187).bind fun bt223 => (if (bt221.1 == bt223.1 && (bt221.2 == bt223.2)) = true then ((word_Or.f a0_0 a0_1 a1_0 a1_1).bind fun bt225 => ((word_Cut.f bt225.1 bt225.2 (wrap64 (Int.tmod (IntKind.u64.wrap (a2)) 131))).bind fun bt227 => ((word_Or.f t184 t185 t186 t187).bind fun bt229 => (if (bt227.1 == bt229.1 && (bt227.2 == bt229.2)) = true then ((word_And.f a0_0 a0_1 a1_0 a1_1).bind fun bt231 => ((word_Cut.f bt231.1 bt231.2 (wrap64 (Int.tmod (IntKind.u64.wrap (a2)) 131))).bind fun bt233 => ((word_And.f t184 t185 t186 t187).bind fun bt235 => (if (bt233.1 == bt235.1 && (bt233.2 == bt235.2)) = true then ((word_Not.f t184 t185).bind fun bt237 => ((word_Cut.f bt237.1 bt237.2 (wrap64 (Int.tmod (IntKind.u64.wrap (a2)) 131))).bind fun bt239 => ((word_Not.f a0_0 a0_1).bind fun bt241 => ((word_Cut.f bt241.1 bt241.2 (wrap64 (Int.tmod (IntKind.u64.wrap (a2)) 131))).bind fun bt243 => (if (bt239.1 == bt243.1 && (bt239.2 == bt243.2)) = true then ((word_Size.f kj6 a0_0 a0_1).bind fun t245 => (some ((decide (t245 ≤ (wrap64 (Int.tmod (IntKind.u64.wrap (a2)) 131)))) == (t184 == a0_0 && (t185 == a0_1))))) else (some false)))))) else (some false))))) else (some false))))) else (some false))))) else (some false)))))) else (some false))) = some r := H
     have A46 := Aside0.mk A460
     clear A460
     replace H := Option.bind_eq_some_iff.mp H
     obtain ⟨⟨t209, t210⟩, A470, H⟩ := H
     replace H : (if (t205 == t209 && (t206 == t210)) = true then ((word_Sub.f t184 t185 t186 t187).bind fun bt211 => ((word_Cut.f bt211.1 bt211.2 (wrap64 (Int.tmod (IntKind.u64.wrap (a2)) 131))).bind fun bt213 => ((word_Sub.f a0_0 a0_1 a1_0 a1_1).bind fun bt215 => ((word_Cut.f bt215.1 bt215.2 (wrap64 (Int.tmod (IntKind.u64.wrap (a2)) 131))).bind fun bt217 => (if (bt213.1 == bt217.1 && (bt213.2 == bt217.2)) = true then ((word_Xor.f a0_0 a0_1 a1_0 a1_1).bind fun bt219 => ((word_Cut.f bt219.1 bt219.2 (wrap64 (Int.tmod (IntKind.u64.wrap (a2)) 131))).bind fun bt221 => ((word_Xor.f t184 t185 t186 t187).bind fun bt223 => (if (bt221.1 == bt223.1 && (bt221.2 == bt223.2)) = true then ((word_Or.f a0_0 a0_1 a1_0 a1_1).bind fun bt225 => ((word_Cut.f bt225.1 bt225.2 (wrap64 (Int.tmod (IntKind.u64.wrap (a2)) 131))).bind fun bt227 => ((word_Or.f t184 t185 t186 t187).bind fun bt229 => (if (bt227.1 == bt229.1 && (bt227.2 == bt229.2)) = true then ((word_And.f a0_0 a0_1 a1_0 a1_1).bind fun bt231 => ((word_Cut.f bt231.1 bt231.2 (wrap64 (Int.tmod (IntKind.u64.wrap (a2)) 131))).bind fun bt233 => ((word_And.f t184 t185 t186 t187).bind fun bt235 => (if (bt233.1 == bt235.1 && (bt233.2 == bt235.2)) = true then ((word_Not.f t184 t185).bind fun bt237 => ((word_Cut.f bt237.1 bt237.2 (wrap64 (Int.tmod (IntKind.u64.wrap (a2)) 131))).bind fun bt239 => ((word_Not.f a0_0 a0_1).bind fun bt241 => ((word_Cut.f bt241.1 bt241.2 (wrap64 (Int.tmod (IntKind.u64.wrap (a2)) 131))).bind fun bt243 => (if (bt239.1 == bt243.1 && (bt239.2 == bt243.2)) = true then ((word_Size.f kj6 a0_0 a0_1).bind fun t245 => (some ((decide (t245 ≤ (wrap64 (Int.tmod (IntKind.u64.wrap (a2)) 131)))) == (t184 == a0_0 && (t185 == a0_1))))) else (some false)))))) else (some false))))) else (some false))))) else (some false))))) else (some false)))))) else (some false)) = some r := H
     have A47 := Aside0.mk A470
     clear A470
     by_cases c48 : (t205 == t209 && (t206 == t210)) = true
     ·
      rw [if_pos c48] at H
      have c48b0 : (t205 == t209 && (t206 == t210)) = true := c48
      (try (have c48b1 : decide (t205 = t209 && (t206 == t210)) = true := by simpa using c48))
      (try (have c48b2 : (t205 == t209 && (t206 == t210)) = true := by simpa using c48))
      clear c48
      replace H := Option.bind_eq_some_iff.mp H
      obtain ⟨⟨t211, t212⟩, A490, H⟩ := H
      replace H : ((word_Cut.f t211 t212 (wrap64 (Int.tmod (IntKind.u64.wrap (a2)) 131))).bind fun bt213 => ((word_Sub.f a0_0 a0_1 a1_0 a1_1).bind fun bt215 => ((word_Cut.f bt215.1 bt215.2 (wrap64 (Int.tmod (IntKind.u64.wrap (a2)) 131))).bind fun bt217 => (if (bt213.1 == bt217.1 && (bt213.2 == bt217.2)) = true then ((word_Xor.f a0_0 a0_1 a1_0 a1_1).bind fun bt219 => ((word_Cut.f bt219.1 bt219.2 (wrap64 (Int.tmod (IntKind.u64.wrap (a2)) 131))).bind fun bt221 => ((word_Xor.f t184 t185 t186 t187).bind fun bt223 => (if (bt221.1 == bt223.1 && (bt221.2 == bt223.2)) = true then ((word_Or.f a0_0 a0_1 a1_0 a1_1).bind fun bt225 => ((word_Cut.f bt225.1 bt225.2 (wrap64 (Int.tmod (IntKind.u64.wrap (a2)) 131))).bind fun bt227 => ((word_Or.f t184 t185 t186 t187).bind fun bt229 => (if (bt227.1 == bt229.1 && (bt227.2 == bt229.2)) = true then ((word_And.f a0_0 a0_1 a1_0 a1_1).bind fun bt231 => ((word_Cut.f bt231.1 bt231.2 (wrap64 (Int.tmod (IntKind.u64.wrap (a2)) 131))).bind fun bt233 => ((word_And.f t184 t185 t186 t187).bind fun bt235 => (if (bt233.1 == bt235.1 && (bt233.2 == bt235.2)) = true then ((word_Not.f t184 t185).bind fun bt237 => ((word_Cut.f bt237.1 bt237.2 (wrap64 (Int.tmod (IntKind.u64.wrap (a2)) 131))).bind fun bt239 => ((word_Not.f a0_0 a0_1).bind fun bt241 => ((word_Cut.f bt241.1 bt241.2 (wrap64 (Int.tmod (IntKind.u64.wrap (a2)) 131))).bind fun bt243 => (if (bt239.1 == bt243.1 && (bt239.2 == bt243.2)) = true then ((word_Size.f kj6 a0_0 a0_1).bind fun t245 => (some ((decide (t245 ≤ (wrap64 (Int.tmod (IntKind.u64.wrap (a2)) 131)))) == (t184 == a0_0 && (t185 == a0_1))))) else (some false)))))) else (some false))))) else (some false))))) else (some false))))) else (some false))))) = some r := H
      have A49 := Aside0.mk A490
      clear A490
      replace H := Option.bind_eq_some_iff.mp H
      obtain ⟨⟨t213, t214⟩, A500, H⟩ := H
      replace H : ((word_Sub.f a0_0 a0_1 a1_0 a1_1).bind fun bt215 => ((word_Cut.f bt215.1 bt215.2 (wrap64 (Int.tmod (IntKind.u64.wrap (a2)) 131))).bind fun bt217 => (if (t213 == bt217.1 && (t214 == bt217.2)) = true then ((word_Xor.f a0_0 a0_1 a1_0 a1_1).bind fun bt219 => ((word_Cut.f bt219.1 bt219.2 (wrap64 (Int.tmod (IntKind.u64.wrap (a2)) 131))).bind fun bt221 => ((word_Xor.f t184 t185 t186 t187).bind fun bt223 => (if (bt221.1 == bt223.1 && (bt221.2 == bt223.2)) = true then ((word_Or.f a0_0 a0_1 a1_0 a1_1).bind fun bt225 => ((word_Cut.f bt225.1 bt225.2 (wrap64 (Int.tmod (IntKind.u64.wrap (a2)) 131))).bind fun bt227 => ((word_Or.f t184 t185 t186 t187).bind fun bt229 => (if (bt227.1 == bt229.1 && (bt227.2 == bt229.2)) = true then ((word_And.f a0_0 a0_1 a1_0 a1_1).bind fun bt231 => ((word_Cut.f bt231.1 bt231.2 (wrap64 (Int.tmod (IntKind.u64.wrap (a2)) 131))).bind fun bt233 => ((word_And.f t184 t185 t186 t187).bind fun bt235 => (if (bt233.1 == bt235.1 && (bt233.2 == bt235.2)) = true then ((word_Not.f t184 t185).bind fun bt237 => ((word_Cut.f bt237.1 bt237.2 (wrap64 (Int.tmod (IntKind.u64.wrap (a2)) 131))).bind fun bt239 => ((word_Not.f a0_0 a0_1).bind fun bt241 => ((word_Cut.f bt241.1 bt241.2 (wrap64 (Int.tmod (IntKind.u64.wrap (a2)) 131))).bind fun bt243 => (if (bt239.1 == bt243.1 && (bt239.2 == bt243.2)) = true then ((word_Size.f kj6 a0_0 a0_1).bind fun t245 => (some ((decide (t245 ≤ (wrap64 (Int.tmod (IntKind.u64.wrap (a2)) 131)))) == (t184 == a0_0 && (t185 == a0_1))))) else (some false)))))) else (some false))))) else (some false))))) else (some false))))) else (some false)))) = some r := H
      have A50 := Aside0.mk A500
      clear A500
      replace H := Option.bind_eq_some_iff.mp H
      obtain ⟨⟨t215, t216⟩, A510, H⟩ := H
      replace H : ((word_Cut.f t215 t216 (wrap64 (Int.tmod (IntKind.u64.wrap (a2)) 131))).bind fun bt217 => (if (t213 == bt217.1 && (t214 == bt217.2)) = true then ((word_Xor.f a0_0 a0_1 a1_0 a1_1).bind fun bt219 => ((word_Cut.f bt219.1 bt219.2 (wrap64 (Int.tmod (IntKind.u64.wrap (a2)) 131))).bind fun bt221 => ((word_Xor.f t184 t185 t186 t187).bind fun bt223 => (if (bt221.1 == bt223.1 && (bt221.2 == bt223.2)) = true then ((word_Or.f a0_0 a0_1 a1_0 a1_1).bind fun bt225 => ((word_Cut.f bt225.1 bt225.2 (wrap64 (Int.tmod (IntKind.u64.wrap (a2)) 131))).bind fun bt227 => ((word_Or.f t184 t185 t186 t187).bind fun bt229 => (if (bt227.1 == bt229.1 && (bt227.2 == bt229.2)) = true then ((word_And.f a0_0 a0_1 a1_0 a1_1).bind fun bt231 => ((word_Cut.f bt231.1 bt231.2 (wrap64 (Int.tmod (IntKind.u64.wrap (a2)) 131))).bind fun bt233 => ((word_And.f t184 t185 t186 t187).bind fun bt235 => (if (bt233.1 == bt235.1 && (bt233.2 == bt235.2)) = true then ((word_Not.f t184 t185).bind fun bt237 => ((word_Cut.f bt237.1 bt237.2 (wrap64 (Int.tmod (IntKind.u64.wrap (a2)) 131))).bind fun bt239 => ((word_Not.f a0_0 a0_1).bind fun bt241 => ((word_Cut.f bt241.1 bt241.2 (wrap64 (Int.tmod (IntKind.u64.wrap (a2)) 131))).bind fun bt243 => (if (bt239.1 == bt243.1 && (bt239.2 == bt243.2)) = true then ((word_Size.f kj6 a0_0 a0_1).bind fun t245 => (some ((decide (t245 ≤ (wrap64 (Int.tmod (IntKind.u64.wrap (a2)) 131)))) == (t184 == a0_0 && (t185 == a0_1))))) else (some false)))))) else (some false))))) else (some false))))) else (some false))))) else (some false))) = some r := H
      have A51 := Aside0.mk A510
      clear A510
      replace H := Option.bind_eq_some_iff.mp H
      obtain ⟨⟨t217, t218⟩, A520, H⟩ := H
      replace H : (if (t213 == t217 && (t214 == t218)) = true then ((word_Xor.f a0_0 a0_1 a1_0 a1_1).bind fun bt219 => ((word_Cut.f bt219.1 bt219.2 (wrap64 (Int.tmod (IntKind.u64.wrap (a2)) 131))).bind fun bt221 => ((word_Xor.f t184 t185 t186 t187).bind fun bt223 => (if (bt221.1 == bt223.1 && (bt221.2 == bt223.2)) = true then ((word_Or.f a0_0 a0_1 a1_0 a1_1).bind fun bt225 => ((word_Cut.f bt225.1 bt225.2 (wrap64 (Int.tmod (IntKind.u64.wrap (a2)) 131))).bind fun bt227 => ((word_Or.f t184 t185 t186 t187).bind fun bt229 => (if (bt227.1 == bt229.1 && (bt227.2 == bt229.2)) = true then ((word_And.f a0_0 a0_1 a1_0 a1_1).bind fun bt231 => ((word_Cut.f bt231.1 bt231.2 (wrap64 (Int.tmod (IntKind.u64.wrap (a2)) 131))).bind fun bt233 => ((word_And.f t184 t185 t186 t187).bind fun bt235 => (if (bt233.1 == bt235.1 && (bt233.2 == bt235.2)) = true then ((word_Not.f t184 t185).bind fun bt237 => ((word_Cut.f bt237.1 bt237.2 (wrap64 (Int.tmod (IntKind.u64.wrap (a2)) 131))).bind fun bt239 => ((word_Not.f a0_0 a0_1).bind fun bt241 => ((word_Cut.f bt241.1 bt241.2 (wrap64 (Int.tmod (IntKind.u64.wrap (a2)) 131))).bind fun bt243 => (if (bt239.1 == bt243.1 && (bt239.2 == bt243.2)) = true then ((word_Size.f kj6 a0_0 a0_1).bind fun t245 => (some ((decide (t245 ≤ (wrap64 (Int.tmod (IntKind.u64.wrap (a2)) 131)))) == (t184 == a0_0 && (t185 == a0_1))))) else (some false)))))) else (some false))))) else (some false))))) else (some false))))) else (some false)) = some r := H
      have A52 := Aside0.mk A520
      clear A520
      by_cases c53 : (t213 == t217 && (t214 == t218)) = true
      ·
       rw [if_pos c53] at H
       have c53b0 : (t213 == t217 && (t214 == t218)) = true := c53
       (try (have c53b1 : decide (t213 = t217 && (t214 == t218)) = true := by simpa using c53))
       (try (have c53b2 : (t213 == t217 && (t214 == t218)) = true := by simpa using c53))
       clear c53
       replace H := Option.bind_eq_some_iff.mp H
       obtain ⟨⟨t219, t220⟩, A540, H⟩ := H
       replace H : ((word_Cut.f t219 t220 (wrap64 (Int.tmod (IntKind.u64.wrap (a2)) 131))).bind fun bt221 => ((word_Xor.f t184 t185 t186 t187).bind fun bt223 => (if (bt221.1 == bt223.1 && (bt221.2 == bt223.2)) = true then ((word_Or.f a0_0 a0_1 a1_0 a1_1).bind fun bt225 => ((word_Cut.f bt225.1 bt225.2 (wrap64 (Int.tmod (IntKind.u64.wrap (a2)) 131))).bind fun bt227 => ((word_Or.f t184 t185 t186 t187).bind fun bt229 => (if (bt227.1 == bt229.1 && (bt227.2 == bt229.2)) = true then ((word_And.f a0_0 a0_1 a1_0 a1_1).bind fun bt231 => ((word_Cut.f bt231.1 bt231.2 (wrap64 (Int.tmod (IntKind.u64.wrap (a2)) 131))).bind fun bt233 => ((word_And.f t184 t185 t186 t187).bind fun bt235 => (if (bt233.1 == bt235.1 && (bt233.2 == bt235.2)) = true then ((word_Not.f t184 t185).bind fun bt237 => ((word_Cut.f bt237.1 bt237.2 (wrap64 (Int.tmod (IntKind.u64.wrap (a2)) 131))).bind fun bt239 => ((word_Not.f a0_0 a0_1).bind fun bt241 => ((word_Cut.f bt241.1 bt241.2 (wrap64 (Int.tmod (IntKind.u64.wrap (a2)) 131))).bind fun bt243 => (if (bt239.1 == bt243.1 && (bt239.2 == bt243.2)) = true then ((word_Size.f kj6 a0_0 a0_1).bind fun t245 => (some ((decide (t245 ≤ (wrap64 (Int.tmod (IntKind.u64.wrap (a2)) 131)))) == (t184 == a0_0 && (t185 == a0_1))))) else (some false)))))) else (some false))))) else (some false))))) else (some false)))) = some r := H
       have A54 := Aside0.mk A540
       clear A540
       replace H := Option.bind_eq_some_iff.mp H
       obtain ⟨⟨t221, t222⟩, A550, H⟩ := H
       replace H : ((word_Xor.f t184 t185 t186 t187).bind fun bt223 => (if (t221 == bt223.1 && (t222 == bt223.2)) = true then ((word_Or.f a0_0 a0_1 a1_0 a1_1).bind fun bt225 => ((word_Cut.f bt225.1 bt225.2 (wrap64 (Int.tmod (IntKind.u64.wrap (a2)) 131))).bind fun bt227 => ((word_Or.f t184 t185 t186 t187).bind fun bt229 => (if (bt227.1 == bt229.1 && (bt227.2 == bt229.2)) = true then ((word_And.f a0_0 a0_1 a1_0 a1_1).bind fun bt231 => ((word_Cut.f bt231.1 bt231.2 (wrap64 (Int.tmod (IntKind.u64.wrap (a2)) 131))).bind fun bt233 => ((word_And.f t184 t185 t186 t187).bind fun bt235 => (if (bt233.1 == bt235.1 && (bt233.2 == bt235.2)) = true then ((word_Not.f t184 t185).bind fun bt237 => ((word_Cut.f bt237.1 bt237.2 (wrap64 (Int.tmod (IntKind.u64.wrap (a2)) 131))).bind fun bt239 => ((word_Not.f a0_0 a0_1).bind fun bt241 => ((word_Cut.f bt241.1 bt241.2 (wrap64 (Int.tmod (IntKind.u64.wrap (a2)) 131))).bind fun bt243 => (if (bt239.1 == bt243.1 && (bt239.2 == bt243.2)) = true then ((word_Size.f kj6 a0_0 a0_1).bind fun t245 => (some ((decide (t245 ≤ (wrap64 (Int.tmod (IntKind.u64.wrap (a2)) 131)))) == (t184 == a0_0 && (t185 == a0_1))))) else (some false)))))) else (some false))))) else (some false))))) else (some false))) = some r := H
       have A55 := Aside0.mk A550
       clear A550
       replace H := Option.bind_eq_some_iff.mp H
       obtain ⟨⟨t223, t224⟩, A560, H⟩ := H
       replace H : (if (t221 == t223 && (t222 == t224)) = true then ((word_Or.f a0_0 a0_1 a1_0 a1_1).bind fun bt225 => ((word_Cut.f bt225.1 bt225.2 (wrap64 (Int.tmod (IntKind.u64.wrap (a2)) 131))).bind fun bt227 => ((word_Or.f t184 t185 t186 t187).bind fun bt229 => (if (bt227.1 == bt229.1 && (bt227.2 == bt229.2)) = true then ((word_And.f a0_0 a0_1 a1_0 a1_1).bind fun bt231 => ((word_Cut.f bt231.1 bt231.2 (wrap64 (Int.tmod (IntKind.u64.wrap (a2)) 131))).bind fun bt233 => ((word_And.f t184 t185 t186 t187).bind fun bt235 => (if (bt233.1 == bt235.1 && (bt233.2 == bt235.2)) = true then ((word_Not.f t184 t185).bind fun bt237 => ((word_Cut.f bt237.1 bt237.2 (wrap64 (Int.tmod (IntKind.u64.wrap (a2)) 131))).bind fun bt239 => ((word_Not.f a0_0 a0_1).bind fun bt241 => ((word_Cut.f bt241.1 bt241.2 (wrap64 (Int.tmod (IntKind.u64.wrap (a2)) 131))).bind fun bt243 => (if (bt239.1 == bt243.1 && (bt239.2 == bt243.2)) = true then ((word_Size.f kj6 a0_0 a0_1).bind fun t245 => (some ((decide (t245 ≤ (wrap64 (Int.tmod (IntKind.u64.wrap (a2)) 131)))) == (t184 == a0_0 && (t185 == a0_1))))) else (some false)))))) else (some false))))) else (some false))))) else (some false)) = some r := H
       have A56 := Aside0.mk A560
       clear A560
       by_cases c57 : (t221 == t223 && (t222 == t224)) = true
       ·
        rw [if_pos c57] at H
        have c57b0 : (t221 == t223 && (t222 == t224)) = true := c57
        (try (have c57b1 : decide (t221 = t223 && (t222 == t224)) = true := by simpa using c57))
        (try (have c57b2 : (t221 == t223 && (t222 == t224)) = true := by simpa using c57))
        clear c57
        replace H := Option.bind_eq_some_iff.mp H
        obtain ⟨⟨t225, t226⟩, A580, H⟩ := H
        replace H : ((word_Cut.f t225 t226 (wrap64 (Int.tmod (IntKind.u64.wrap (a2)) 131))).bind fun bt227 => ((word_Or.f t184 t185 t186 t187).bind fun bt229 => (if (bt227.1 == bt229.1 && (bt227.2 == bt229.2)) = true then ((word_And.f a0_0 a0_1 a1_0 a1_1).bind fun bt231 => ((word_Cut.f bt231.1 bt231.2 (wrap64 (Int.tmod (IntKind.u64.wrap (a2)) 131))).bind fun bt233 => ((word_And.f t184 t185 t186 t187).bind fun bt235 => (if (bt233.1 == bt235.1 && (bt233.2 == bt235.2)) = true then ((word_Not.f t184 t185).bind fun bt237 => ((word_Cut.f bt237.1 bt237.2 (wrap64 (Int.tmod (IntKind.u64.wrap (a2)) 131))).bind fun bt239 => ((word_Not.f a0_0 a0_1).bind fun bt241 => ((word_Cut.f bt241.1 bt241.2 (wrap64 (Int.tmod (IntKind.u64.wrap (a2)) 131))).bind fun bt243 => (if (bt239.1 == bt243.1 && (bt239.2 == bt243.2)) = true then ((word_Size.f kj6 a0_0 a0_1).bind fun t245 => (some ((decide (t245 ≤ (wrap64 (Int.tmod (IntKind.u64.wrap (a2)) 131)))) == (t184 == a0_0 && (t185 == a0_1))))) else (some false)))))) else (some false))))) else (some false)))) = some r := H
        have A58 := Aside0.mk A580
        clear A580
        replace H := Option.bind_eq_some_iff.mp H
        obtain ⟨⟨t227, t228⟩, A590, H⟩ := H
        replace H : ((word_Or.f t184 t185 t186 t187).bind fun bt229 => (if (t227 == bt229.1 && (t228 == bt229.2)) = true then ((word_And.f a0_0 a0_1 a1_0 a1_1).bind fun bt231 => ((word_Cut.f bt231.1 bt231.2 (wrap64 (Int.tmod (IntKind.u64.wrap (a2)) 131))).bind fun bt233 => ((word_And.f t184 t185 t186 t187).bind fun bt235 => (if (bt233.1 == bt235.1 && (bt233.2 == bt235.2)) = true then ((word_Not.f t184 t185).bind fun bt237 => ((word_Cut.f bt237.1 bt237.2 (wrap64 (Int.tmod (IntKind.u64.wrap (a2)) 131))).bind fun bt239 => ((word_Not.f a0_0 a0_1).bind fun bt241 => ((word_Cut.f bt241.1 bt241.2 (wrap64 (Int.tmod (IntKind.u64.wrap (a2)) 131))).bind fun bt243 => (if (bt239.1 == bt243.1 && (bt239.2 == bt243.2)) = true then ((word_Size.f kj6 a0_0 a0_1).bind fun t245 => (some ((decide (t245 ≤ (wrap64 (Int.tmod (IntKind.u64.wrap (a2)) 131)))) == (t184 == a0_0 && (t185 == a0_1))))) else (some false)))))) else (some false))))) else (some false))) = some r := H
        have A59 := Aside0.mk A590
        clear A590
        replace H := Option.bind_eq_some_iff.mp H
        obtain ⟨⟨t229, t230⟩, A600, H⟩ := H
        replace H : (if (t227 == t229 && (t228 == t230)) = true then ((word_And.f a0_0 a0_1 a1_0 a1_1).bind fun bt231 => ((word_Cut.f bt231.1 bt231.2 (wrap64 (Int.tmod (IntKind.u64.wrap (a2)) 131))).bind fun bt233 => ((word_And.f t184 t185 t186 t187).bind fun bt235 => (if (bt233.1 == bt235.1 && (bt233.2 == bt235.2)) = true then ((word_Not.f t184 t185).bind fun bt237 => ((word_Cut.f bt237.1 bt237.2 (wrap64 (Int.tmod (IntKind.u64.wrap (a2)) 131))).bind fun bt239 => ((word_Not.f a0_0 a0_1).bind fun bt241 => ((word_Cut.f bt241.1 bt241.2 (wrap64 (Int.tmod (IntKind.u64.wrap (a2)) 131))).bind fun bt243 => (if (bt239.1 == bt243.1 && (bt239.2 == bt243.2)) = true then ((word_Size.f kj6 a0_0 a0_1).bind fun t245 => (some ((decide (t245 ≤ (wrap64 (Int.tmod (IntKind.u64.wrap (a2)) 131)))) == (t184 == a0_0 && (t185 == a0_1))))) else (some false)))))) else (some false))))) else (some false)) = some r := H
        have A60 := Aside0.mk A600
        clear A600
        by_cases c61 : (t227 == t229 && (t228 == t230)) = true
        ·
         rw [if_pos c61] at H
         have c61b0 : (t227 == t229 && (t228 == t230)) = true := c61
         (try (have c61b1 : decide (t227 = t229 && (t228 == t230)) = true := by simpa using c61))
         (try (have c61b2 : (t227 == t229 && (t228 == t230)) = true := by simpa using c61))
         clear c61
         replace H := Option.bind_eq_some_iff.mp H
         obtain ⟨⟨t231, t232⟩, A620, H⟩ := H
         replace H : ((word_Cut.f t231 t232 (wrap64 (Int.tmod (IntKind.u64.wrap (a2)) 131))).bind fun bt233 => ((word_And.f t184 t185 t186 t187).bind fun bt235 => (if (bt233.1 == bt235.1 && (bt233.2 == bt235.2)) = true then ((word_Not.f t184 t185).bind fun bt237 => ((word_Cut.f bt237.1 bt237.2 (wrap64 (Int.tmod (IntKind.u64.wrap (a2)) 131))).bind fun bt239 => ((word_Not.f a0_0 a0_1).bind fun bt241 => ((word_Cut.f bt241.1 bt241.2 (wrap64 (Int.tmod (IntKind.u64.wrap (a2)) 131))).bind fun bt243 => (if (bt239.1 == bt243.1 && (bt239.2 == bt243.2)) = true then ((word_Size.f kj6 a0_0 a0_1).bind fun t245 => (some ((decide (t245 ≤ (wrap64 (Int.tmod (IntKind.u64.wrap (a2)) 131)))) == (t184 == a0_0 && (t185 == a0_1))))) else (some false)))))) else (some false)))) = some r := H
         have A62 := Aside0.mk A620
         clear A620
         replace H := Option.bind_eq_some_iff.mp H
         obtain ⟨⟨t233, t234⟩, A630, H⟩ := H
         replace H : ((word_And.f t184 t185 t186 t187).bind fun bt235 => (if (t233 == bt235.1 && (t234 == bt235.2)) = true then ((word_Not.f t184 t185).bind fun bt237 => ((word_Cut.f bt237.1 bt237.2 (wrap64 (Int.tmod (IntKind.u64.wrap (a2)) 131))).bind fun bt239 => ((word_Not.f a0_0 a0_1).bind fun bt241 => ((word_Cut.f bt241.1 bt241.2 (wrap64 (Int.tmod (IntKind.u64.wrap (a2)) 131))).bind fun bt243 => (if (bt239.1 == bt243.1 && (bt239.2 == bt243.2)) = true then ((word_Size.f kj6 a0_0 a0_1).bind fun t245 => (some ((decide (t245 ≤ (wrap64 (Int.tmod (IntKind.u64.wrap (a2)) 131)))) == (t184 == a0_0 && (t185 == a0_1))))) else (some false)))))) else (some false))) = some r := H
         have A63 := Aside0.mk A630
         clear A630
         replace H := Option.bind_eq_some_iff.mp H
         obtain ⟨⟨t235, t236⟩, A640, H⟩ := H
         replace H : (if (t233 == t235 && (t234 == t236)) = true then ((word_Not.f t184 t185).bind fun bt237 => ((word_Cut.f bt237.1 bt237.2 (wrap64 (Int.tmod (IntKind.u64.wrap (a2)) 131))).bind fun bt239 => ((word_Not.f a0_0 a0_1).bind fun bt241 => ((word_Cut.f bt241.1 bt241.2 (wrap64 (Int.tmod (IntKind.u64.wrap (a2)) 131))).bind fun bt243 => (if (bt239.1 == bt243.1 && (bt239.2 == bt243.2)) = true then ((word_Size.f kj6 a0_0 a0_1).bind fun t245 => (some ((decide (t245 ≤ (wrap64 (Int.tmod (IntKind.u64.wrap (a2)) 131)))) == (t184 == a0_0 && (t185 == a0_1))))) else (some false)))))) else (some false)) = some r := H
         have A64 := Aside0.mk A640
         clear A640
         by_cases c65 : (t233 == t235 && (t234 == t236)) = true
         ·
          rw [if_pos c65] at H
          have c65b0 : (t233 == t235 && (t234 == t236)) = true := c65
          (try (have c65b1 : decide (t233 = t235 && (t234 == t236)) = true := by simpa using c65))
          (try (have c65b2 : (t233 == t235 && (t234 == t236)) = true := by simpa using c65))
          clear c65
          replace H := Option.bind_eq_some_iff.mp H
          obtain ⟨⟨t237, t238⟩, A660, H⟩ := H
          replace H : ((word_Cut.f t237 t238 (wrap64 (Int.tmod (IntKind.u64.wrap (a2)) 131))).bind fun bt239 => ((word_Not.f a0_0 a0_1).bind fun bt241 => ((word_Cut.f bt241.1 bt241.2 (wrap64 (Int.tmod (IntKind.u64.wrap (a2)) 131))).bind fun bt243 => (if (bt239.1 == bt243.1 && (bt239.2 == bt243.2)) = true then ((word_Size.f kj6 a0_0 a0_1).bind fun t245 => (some ((decide (t245 ≤ (wrap64 (Int.tmod (IntKind.u64.wrap (a2)) 131)))) == (t184 == a0_0 && (t185 == a0_1))))) else (some false))))) = some r := H
          have A66 := Aside0.mk A660
          clear A660
          replace H := Option.bind_eq_some_iff.mp H
          obtain ⟨⟨t239, t240⟩, A670, H⟩ := H
          replace H : ((word_Not.f a0_0 a0_1).bind fun bt241 => ((word_Cut.f bt241.1 bt241.2 (wrap64 (Int.tmod (IntKind.u64.wrap (a2)) 131))).bind fun bt243 => (if (t239 == bt243.1 && (t240 == bt243.2)) = true then ((word_Size.f kj6 a0_0 a0_1).bind fun t245 => (some ((decide (t245 ≤ (wrap64 (Int.tmod (IntKind.u64.wrap (a2)) 131)))) == (t184 == a0_0 && (t185 == a0_1))))) else (some false)))) = some r := H
          have A67 := Aside0.mk A670
          clear A670
          replace H := Option.bind_eq_some_iff.mp H
          obtain ⟨⟨t241, t242⟩, A680, H⟩ := H
          replace H : ((word_Cut.f t241 t242 (wrap64 (Int.tmod (IntKind.u64.wrap (a2)) 131))).bind fun bt243 => (if (t239 == bt243.1 && (t240 == bt243.2)) = true then ((word_Size.f kj6 a0_0 a0_1).bind fun t245 => (some ((decide (t245 ≤ (wrap64 (Int.tmod (IntKind.u64.wrap (a2)) 131)))) == (t184 == a0_0 && (t185 == a0_1))))) else (some false))) = some r := H
          have A68 := Aside0.mk A680
          clear A680
          replace H := Option.bind_eq_some_iff.mp H
          obtain ⟨⟨t243, t244⟩, A690, H⟩ := H
          replace H : (if (t239 == t243 && (t240 == t244)) = true then ((word_Size.f kj6 a0_0 a0_1).bind fun t245 => (some ((decide (t245 ≤ (wrap64 (Int.tmod (IntKind.u64.wrap (a2)) 131)))) == (t184 == a0_0 && (t185 == a0_1))))) else (some false)) = some r := H
          have A69 := Aside0.mk A690
          clear A690
          by_cases c70 : (t239 == t243 && (t240 == t244)) = true
          ·
           rw [if_pos c70] at H
           have c70b0 : (t239 == t243 && (t240 == t244)) = true := c70
           (try (have c70b1 : decide (t239 = t243 && (t240 == t244)) = true := by simpa using c70))
           (try (have c70b2 : (t239 == t243 && (t240 == t244)) = true := by simpa using c70))
           clear c70
           replace H := Option.bind_eq_some_iff.mp H
           obtain ⟨t245, A710, H⟩ := H
           replace H : (some ((decide (t245 ≤ (wrap64 (Int.tmod (IntKind.u64.wrap (a2)) 131)))) == (t184 == a0_0 && (t185 == a0_1)))) = some r := H
           have A71 := Aside0.mk A710
           clear A710
           obtain rfl := Option.some.inj H
           try go_wp2
           replace BK182 := Aside0.mk (blk_drew BK182.out); replace BK183 := Aside0.mk (blk_drew BK183.out); replace BK188 := Aside0.mk (blk_drew BK188.out); replace BK189 := Aside0.mk (blk_drew BK189.out); replace HB := Aside0.mk (below_drew1 HB.out)
           refine start_ (n := 79) (S := fun w' => w'.cell? ⟨gb188, 0, none⟩ = some (.int .u64 t184) ∧ w'.cell? ⟨gb188, 1, none⟩ = some (.int .u64 t185) ∧ w'.cell? ⟨gb189, 0, none⟩ = some (.int .u64 t186) ∧ w'.cell? ⟨gb189, 1, none⟩ = some (.int .u64 t187) ∧ w'.cell? ⟨gb182, 0, none⟩ = some (.int .u64 a0_0) ∧ w'.cell? ⟨gb182, 1, none⟩ = some (.int .u64 a0_1) ∧ w'.cell? ⟨gb183, 0, none⟩ = some (.int .u64 a1_0) ∧ w'.cell? ⟨gb183, 1, none⟩ = some (.int .u64 a1_1)) (ds := []) #[F,F,F,F,F,F,F,F,F,F,F,F,F,F,F,F,F,F,F,F,F,F,F,F,F,F,F,F,F,F,F,F,F,F,F,F,F,F,F,F,F,F,F,F,F,F,F,F,F,F,F,F,F,F,F,F,F,F,F,F,F,F,F,F,F,F,F,F,F,F,F,F,F,F,F,F,F,F,F] (by kernel_rfl) rfl rfl ⟨(blk_cell BK188.out 0).trans rfl, (blk_cell BK188.out 1).trans rfl, (blk_cell BK189.out 0).trans rfl, (blk_cell BK189.out 1).trans rfl, (blk_cell BK182.out 0).trans rfl, (blk_cell BK182.out 1).trans rfl, (blk_cell BK183.out 0).trans rfl, (blk_cell BK183.out 1).trans rfl⟩ (fun hHeld => ?_); refine with_tabW turnoutlaw01_WordCut.tab6 turnoutlaw01_WordCut.bits6 (fun HT_ HW_ => ?_)
           generalize wc.drew = w72 at BK182 BK183 BK188 BK189 HB hHeld ⊢
           refine pure_ (i := 3) (N := some 65) (v := ?_) (a' := ?_) #[F,F,F,T,F,F,F,F,F,F,F,F,F,F,F,F,F,F,F,F,F,F,F,F,F,F,F,F,F,F,F,F,F,F,F,F,F,F,F,F,F,F,F,F,F,F,F,F,F,F,F,F,F,F,F,F,F,F,F,F,F,F,F,F,F,F,F,F,F,F,F,F,F,F,F,F,F,F,F] rfl rfl (any_of HT_.out (by kernel_rfl)) (fun _ _ _ h => h) (Or.inl ⟨by rfl, ?_⟩) ?_ ?_
           rotate_left
           ·
            intro w'
            go_simp
            with_reducible rfl
           rotate_left
           ·
            simp only [Act.put, List.setIfInBounds_toArray, List.set_cons_zero, List.set_cons_succ, i64_w, i32_w]
            rfl
           refine pure_ (i := 8) (N := some 70) (v := ?_) (a' := ?_) #[F,F,F,T,F,F,F,F,T,F,F,F,F,F,F,F,F,F,F,F,F,F,F,F,F,F,F,F,F,F,F,F,F,F,F,F,F,F,F,F,F,F,F,F,F,F,F,F,F,F,F,F,F,F,F,F,F,F,F,F,F,F,F,F,F,F,F,F,F,F,F,F,F,F,F,F,F,F,F] rfl rfl (any_of HT_.out (by kernel_rfl)) (fun _ _ _ h => h) (Or.inl ⟨by rfl, ?_⟩) ?_ ?_
           rotate_left
           ·
            intro w'
            go_simp
            with_reducible rfl
           rotate_left
           ·
            simp only [Act.put, List.setIfInBounds_toArray, List.set_cons_zero, List.set_cons_succ, i64_w, i32_w]
            rfl
           refine take_ (i := 0) (N := some 62) (v := ?_) (a' := ?_) #[T,F,F,T,F,F,F,F,T,F,F,F,F,F,F,F,F,F,F,F,F,F,F,F,F,F,F,F,F,F,F,F,F,F,F,F,F,F,F,F,F,F,F,F,F,F,F,F,F,F,F,F,F,F,F,F,F,F,F,F,F,F,F,F,F,F,F,F,F,F,F,F,F,F,F,F,F,F,F] rfl rfl (take_ofW HT_.out HW_.out (by kernel_rfl)) (fun _ _ _ h => h) (Or.inl ⟨by rfl, ?_⟩) hHeld ?_ ?_
           rotate_left
           ·
            rintro w' ⟨s0, s1, s2, s3, s4, s5, s6, s7⟩
            go_simp
            with_reducible rfl
           rotate_left
           ·
            simp only [Act.put, List.setIfInBounds_toArray, List.set_cons_zero, List.set_cons_succ, i64_w, i32_w]
            rfl
           refine take_ (i := 1) (N := some 63) (v := ?_) (a' := ?_) #[T,T,F,T,F,F,F,F,T,F,F,F,F,F,F,F,F,F,F,F,F,F,F,F,F,F,F,F,F,F,F,F,F,F,F,F,F,F,F,F,F,F,F,F,F,F,F,F,F,F,F,F,F,F,F,F,F,F,F,F,F,F,F,F,F,F,F,F,F,F,F,F,F,F,F,F,F,F,F] rfl rfl (take_ofW HT_.out HW_.out (by kernel_rfl)) (fun _ _ _ h => h) (Or.inl ⟨by rfl, ?_⟩) hHeld ?_ ?_
           rotate_left
           ·
            rintro w' ⟨s0, s1, s2, s3, s4, s5, s6, s7⟩
            go_simp
            with_reducible rfl
           rotate_left
           ·
            simp only [Act.put, List.setIfInBounds_toArray, List.set_cons_zero, List.set_cons_succ, i64_w, i32_w]
            rfl
           refine take_ (i := 5) (N := some 67) (v := ?_) (a' := ?_) #[T,T,F,T,F,T,F,F,T,F,F,F,F,F,F,F,F,F,F,F,F,F,F,F,F,F,F,F,F,F,F,F,F,F,F,F,F,F,F,F,F,F,F,F,F,F,F,F,F,F,F,F,F,F,F,F,F,F,F,F,F,F,F,F,F,F,F,F,F,F,F,F,F,F,F,F,F,F,F] rfl rfl (take_ofW HT_.out HW_.out (by kernel_rfl)) (fun _ _ _ h => h) (Or.inl ⟨by rfl, ?_⟩) hHeld ?_ ?_
           rotate_left
           ·
            rintro w' ⟨s0, s1, s2, s3, s4, s5, s6, s7⟩
            go_simp
            with_reducible rfl
           rotate_left
           ·
            simp only [Act.put, List.setIfInBounds_toArray, List.set_cons_zero, List.set_cons_succ, i64_w, i32_w]
            rfl
           refine take_ (i := 6) (N := some 68) (v := ?_) (a' := ?_) #[T,T,F,T,F,T,T,F,T,F,F,F,F,F,F,F,F,F,F,F,F,F,F,F,F,F,F,F,F,F,F,F,F,F,F,F,F,F,F,F,F,F,F,F,F,F,F,F,F,F,F,F,F,F,F,F,F,F,F,F,F,F,F,F,F,F,F,F,F,F,F,F,F,F,F,F,F,F,F] rfl rfl (take_ofW HT_.out HW_.out (by kernel_rfl)) (fun _ _ _ h => h) (Or.inl ⟨by rfl, ?_⟩) hHeld ?_ ?_
           rotate_left
           ·
            rintro w' ⟨s0, s1, s2, s3, s4, s5, s6, s7⟩
            go_simp
            with_reducible rfl
           rotate_left
           ·
            simp only [Act.put, List.setIfInBounds_toArray, List.set_cons_zero, List.set_cons_succ, i64_w, i32_w]
            rfl
           refine one_ (i := 2) (N := some 64) #[T,T,T,T,F,T,T,F,T,F,F,F,F,F,F,F,F,F,F,F,F,F,F,F,F,F,F,F,F,F,F,F,F,F,F,F,F,F,F,F,F,F,F,F,F,F,F,F,F,F,F,F,F,F,F,F,F,F,F,F,F,F,F,F,F,F,F,F,F,F,F,F,F,F,F,F,F,F,F] rfl rfl (one_of HT_.out (by kernel_rfl)) (by decide) (fun K hK => ?_)
           refine goes_ Try.func16 (by kernel_rfl) rfl #[.agg #[.int .u64 t184, .int .u64 t185], .agg #[.int .u64 t186, .int .u64 t187]] (by rfl) rfl rfl (by (try simp only [List.map_toArray, List.map_cons, List.map_nil]); first | done | rfl | (simp only [List.length_drop, List.length_take]; rfl)) ?_
           with_reducible refine (word_Add.calls t184 t185 t186 t187 t203 t204 _ A44.out).mono ?_
           rintro e w73 ⟨rfl, hb⟩
           refine ⟨_, rfl, ?_⟩
           have n0_ := Aside0.mk (blk_below (bkA BK182.out) hb); have n1_ := Aside0.mk (blk_below (bkA BK183.out) hb); have n2_ := Aside0.mk (blk_below (bkA BK188.out) hb); have n3_ := Aside0.mk (blk_below (bkA BK189.out) hb)
           have n4_ := Aside0.mk (below_step (by repeat (first | (with_reducible first | exact HB.out | apply below_alloc | apply pw_below_drewN | apply below_drew1 | refine below_set ?_ GE182.out | refine below_set ?_ GE183.out | refine below_set ?_ GE188.out | refine below_set ?_ GE189.out) | exact HB.out)) hb)
           clear BK182; clear BK183; clear BK188; clear BK189; clear HB; have BK182 := n0_; have BK183 := n1_; have BK188 := n2_; have BK189 := n3_; have HB := n4_; clear n0_ n1_ n2_ n3_ n4_; (try clear hb); (try clear hb2); (try clear hk); (try clear hi)
           refine hK.out _ _ ⟨(blk_cell BK188.out 0).trans rfl, (blk_cell BK188.out 1).trans rfl, (blk_cell BK189.out 0).trans rfl, (blk_cell BK189.out 1).trans rfl, (blk_cell BK182.out 0).trans rfl, (blk_cell BK182.out 1).trans rfl, (blk_cell BK183.out 0).trans rfl, (blk_cell BK183.out 1).trans rfl⟩ (fun hHeld => ?_)
           clear hK K
           refine norm_ (a' := ?_) ?_ ?_
           rotate_left
           ·
            show Act.put _ (some 64) _ = _
            simp only [Act.put, List.setIfInBounds_toArray, List.set_cons_zero, List.set_cons_succ, i64_w, i32_w]
            rfl
           refine one_ (i := 4) (N := some 66) #[T,T,T,T,T,T,T,F,T,F,F,F,F,F,F,F,F,F,F,F,F,F,F,F,F,F,F,F,F,F,F,F,F,F,F,F,F,F,F,F,F,F,F,F,F,F,F,F,F,F,F,F,F,F,F,F,F,F,F,F,F,F,F,F,F,F,F,F,F,F,F,F,F,F,F,F,F,F,F] rfl rfl (one_of HT_.out (by kernel_rfl)) (by decide) (fun K hK => ?_)
           refine goes_ Try.func34 (by kernel_rfl) rfl #[.agg #[.int .u64 t203, .int .u64 t204], .int .i64 (wrap64 (Int.tmod (IntKind.u64.wrap (a2)) 131))] (by rfl) rfl rfl (by (try simp only [List.map_toArray, List.map_cons, List.map_nil]); first | done | rfl | (simp only [List.length_drop, List.length_take]; rfl)) ?_
           with_reducible refine (word_Cut.calls t203 t204 (wrap64 (Int.tmod (IntKind.u64.wrap (a2)) 131)) t205 t206 _ A45.out).mono ?_
           rintro e w74 ⟨rfl, hb⟩
           refine ⟨_, rfl, ?_⟩
           have n0_ := Aside0.mk (blk_below (bkA BK182.out) hb); have n1_ := Aside0.mk (blk_below (bkA BK183.out) hb); have n2_ := Aside0.mk (blk_below (bkA BK188.out) hb); have n3_ := Aside0.mk (blk_below (bkA BK189.out) hb)
           have n4_ := Aside0.mk (below_step (by repeat (first | (with_reducible first | exact HB.out | apply below_alloc | apply pw_below_drewN | apply below_drew1 | refine below_set ?_ GE182.out | refine below_set ?_ GE183.out | refine below_set ?_ GE188.out | refine below_set ?_ GE189.out) | exact HB.out)) hb)
           clear BK182; clear BK183; clear BK188; clear BK189; clear HB; have BK182 := n0_; have BK183 := n1_; have BK188 := n2_; have BK189 := n3_; have HB := n4_; clear n0_ n1_ n2_ n3_ n4_; (try clear hb); (try clear hb2); (try clear hk); (try clear hi)
           refine hK.out _ _ ⟨(blk_cell BK188.out 0).trans rfl, (blk_cell BK188.out 1).trans rfl, (blk_cell BK189.out 0).trans rfl, (blk_cell BK189.out 1).trans rfl, (blk_cell BK182.out 0).trans rfl, (blk_cell BK182.out 1).trans rfl, (blk_cell BK183.out 0).trans rfl, (blk_cell BK183.out 1).trans rfl⟩ (fun hHeld => ?_)
           clear hK K
           refine norm_ (a' := ?_) ?_ ?_
           rotate_left
           ·
            show Act.put _ (some 66) _ = _
            simp only [Act.put, List.setIfInBounds_toArray, List.set_cons_zero, List.set_cons_succ, i64_w, i32_w]
            rfl
           refine one_ (i := 7) (N := some 69) #[T,T,T,T,T,T,T,T,T,F,F,F,F,F,F,F,F,F,F,F,F,F,F,F,F,F,F,F,F,F,F,F,F,F,F,F,F,F,F,F,F,F,F,F,F,F,F,F,F,F,F,F,F,F,F,F,F,F,F,F,F,F,F,F,F,F,F,F,F,F,F,F,F,F,F,F,F,F,F] rfl rfl (one_of HT_.out (by kernel_rfl)) (by decide) (fun K hK => ?_)
           refine goes_ Try.func16 (by kernel_rfl) rfl #[.agg #[.int .u64 a0_0, .int .u64 a0_1], .agg #[.int .u64 a1_0, .int .u64 a1_1]] (by rfl) rfl rfl (by (try simp only [List.map_toArray, List.map_cons, List.map_nil]); first | done | rfl | (simp only [List.length_drop, List.length_take]; rfl)) ?_
           with_reducible refine (word_Add.calls a0_0 a0_1 a1_0 a1_1 t207 t208 _ A46.out).mono ?_
           rintro e w75 ⟨rfl, hb⟩
           refine ⟨_, rfl, ?_⟩
           have n0_ := Aside0.mk (blk_below (bkA BK182.out) hb); have n1_ := Aside0.mk (blk_below (bkA BK183.out) hb); have n2_ := Aside0.mk (blk_below (bkA BK188.out) hb); have n3_ := Aside0.mk (blk_below (bkA BK189.out) hb)
           have n4_ := Aside0.mk (below_step (by repeat (first | (with_reducible first | exact HB.out | apply below_alloc | apply pw_below_drewN | apply below_drew1 | refine below_set ?_ GE182.out | refine below_set ?_ GE183.out | refine below_set ?_ GE188.out | refine below_set ?_ GE189.out) | exact HB.out)) hb)
           clear BK182; clear BK183; clear BK188; clear BK189; clear HB; have BK182 := n0_; have BK183 := n1_; have BK188 := n2_; have BK189 := n3_; have HB := n4_; clear n0_ n1_ n2_ n3_ n4_; (try clear hb); (try clear hb2); (try clear hk); (try clear hi)
           refine hK.out _ _ ⟨(blk_cell BK188.out 0).trans rfl, (blk_cell BK188.out 1).trans rfl, (blk_cell BK189.out 0).trans rfl, (blk_cell BK189.out 1).trans rfl, (blk_cell BK182.out 0).trans rfl, (blk_cell BK182.out 1).trans rfl, (blk_cell BK183.out 0).trans rfl, (blk_cell BK183.out 1).trans rfl⟩ (fun hHeld => ?_)
           clear hK K
           refine norm_ (a' := ?_) ?_ ?_
           rotate_left
           ·
            show Act.put _ (some 69) _ = _
            simp only [Act.put, List.setIfInBounds_toArray, List.set_cons_zero, List.set_cons_succ, i64_w, i32_w]
            rfl
           refine one_ (i := 9) (N := some 71) #[T,T,T,T,T,T,T,T,T,T,F,F,F,F,F,F,F,F,F,F,F,F,F,F,F,F,F,F,F,F,F,F,F,F,F,F,F,F,F,F,F,F,F,F,F,F,F,F,F,F,F,F,F,F,F,F,F,F,F,F,F,F,F,F,F,F,F,F,F,F,F,F,F,F,F,F,F,F,F] rfl rfl (one_of HT_.out (by kernel_rfl)) (by decide) (fun K hK => ?_)
           refine goes_ Try.func34 (by kernel_rfl) rfl #[.agg #[.int .u64 t207, .int .u64 t208], .int .i64 (wrap64 (Int.tmod (IntKind.u64.wrap (a2)) 131))] (by rfl) rfl rfl (by (try simp only [List.map_toArray, List.map_cons, List.map_nil]); first | done | rfl | (simp only [List.length_drop, List.length_take]; rfl)) ?_
           with_reducible refine (word_Cut.calls t207 t208 (wrap64 (Int.tmod (IntKind.u64.wrap (a2)) 131)) t209 t210 _ A47.out).mono ?_
           rintro e w76 ⟨rfl, hb⟩
           refine ⟨_, rfl, ?_⟩
           have n0_ := Aside0.mk (blk_below (bkA BK182.out) hb); have n1_ := Aside0.mk (blk_below (bkA BK183.out) hb); have n2_ := Aside0.mk (blk_below (bkA BK188.out) hb); have n3_ := Aside0.mk (blk_below (bkA BK189.out) hb)
           have n4_ := Aside0.mk (below_step (by repeat (first | (with_reducible first | exact HB.out | apply below_alloc | apply pw_below_drewN | apply below_drew1 | refine below_set ?_ GE182.out | refine below_set ?_ GE183.out | refine below_set ?_ GE188.out | refine below_set ?_ GE189.out) | exact HB.out)) hb)
           clear BK182; clear BK183; clear BK188; clear BK189; clear HB; have BK182 := n0_; have BK183 := n1_; have BK188 := n2_; have BK189 := n3_; have HB := n4_; clear n0_ n1_ n2_ n3_ n4_; (try clear hb); (try clear hb2); (try clear hk); (try clear hi)
           refine hK.out _ _ ⟨(blk_cell BK188.out 0).trans rfl, (blk_cell BK188.out 1).trans rfl, (blk_cell BK189.out 0).trans rfl, (blk_cell BK189.out 1).trans rfl, (blk_cell BK182.out 0).trans rfl, (blk_cell BK182.out 1).trans rfl, (blk_cell BK183.out 0).trans rfl, (blk_cell BK183.out 1).trans rfl⟩ (fun hHeld => ?_)
           clear hK K
           refine norm_ (a' := ?_) ?_ ?_
           rotate_left
           ·
            show Act.put _ (some 71) _ = _
            simp only [Act.put, List.setIfInBounds_toArray, List.set_cons_zero, List.set_cons_succ, i64_w, i32_w]
            rfl
           refine pure_ (i := 10) (N := some 72) (v := ?_) (a' := ?_) #[T,T,T,T,T,T,T,T,T,T,T,F,F,F,F,F,F,F,F,F,F,F,F,F,F,F,F,F,F,F,F,F,F,F,F,F,F,F,F,F,F,F,F,F,F,F,F,F,F,F,F,F,F,F,F,F,F,F,F,F,F,F,F,F,F,F,F,F,F,F,F,F,F,F,F,F,F,F,F] rfl rfl (any_of HT_.out (by kernel_rfl)) (fun _ _ _ h => h) (Or.inl ⟨by rfl, ?_⟩) ?_ ?_
           rotate_left
           ·
            intro w'
            go_simp
            with_reducible rfl
           rotate_left
           ·
            simp only [Act.put, List.setIfInBounds_toArray, List.set_cons_zero, List.set_cons_succ, i64_w, i32_w]
            rfl
           refine pure_ (i := 11) (N := some 73) (v := ?_) (a' := ?_) #[T,T,T,T,T,T,T,T,T,T,T,T,F,F,F,F,F,F,F,F,F,F,F,F,F,F,F,F,F,F,F,F,F,F,F,F,F,F,F,F,F,F,F,F,F,F,F,F,F,F,F,F,F,F,F,F,F,F,F,F,F,F,F,F,F,F,F,F,F,F,F,F,F,F,F,F,F,F,F] rfl rfl (any_of HT_.out (by kernel_rfl)) (fun _ _ _ h => h) (Or.inl ⟨by rfl, ?_⟩) ?_ ?_
           rotate_left
           ·
            intro w'
            go_simp
            with_reducible rfl
           rotate_left
           ·
            simp only [Act.put, List.setIfInBounds_toArray, List.set_cons_zero, List.set_cons_succ, i64_w, i32_w]
            rfl
           refine pure_ (i := 15) (N := some 77) (v := ?_) (a' := ?_) #[T,T,T,T,T,T,T,T,T,T,T,T,F,F,F,T,F,F,F,F,F,F,F,F,F,F,F,F,F,F,F,F,F,F,F,F,F,F,F,F,F,F,F,F,F,F,F,F,F,F,F,F,F,F,F,F,F,F,F,F,F,F,F,F,F,F,F,F,F,F,F,F,F,F,F,F,F,F,F] rfl rfl (any_of HT_.out (by kernel_rfl)) (fun _ _ _ h => h) (Or.inl ⟨by rfl, ?_⟩) ?_ ?_
           rotate_left
           ·
            intro w'
            go_simp
            with_reducible rfl
           rotate_left
           ·
            simp only [Act.put, List.setIfInBounds_toArray, List.set_cons_zero, List.set_cons_succ, i64_w, i32_w]
            rfl
           refine pure_ (i := 20) (N := some 82) (v := ?_) (a' := ?_) #[T,T,T,T,T,T,T,T,T,T,T,T,F,F,F,T,F,F,F,F,T,F,F,F,F,F,F,F,F,F,F,F,F,F,F,F,F,F,F,F,F,F,F,F,F,F,F,F,F,F,F,F,F,F,F,F,F,F,F,F,F,F,F,F,F,F,F,F,F,F,F,F,F,F,F,F,F,F,F] rfl rfl (any_of HT_.out (by kernel_rfl)) (fun _ _ _ h => h) (Or.inl ⟨by rfl, ?_⟩) ?_ ?_
           rotate_left
           ·
            intro w'
            go_simp
            with_reducible rfl
           rotate_left
           ·
            simp only [Act.put, List.setIfInBounds_toArray, List.set_cons_zero, List.set_cons_succ, i64_w, i32_w]
            rfl
           refine take_ (i := 12) (N := some 74) (v := ?_) (a' := ?_) #[T,T,T,T,T,T,T,T,T,T,T,T,T,F,F,T,F,F,F,F,T,F,F,F,F,F,F,F,F,F,F,F,F,F,F,F,F,F,F,F,F,F,F,F,F,F,F,F,F,F,F,F,F,F,F,F,F,F,F,F,F,F,F,F,F,F,F,F,F,F,F,F,F,F,F,F,F,F,F] rfl rfl (take_ofW HT_.out HW_.out (by kernel_rfl)) (fun _ _ _ h => h) (Or.inl ⟨by rfl, ?_⟩) hHeld ?_ ?_
           rotate_left
           ·
            rintro w' ⟨s0, s1, s2, s3, s4, s5, s6, s7⟩
            go_simp
            with_reducible rfl
           rotate_left
           ·
            simp only [Act.put, List.setIfInBounds_toArray, List.set_cons_zero, List.set_cons_succ, i64_w, i32_w]
            rfl
           refine take_ (i := 13) (N := some 75) (v := ?_) (a' := ?_) #[T,T,T,T,T,T,T,T,T,T,T,T,T,T,F,T,F,F,F,F,T,F,F,F,F,F,F,F,F,F,F,F,F,F,F,F,F,F,F,F,F,F,F,F,F,F,F,F,F,F,F,F,F,F,F,F,F,F,F,F,F,F,F,F,F,F,F,F,F,F,F,F,F,F,F,F,F,F,F] rfl rfl (take_ofW HT_.out HW_.out (by kernel_rfl)) (fun _ _ _ h => h) (Or.inl ⟨by rfl, ?_⟩) hHeld ?_ ?_
           rotate_left
           ·
            rintro w' ⟨s0, s1, s2, s3, s4, s5, s6, s7⟩
            go_simp
            with_reducible rfl
           rotate_left
           ·
            simp only [Act.put, List.setIfInBounds_toArray, List.set_cons_zero, List.set_cons_succ, i64_w, i32_w]
            rfl
           refine take_ (i := 17) (N := some 79) (v := ?_) (a' := ?_) #[T,T,T,T,T,T,T,T,T,T,T,T,T,T,F,T,F,T,F,F,T,F,F,F,F,F,F,F,F,F,F,F,F,F,F,F,F,F,F,F,F,F,F,F,F,F,F,F,F,F,F,F,F,F,F,F,F,F,F,F,F,F,F,F,F,F,F,F,F,F,F,F,F,F,F,F,F,F,F] rfl rfl (take_ofW HT_.out HW_.out (by kernel_rfl)) (fun _ _ _ h => h) (Or.inl ⟨by rfl, ?_⟩) hHeld ?_ ?_
           rotate_left
           ·
            rintro w' ⟨s0, s1, s2, s3, s4, s5, s6, s7⟩
            go_simp
            with_reducible rfl
           rotate_left
           ·
            simp only [Act.put, List.setIfInBounds_toArray, List.set_cons_zero, List.set_cons_succ, i64_w, i32_w]
            rfl
           refine take_ (i := 18) (N := some 80) (v := ?_) (a' := ?_) #[T,T,T,T,T,T,T,T,T,T,T,T,T,T,F,T,F,T,T,F,T,F,F,F,F,F,F,F,F,F,F,F,F,F,F,F,F,F,F,F,F,F,F,F,F,F,F,F,F,F,F,F,F,F,F,F,F,F,F,F,F,F,F,F,F,F,F,F,F,F,F,F,F,F,F,F,F,F,F] rfl rfl (take_ofW HT_.out HW_.out (by kernel_rfl)) (fun _ _ _ h => h) (Or.inl ⟨by rfl, ?_⟩) hHeld ?_ ?_
           rotate_left
           ·
            rintro w' ⟨s0, s1, s2, s3, s4, s5, s6, s7⟩
            go_simp
            with_reducible rfl
           rotate_left
           ·
            simp only [Act.put, List.setIfInBounds_toArray, List.set_cons_zero, List.set_cons_succ, i64_w, i32_w]
            rfl
           refine one_ (i := 14) (N := some 76) #[T,T,T,T,T,T,T,T,T,T,T,T,T,T,T,T,F,T,T,F,T,F,F,F,F,F,F,F,F,F,F,F,F,F,F,F,F,F,F,F,F,F,F,F,F,F,F,F,F,F,F,F,F,F,F,F,F,F,F,F,F,F,F,F,F,F,F,F,F,F,F,F,F,F,F,F,F,F,F] rfl rfl (one_of HT_.out (by kernel_rfl)) (by decide) (fun K hK => ?_)
           refine goes_ Try.func18 (by kernel_rfl) rfl #[.agg #[.int .u64 t184, .int .u64 t185], .agg #[.int .u64 t186, .int .u64 t187]] (by rfl) rfl rfl (by (try simp only [List.map_toArray, List.map_cons, List.map_nil]); first | done | rfl | (simp only [List.length_drop, List.length_take]; rfl)) ?_
           with_reducible refine (word_Sub.calls t184 t185 t186 t187 t211 t212 _ A49.out).mono ?_
           rintro e w77 ⟨rfl, hb⟩
           refine ⟨_, rfl, ?_⟩
           have n0_ := Aside0.mk (blk_below (bkA BK182.out) hb); have n1_ := Aside0.mk (blk_below (bkA BK183.out) hb); have n2_ := Aside0.mk (blk_below (bkA BK188.out) hb); have n3_ := Aside0.mk (blk_below (bkA BK189.out) hb)
           have n4_ := Aside0.mk (below_step (by repeat (first | (with_reducible first | exact HB.out | apply below_alloc | apply pw_below_drewN | apply below_drew1 | refine below_set ?_ GE182.out | refine below_set ?_ GE183.out | refine below_set ?_ GE188.out | refine below_set ?_ GE189.out) | exact HB.out)) hb)
           clear BK182; clear BK183; clear BK188; clear BK189; clear HB; have BK182 := n0_; have BK183 := n1_; have BK188 := n2_; have BK189 := n3_; have HB := n4_; clear n0_ n1_ n2_ n3_ n4_; (try clear hb); (try clear hb2); (try clear hk); (try clear hi)
           refine hK.out _ _ ⟨(blk_cell BK188.out 0).trans rfl, (blk_cell BK188.out 1).trans rfl, (blk_cell BK189.out 0).trans rfl, (blk_cell BK189.out 1).trans rfl, (blk_cell BK182.out 0).trans rfl, (blk_cell BK182.out 1).trans rfl, (blk_cell BK183.out 0).trans rfl, (blk_cell BK183.out 1).trans rfl⟩ (fun hHeld => ?_)
           clear hK K
           refine norm_ (a' := ?_) ?_ ?_
           rotate_left
           ·
            show Act.put _ (some 76) _ = _
            simp only [Act.put, List.setIfInBounds_toArray, List.set_cons_zero, List.set_cons_succ, i64_w, i32_w]
            rfl
           refine one_ (i := 16) (N := some 78) #[T,T,T,T,T,T,T,T,T,T,T,T,T,T,T,T,T,T,T,F,T,F,F,F,F,F,F,F,F,F,F,F,F,F,F,F,F,F,F,F,F,F,F,F,F,F,F,F,F,F,F,F,F,F,F,F,F,F,F,F,F,F,F,F,F,F,F,F,F,F,F,F,F,F,F,F,F,F,F] rfl rfl (one_of HT_.out (by kernel_rfl)) (by decide) (fun K hK => ?_)
           refine goes_ Try.func34 (by kernel_rfl) rfl #[.agg #[.int .u64 t211, .int .u64 t212], .int .i64 (wrap64 (Int.tmod (IntKind.u64.wrap (a2)) 131))] (by rfl) rfl rfl (by (try simp only [List.map_toArray, List.map_cons, List.map_nil]); first | done | rfl | (simp only [List.length_drop, List.length_take]; rfl)) ?_
           with_reducible refine (word_Cut.calls t211 t212 (wrap64 (Int.tmod (IntKind.u64.wrap (a2)) 131)) t213 t214 _ A50.out).mono ?_
           rintro e w78 ⟨rfl, hb⟩
           refine ⟨_, rfl, ?_⟩
           have n0_ := Aside0.mk (blk_below (bkA BK182.out) hb); have n1_ := Aside0.mk (blk_below (bkA BK183.out) hb); have n2_ := Aside0.mk (blk_below (bkA BK188.out) hb); have n3_ := Aside0.mk (blk_below (bkA BK189.out) hb)
           have n4_ := Aside0.mk (below_step (by repeat (first | (with_reducible first | exact HB.out | apply below_alloc | apply pw_below_drewN | apply below_drew1 | refine below_set ?_ GE182.out | refine below_set ?_ GE183.out | refine below_set ?_ GE188.out | refine below_set ?_ GE189.out) | exact HB.out)) hb)
           clear BK182; clear BK183; clear BK188; clear BK189; clear HB; have BK182 := n0_; have BK183 := n1_; have BK188 := n2_; have BK189 := n3_; have HB := n4_; clear n0_ n1_ n2_ n3_ n4_; (try clear hb); (try clear hb2); (try clear hk); (try clear hi)
           refine hK.out _ _ ⟨(blk_cell BK188.out 0).trans rfl, (blk_cell BK188.out 1).trans rfl, (blk_cell BK189.out 0).trans rfl, (blk_cell BK189.out 1).trans rfl, (blk_cell BK182.out 0).trans rfl, (blk_cell BK182.out 1).trans rfl, (blk_cell BK183.out 0).trans rfl, (blk_cell BK183.out 1).trans rfl⟩ (fun hHeld => ?_)
           clear hK K
           refine norm_ (a' := ?_) ?_ ?_
           rotate_left
           ·
            show Act.put _ (some 78) _ = _
            simp only [Act.put, List.setIfInBounds_toArray, List.set_cons_zero, List.set_cons_succ, i64_w, i32_w]
            rfl
           refine one_ (i := 19) (N := some 81) #[T,T,T,T,T,T,T,T,T,T,T,T,T,T,T,T,T,T,T,T,T,F,F,F,F,F,F,F,F,F,F,F,F,F,F,F,F,F,F,F,F,F,F,F,F,F,F,F,F,F,F,F,F,F,F,F,F,F,F,F,F,F,F,F,F,F,F,F,F,F,F,F,F,F,F,F,F,F,F] rfl rfl (one_of HT_.out (by kernel_rfl)) (by decide) (fun K hK => ?_)
           refine goes_ Try.func18 (by kernel_rfl) rfl #[.agg #[.int .u64 a0_0, .int .u64 a0_1], .agg #[.int .u64 a1_0, .int .u64 a1_1]] (by rfl) rfl rfl (by (try simp only [List.map_toArray, List.map_cons, List.map_nil]); first | done | rfl | (simp only [List.length_drop, List.length_take]; rfl)) ?_
           with_reducible refine (word_Sub.calls a0_0 a0_1 a1_0 a1_1 t215 t216 _ A51.out).mono ?_
           rintro e w79 ⟨rfl, hb⟩
           refine ⟨_, rfl, ?_⟩
           have n0_ := Aside0.mk (blk_below (bkA BK182.out) hb); have n1_ := Aside0.mk (blk_below (bkA BK183.out) hb); have n2_ := Aside0.mk (blk_below (bkA BK188.out) hb); have n3_ := Aside0.mk (blk_below (bkA BK189.out) hb)
           have n4_ := Aside0.mk (below_step (by repeat (first | (with_reducible first | exact HB.out | apply below_alloc | apply pw_below_drewN | apply below_drew1 | refine below_set ?_ GE182.out | refine below_set ?_ GE183.out | refine below_set ?_ GE188.out | refine below_set ?_ GE189.out) | exact HB.out)) hb)
           clear BK182; clear BK183; clear BK188; clear BK189; clear HB; have BK182 := n0_; have BK183 := n1_; have BK188 := n2_; have BK189 := n3_; have HB := n4_; clear n0_ n1_ n2_ n3_ n4_; (try clear hb); (try clear hb2); (try clear hk); (try clear hi)
           refine hK.out _ _ ⟨(blk_cell BK188.out 0).trans rfl, (blk_cell BK188.out 1).trans rfl, (blk_cell BK189.out 0).trans rfl, (blk_cell BK189.out 1).trans rfl, (blk_cell BK182.out 0).trans rfl, (blk_cell BK182.out 1).trans rfl, (blk_cell BK183.out 0).trans rfl, (blk_cell BK183.out 1).trans rfl⟩ (fun hHeld => ?_)
           clear hK K
           refine norm_ (a' := ?_) ?_ ?_
           rotate_left
           ·
            show Act.put _ (some 81) _ = _
            simp only [Act.put, List.setIfInBounds_toArray, List.set_cons_zero, List.set_cons_succ, i64_w, i32_w]
            rfl
           refine one_ (i := 21) (N := some 83) #[T,T,T,T,T,T,T,T,T,T,T,T,T,T,T,T,T,T,T,T,T,T,F,F,F,F,F,F,F,F,F,F,F,F,F,F,F,F,F,F,F,F,F,F,F,F,F,F,F,F,F,F,F,F,F,F,F,F,F,F,F,F,F,F,F,F,F,F,F,F,F,F,F,F,F,F,F,F,F] rfl rfl (one_of HT_.out (by kernel_rfl)) (by decide) (fun K hK => ?_)
           refine goes_ Try.func34 (by kernel_rfl) rfl #[.agg #[.int .u64 t215, .int .u64 t216], .int .i64 (wrap64 (Int.tmod (IntKind.u64.wrap (a2)) 131))] (by rfl) rfl rfl (by (try simp only [List.map_toArray, List.map_cons, List.map_nil]); first | done | rfl | (simp only [List.length_drop, List.length_take]; rfl)) ?_
           with_reducible refine (word_Cut.calls t215 t216 (wrap64 (Int.tmod (IntKind.u64.wrap (a2)) 131)) t217 t218 _ A52.out).mono ?_
           rintro e w80 ⟨rfl, hb⟩
           refine ⟨_, rfl, ?_⟩
           have n0_ := Aside0.mk (blk_below (bkA BK182.out) hb); have n1_ := Aside0.mk (blk_below (bkA BK183.out) hb); have n2_ := Aside0.mk (blk_below (bkA BK188.out) hb); have n3_ := Aside0.mk (blk_below (bkA BK189.out) hb)
           have n4_ := Aside0.mk (below_step (by repeat (first | (with_reducible first | exact HB.out | apply below_alloc | apply pw_below_drewN | apply below_drew1 | refine below_set ?_ GE182.out | refine below_set ?_ GE183.out | refine below_set ?_ GE188.out | refine below_set ?_ GE189.out) | exact HB.out)) hb)
           clear BK182; clear BK183; clear BK188; clear BK189; clear HB; have BK182 := n0_; have BK183 := n1_; have BK188 := n2_; have BK189 := n3_; have HB := n4_; clear n0_ n1_ n2_ n3_ n4_; (try clear hb); (try clear hb2); (try clear hk); (try clear hi)
           refine hK.out _ _ ⟨(blk_cell BK188.out 0).trans rfl, (blk_cell BK188.out 1).trans rfl, (blk_cell BK189.out 0).trans rfl, (blk_cell BK189.out 1).trans rfl, (blk_cell BK182.out 0).trans rfl, (blk_cell BK182.out 1).trans rfl, (blk_cell BK183.out 0).trans rfl, (blk_cell BK183.out 1).trans rfl⟩ (fun hHeld => ?_)
           clear hK K
           refine norm_ (a' := ?_) ?_ ?_
           rotate_left
           ·
            show Act.put _ (some 83) _ = _
            simp only [Act.put, List.setIfInBounds_toArray, List.set_cons_zero, List.set_cons_succ, i64_w, i32_w]
            rfl
           refine pure_ (i := 22) (N := some 84) (v := ?_) (a' := ?_) #[T,T,T,T,T,T,T,T,T,T,T,T,T,T,T,T,T,T,T,T,T,T,T,F,F,F,F,F,F,F,F,F,F,F,F,F,F,F,F,F,F,F,F,F,F,F,F,F,F,F,F,F,F,F,F,F,F,F,F,F,F,F,F,F,F,F,F,F,F,F,F,F,F,F,F,F,F,F,F] rfl rfl (any_of HT_.out (by kernel_rfl)) (fun _ _ _ h => h) (Or.inl ⟨by rfl, ?_⟩) ?_ ?_
           rotate_left
           ·
            intro w'
            go_simp
            with_reducible rfl
           rotate_left
           ·
            simp only [Act.put, List.setIfInBounds_toArray, List.set_cons_zero, List.set_cons_succ, i64_w, i32_w]
            rfl
           refine pure_ (i := 23) (N := some 85) (v := ?_) (a' := ?_) #[T,T,T,T,T,T,T,T,T,T,T,T,T,T,T,T,T,T,T,T,T,T,T,T,F,F,F,F,F,F,F,F,F,F,F,F,F,F,F,F,F,F,F,F,F,F,F,F,F,F,F,F,F,F,F,F,F,F,F,F,F,F,F,F,F,F,F,F,F,F,F,F,F,F,F,F,F,F,F] rfl rfl (any_of HT_.out (by kernel_rfl)) (fun _ _ _ h => h) (Or.inl ⟨by rfl, ?_⟩) ?_ ?_
           rotate_left
           ·
            intro w'
            go_simp
            with_reducible rfl
           rotate_left
           ·
            simp only [Act.put, List.setIfInBounds_toArray, List.set_cons_zero, List.set_cons_succ, i64_w, i32_w]
            rfl
           refine pure_ (i := 24) (N := some 86) (v := ?_) (a' := ?_) #[T,T,T,T,T,T,T,T,T,T,T,T,T,T,T,T,T,T,T,T,T,T,T,T,T,F,F,F,F,F,F,F,F,F,F,F,F,F,F,F,F,F,F,F,F,F,F,F,F,F,F,F,F,F,F,F,F,F,F,F,F,F,F,F,F,F,F,F,F,F,F,F,F,F,F,F,F,F,F] rfl rfl (any_of HT_.out (by kernel_rfl)) (fun _ _ _ h => h) (Or.inl ⟨by rfl, ?_⟩) ?_ ?_
           rotate_left
           ·
            intro w'
            go_simp
            with_reducible rfl
           rotate_left
           ·
            simp only [Act.put, List.setIfInBounds_toArray, List.set_cons_zero, List.set_cons_succ, i64_w, i32_w]
            rfl
           refine pure_ (i := 28) (N := some 90) (v := ?_) (a' := ?_) #[T,T,T,T,T,T,T,T,T,T,T,T,T,T,T,T,T,T,T,T,T,T,T,T,T,F,F,F,T,F,F,F,F,F,F,F,F,F,F,F,F,F,F,F,F,F,F,F,F,F,F,F,F,F,F,F,F,F,F,F,F,F,F,F,F,F,F,F,F,F,F,F,F,F,F,F,F,F,F] rfl rfl (any_of HT_.out (by kernel_rfl)) (fun _ _ _ h => h) (Or.inl ⟨by rfl, ?_⟩) ?_ ?_
           rotate_left
           ·
            intro w'
            go_simp
            with_reducible rfl
           rotate_left
           ·
            simp only [Act.put, List.setIfInBounds_toArray, List.set_cons_zero, List.set_cons_succ, i64_w, i32_w]
            rfl
           refine take_ (i := 25) (N := some 87) (v := ?_) (a' := ?_) #[T,T,T,T,T,T,T,T,T,T,T,T,T,T,T,T,T,T,T,T,T,T,T,T,T,T,F,F,T,F,F,F,F,F,F,F,F,F,F,F,F,F,F,F,F,F,F,F,F,F,F,F,F,F,F,F,F,F,F,F,F,F,F,F,F,F,F,F,F,F,F,F,F,F,F,F,F,F,F] rfl rfl (take_ofW HT_.out HW_.out (by kernel_rfl)) (fun _ _ _ h => h) (Or.inl ⟨by rfl, ?_⟩) hHeld ?_ ?_
           rotate_left
           ·
            rintro w' ⟨s0, s1, s2, s3, s4, s5, s6, s7⟩
            go_simp
            with_reducible rfl
           rotate_left
           ·
            simp only [Act.put, List.setIfInBounds_toArray, List.set_cons_zero, List.set_cons_succ, i64_w, i32_w]
            rfl
           refine take_ (i := 26) (N := some 88) (v := ?_) (a' := ?_) #[T,T,T,T,T,T,T,T,T,T,T,T,T,T,T,T,T,T,T,T,T,T,T,T,T,T,T,F,T,F,F,F,F,F,F,F,F,F,F,F,F,F,F,F,F,F,F,F,F,F,F,F,F,F,F,F,F,F,F,F,F,F,F,F,F,F,F,F,F,F,F,F,F,F,F,F,F,F,F] rfl rfl (take_ofW HT_.out HW_.out (by kernel_rfl)) (fun _ _ _ h => h) (Or.inl ⟨by rfl, ?_⟩) hHeld ?_ ?_
           rotate_left
           ·
            rintro w' ⟨s0, s1, s2, s3, s4, s5, s6, s7⟩
            go_simp
            with_reducible rfl
           rotate_left
           ·
            simp only [Act.put, List.setIfInBounds_toArray, List.set_cons_zero, List.set_cons_succ, i64_w, i32_w]
            rfl
           refine take_ (i := 30) (N := some 92) (v := ?_) (a' := ?_) #[T,T,T,T,T,T,T,T,T,T,T,T,T,T,T,T,T,T,T,T,T,T,T,T,T,T,T,F,T,F,T,F,F,F,F,F,F,F,F,F,F,F,F,F,F,F,F,F,F,F,F,F,F,F,F,F,F,F,F,F,F,F,F,F,F,F,F,F,F,F,F,F,F,F,F,F,F,F,F] rfl rfl (take_ofW HT_.out HW_.out (by kernel_rfl)) (fun _ _ _ h => h) (Or.inl ⟨by rfl, ?_⟩) hHeld ?_ ?_
           rotate_left
           ·
            rintro w' ⟨s0, s1, s2, s3, s4, s5, s6, s7⟩
            go_simp
            with_reducible rfl
           rotate_left
           ·
            simp only [Act.put, List.setIfInBounds_toArray, List.set_cons_zero, List.set_cons_succ, i64_w, i32_w]
            rfl
           refine take_ (i := 31) (N := some 93) (v := ?_) (a' := ?_) #[T,T,T,T,T,T,T,T,T,T,T,T,T,T,T,T,T,T,T,T,T,T,T,T,T,T,T,F,T,F,T,T,F,F,F,F,F,F,F,F,F,F,F,F,F,F,F,F,F,F,F,F,F,F,F,F,F,F,F,F,F,F,F,F,F,F,F,F,F,F,F,F,F,F,F,F,F,F,F] rfl rfl (take_ofW HT_.out HW_.out (by kernel_rfl)) (fun _ _ _ h => h) (Or.inl ⟨by rfl, ?_⟩) hHeld ?_ ?_
           rotate_left
           ·
            rintro w' ⟨s0, s1, s2, s3, s4, s5, s6, s7⟩
            go_simp
            with_reducible rfl
           rotate_left
           ·
            simp only [Act.put, List.setIfInBounds_toArray, List.set_cons_zero, List.set_cons_succ, i64_w, i32_w]
            rfl
           refine one_ (i := 27) (N := some 89) #[T,T,T,T,T,T,T,T,T,T,T,T,T,T,T,T,T,T,T,T,T,T,T,T,T,T,T,T,T,F,T,T,F,F,F,F,F,F,F,F,F,F,F,F,F,F,F,F,F,F,F,F,F,F,F,F,F,F,F,F,F,F,F,F,F,F,F,F,F,F,F,F,F,F,F,F,F,F,F] rfl rfl (one_of HT_.out (by kernel_rfl)) (by decide) (fun K hK => ?_)
           refine goes_ Try.func27 (by kernel_rfl) rfl #[.agg #[.int .u64 a0_0, .int .u64 a0_1], .agg #[.int .u64 a1_0, .int .u64 a1_1]] (by rfl) rfl rfl (by (try simp only [List.map_toArray, List.map_cons, List.map_nil]); first | done | rfl | (simp only [List.length_drop, List.length_take]; rfl)) ?_
           with_reducible refine (word_Xor.calls a0_0 a0_1 a1_0 a1_1 t219 t220 _ A54.out).mono ?_
           rintro e w81 ⟨rfl, hb⟩
           refine ⟨_, rfl, ?_⟩
           have n0_ := Aside0.mk (blk_below (bkA BK182.out) hb); have n1_ := Aside0.mk (blk_below (bkA BK183.out) hb); have n2_ := Aside0.mk (blk_below (bkA BK188.out) hb); have n3_ := Aside0.mk (blk_below (bkA BK189.out) hb)
           have n4_ := Aside0.mk (below_step (by repeat (first | (with_reducible first | exact HB.out | apply below_alloc | apply pw_below_drewN | apply below_drew1 | refine below_set ?_ GE182.out | refine below_set ?_ GE183.out | refine below_set ?_ GE188.out | refine below_set ?_ GE189.out) | exact HB.out)) hb)
           clear BK182; clear BK183; clear BK188; clear BK189; clear HB; have BK182 := n0_; have BK183 := n1_; have BK188 := n2_; have BK189 := n3_; have HB := n4_; clear n0_ n1_ n2_ n3_ n4_; (try clear hb); (try clear hb2); (try clear hk); (try clear hi)
           refine hK.out _ _ ⟨(blk_cell BK188.out 0).trans rfl, (blk_cell BK188.out 1).trans rfl, (blk_cell BK189.out 0).trans rfl, (blk_cell BK189.out 1).trans rfl, (blk_cell BK182.out 0).trans rfl, (blk_cell BK182.out 1).trans rfl, (blk_cell BK183.out 0).trans rfl, (blk_cell BK183.out 1).trans rfl⟩ (fun hHeld => ?_)
           clear hK K
           refine norm_ (a' := ?_) ?_ ?_
           rotate_left
           ·
            show Act.put _ (some 89) _ = _
            simp only [Act.put, List.setIfInBounds_toArray, List.set_cons_zero, List.set_cons_succ, i64_w, i32_w]
            rfl
           refine one_ (i := 29) (N := some 91) #[T,T,T,T,T,T,T,T,T,T,T,T,T,T,T,T,T,T,T,T,T,T,T,T,T,T,T,T,T,T,T,T,F,F,F,F,F,F,F,F,F,F,F,F,F,F,F,F,F,F,F,F,F,F,F,F,F,F,F,F,F,F,F,F,F,F,F,F,F,F,F,F,F,F,F,F,F,F,F] rfl rfl (one_of HT_.out (by kernel_rfl)) (by decide) (fun K hK => ?_)
           refine goes_ Try.func34 (by kernel_rfl) rfl #[.agg #[.int .u64 t219, .int .u64 t220], .int .i64 (wrap64 (Int.tmod (IntKind.u64.wrap (a2)) 131))] (by rfl) rfl rfl (by (try simp only [List.map_toArray, List.map_cons, List.map_nil]); first | done | rfl | (simp only [List.length_drop, List.length_take]; rfl)) ?_
           with_reducible refine (word_Cut.calls t219 t220 (wrap64 (Int.tmod (IntKind.u64.wrap (a2)) 131)) t221 t222 _ A55.out).mono ?_
           rintro e w82 ⟨rfl, hb⟩
           refine ⟨_, rfl, ?_⟩
           have n0_ := Aside0.mk (blk_below (bkA BK182.out) hb); have n1_ := Aside0.mk (blk_below (bkA BK183.out) hb); have n2_ := Aside0.mk (blk_below (bkA BK188.out) hb); have n3_ := Aside0.mk (blk_below (bkA BK189.out) hb)
           have n4_ := Aside0.mk (below_step (by repeat (first | (with_reducible first | exact HB.out | apply below_alloc | apply pw_below_drewN | apply below_drew1 | refine below_set ?_ GE182.out | refine below_set ?_ GE183.out | refine below_set ?_ GE188.out | refine below_set ?_ GE189.out) | exact HB.out)) hb)
           clear BK182; clear BK183; clear BK188; clear BK189; clear HB; have BK182 := n0_; have BK183 := n1_; have BK188 := n2_; have BK189 := n3_; have HB := n4_; clear n0_ n1_ n2_ n3_ n4_; (try clear hb); (try clear hb2); (try clear hk); (try clear hi)
           refine hK.out _ _ ⟨(blk_cell BK188.out 0).trans rfl, (blk_cell BK188.out 1).trans rfl, (blk_cell BK189.out 0).trans rfl, (blk_cell BK189.out 1).trans rfl, (blk_cell BK182.out 0).trans rfl, (blk_cell BK182.out 1).trans rfl, (blk_cell BK183.out 0).trans rfl, (blk_cell BK183.out 1).trans rfl⟩ (fun hHeld => ?_)
           clear hK K
           refine norm_ (a' := ?_) ?_ ?_
           rotate_left
           ·
            show Act.put _ (some 91) _ = _
            simp only [Act.put, List.setIfInBounds_toArray, List.set_cons_zero, List.set_cons_succ, i64_w, i32_w]
            rfl
           refine one_ (i := 32) (N := some 94) #[T,T,T,T,T,T,T,T,T,T,T,T,T,T,T,T,T,T,T,T,T,T,T,T,T,T,T,T,T,T,T,T,T,F,F,F,F,F,F,F,F,F,F,F,F,F,F,F,F,F,F,F,F,F,F,F,F,F,F,F,F,F,F,F,F,F,F,F,F,F,F,F,F,F,F,F,F,F,F] rfl rfl (one_of HT_.out (by kernel_rfl)) (by decide) (fun K hK => ?_)
           refine goes_ Try.func27 (by kernel_rfl) rfl #[.agg #[.int .u64 t184, .int .u64 t185], .agg #[.int .u64 t186, .int .u64 t187]] (by rfl) rfl rfl (by (try simp only [List.map_toArray, List.map_cons, List.map_nil]); first | done | rfl | (simp only [List.length_drop, List.length_take]; rfl)) ?_
           with_reducible refine (word_Xor.calls t184 t185 t186 t187 t223 t224 _ A56.out).mono ?_
           rintro e w83 ⟨rfl, hb⟩
           refine ⟨_, rfl, ?_⟩
           have n0_ := Aside0.mk (blk_below (bkA BK182.out) hb); have n1_ := Aside0.mk (blk_below (bkA BK183.out) hb); have n2_ := Aside0.mk (blk_below (bkA BK188.out) hb); have n3_ := Aside0.mk (blk_below (bkA BK189.out) hb)
           have n4_ := Aside0.mk (below_step (by repeat (first | (with_reducible first | exact HB.out | apply below_alloc | apply pw_below_drewN | apply below_drew1 | refine below_set ?_ GE182.out | refine below_set ?_ GE183.out | refine below_set ?_ GE188.out | refine below_set ?_ GE189.out) | exact HB.out)) hb)
           clear BK182; clear BK183; clear BK188; clear BK189; clear HB; have BK182 := n0_; have BK183 := n1_; have BK188 := n2_; have BK189 := n3_; have HB := n4_; clear n0_ n1_ n2_ n3_ n4_; (try clear hb); (try clear hb2); (try clear hk); (try clear hi)
           refine hK.out _ _ ⟨(blk_cell BK188.out 0).trans rfl, (blk_cell BK188.out 1).trans rfl, (blk_cell BK189.out 0).trans rfl, (blk_cell BK189.out 1).trans rfl, (blk_cell BK182.out 0).trans rfl, (blk_cell BK182.out 1).trans rfl, (blk_cell BK183.out 0).trans rfl, (blk_cell BK183.out 1).trans rfl⟩ (fun hHeld => ?_)
           clear hK K
           refine norm_ (a' := ?_) ?_ ?_
           rotate_left
           ·
            show Act.put _ (some 94) _ = _
            simp only [Act.put, List.setIfInBounds_toArray, List.set_cons_zero, List.set_cons_succ, i64_w, i32_w]
            rfl
           refine pure_ (i := 33) (N := some 95) (v := ?_) (a' := ?_) #[T,T,T,T,T,T,T,T,T,T,T,T,T,T,T,T,T,T,T,T,T,T,T,T,T,T,T,T,T,T,T,T,T,T,F,F,F,F,F,F,F,F,F,F,F,F,F,F,F,F,F,F,F,F,F,F,F,F,F,F,F,F,F,F,F,F,F,F,F,F,F,F,F,F,F,F,F,F,F] rfl rfl (any_of HT_.out (by kernel_rfl)) (fun _ _ _ h => h) (Or.inl ⟨by rfl, ?_⟩) ?_ ?_
           rotate_left
           ·
            intro w'
            go_simp
            with_reducible rfl
           rotate_left
           ·
            simp only [Act.put, List.setIfInBounds_toArray, List.set_cons_zero, List.set_cons_succ, i64_w, i32_w]
            rfl
           refine pure_ (i := 34) (N := some 96) (v := ?_) (a' := ?_) #[T,T,T,T,T,T,T,T,T,T,T,T,T,T,T,T,T,T,T,T,T,T,T,T,T,T,T,T,T,T,T,T,T,T,T,F,F,F,F,F,F,F,F,F,F,F,F,F,F,F,F,F,F,F,F,F,F,F,F,F,F,F,F,F,F,F,F,F,F,F,F,F,F,F,F,F,F,F,F] rfl rfl (any_of HT_.out (by kernel_rfl)) (fun _ _ _ h => h) (Or.inl ⟨by rfl, ?_⟩) ?_ ?_
           rotate_left
           ·
            intro w'
            go_simp
            with_reducible rfl
           rotate_left
           ·
            simp only [Act.put, List.setIfInBounds_toArray, List.set_cons_zero, List.set_cons_succ, i64_w, i32_w]
            rfl
           refine pure_ (i := 35) (N := some 97) (v := ?_) (a' := ?_) #[T,T,T,T,T,T,T,T,T,T,T,T,T,T,T,T,T,T,T,T,T,T,T,T,T,T,T,T,T,T,T,T,T,T,T,T,F,F,F,F,F,F,F,F,F,F,F,F,F,F,F,F,F,F,F,F,F,F,F,F,F,F,F,F,F,F,F,F,F,F,F,F,F,F,F,F,F,F,F] rfl rfl (any_of HT_.out (by kernel_rfl)) (fun _ _ _ h => h) (Or.inl ⟨by rfl, ?_⟩) ?_ ?_
           rotate_left
           ·
            intro w'
            go_simp
            with_reducible rfl
           rotate_left
           ·
            simp only [Act.put, List.setIfInBounds_toArray, List.set_cons_zero, List.set_cons_succ, i64_w, i32_w]
            rfl
           refine pure_ (i := 39) (N := some 101) (v := ?_) (a' := ?_) #[T,T,T,T,T,T,T,T,T,T,T,T,T,T,T,T,T,T,T,T,T,T,T,T,T,T,T,T,T,T,T,T,T,T,T,T,F,F,F,T,F,F,F,F,F,F,F,F,F,F,F,F,F,F,F,F,F,F,F,F,F,F,F,F,F,F,F,F,F,F,F,F,F,F,F,F,F,F,F] rfl rfl (any_of HT_.out (by kernel_rfl)) (fun _ _ _ h => h) (Or.inl ⟨by rfl, ?_⟩) ?_ ?_
           rotate_left
           ·
            intro w'
            go_simp
            with_reducible rfl
           rotate_left
           ·
            simp only [Act.put, List.setIfInBounds_toArray, List.set_cons_zero, List.set_cons_succ, i64_w, i32_w]
            rfl
           refine take_ (i := 36) (N := some 98) (v := ?_) (a' := ?_) #[T,T,T,T,T,T,T,T,T,T,T,T,T,T,T,T,T,T,T,T,T,T,T,T,T,T,T,T,T,T,T,T,T,T,T,T,T,F,F,T,F,F,F,F,F,F,F,F,F,F,F,F,F,F,F,F,F,F,F,F,F,F,F,F,F,F,F,F,F,F,F,F,F,F,F,F,F,F,F] rfl rfl (take_ofW HT_.out HW_.out (by kernel_rfl)) (fun _ _ _ h => h) (Or.inl ⟨by rfl, ?_⟩) hHeld ?_ ?_
           rotate_left
           ·
            rintro w' ⟨s0, s1, s2, s3, s4, s5, s6, s7⟩
            go_simp
            with_reducible rfl
           rotate_left
           ·
            simp only [Act.put, List.setIfInBounds_toArray, List.set_cons_zero, List.set_cons_succ, i64_w, i32_w]
            rfl
           refine take_ (i := 37) (N := some 99) (v := ?_) (a' := ?_) #[T,T,T,T,T,T,T,T,T,T,T,T,T,T,T,T,T,T,T,T,T,T,T,T,T,T,T,T,T,T,T,T,T,T,T,T,T,T,F,T,F,F,F,F,F,F,F,F,F,F,F,F,F,F,F,F,F,F,F,F,F,F,F,F,F,F,F,F,F,F,F,F,F,F,F,F,F,F,F] rfl rfl (take_ofW HT_.out HW_.out (by kernel_rfl)) (fun _ _ _ h => h) (Or.inl ⟨by rfl, ?_⟩) hHeld ?_ ?_
           rotate_left
           ·
            rintro w' ⟨s0, s1, s2, s3, s4, s5, s6, s7⟩
            go_simp
            with_reducible rfl
           rotate_left
           ·
            simp only [Act.put, List.setIfInBounds_toArray, List.set_cons_zero, List.set_cons_succ, i64_w, i32_w]
            rfl
           refine take_ (i := 41) (N := some 103) (v := ?_) (a' := ?_) #[T,T,T,T,T,T,T,T,T,T,T,T,T,T,T,T,T,T,T,T,T,T,T,T,T,T,T,T,T,T,T,T,T,T,T,T,T,T,F,T,F,T,F,F,F,F,F,F,F,F,F,F,F,F,F,F,F,F,F,F,F,F,F,F,F,F,F,F,F,F,F,F,F,F,F,F,F,F,F] rfl rfl (take_ofW HT_.out HW_.out (by kernel_rfl)) (fun _ _ _ h => h) (Or.inl ⟨by rfl, ?_⟩) hHeld ?_ ?_
           rotate_left
           ·
            rintro w' ⟨s0, s1, s2, s3, s4, s5, s6, s7⟩
            go_simp
            with_reducible rfl
           rotate_left
           ·
            simp only [Act.put, List.setIfInBounds_toArray, List.set_cons_zero, List.set_cons_succ, i64_w, i32_w]
            rfl
           refine take_ (i := 42) (N := some 104) (v := ?_) (a' := ?_) #[T,T,T,T,T,T,T,T,T,T,T,T,T,T,T,T,T,T,T,T,T,T,T,T,T,T,T,T,T,T,T,T,T,T,T,T,T,T,F,T,F,T,T,F,F,F,F,F,F,F,F,F,F,F,F,F,F,F,F,F,F,F,F,F,F,F,F,F,F,F,F,F,F,F,F,F,F,F,F] rfl rfl (take_ofW HT_.out HW_.out (by kernel_rfl)) (fun _ _ _ h => h) (Or.inl ⟨by rfl, ?_⟩) hHeld ?_ ?_
           rotate_left
           ·
            rintro w' ⟨s0, s1, s2, s3, s4, s5, s6, s7⟩
            go_simp
            with_reducible rfl
           rotate_left
           ·
            simp only [Act.put, List.setIfInBounds_toArray, List.set_cons_zero, List.set_cons_succ, i64_w, i32_w]
            rfl
           refine one_ (i := 38) (N := some 100) #[T,T,T,T,T,T,T,T,T,T,T,T,T,T,T,T,T,T,T,T,T,T,T,T,T,T,T,T,T,T,T,T,T,T,T,T,T,T,T,T,F,T,T,F,F,F,F,F,F,F,F,F,F,F,F,F,F,F,F,F,F,F,F,F,F,F,F,F,F,F,F,F,F,F,F,F,F,F,F] rfl rfl (one_of HT_.out (by kernel_rfl)) (by decide) (fun K hK => ?_)
           refine goes_ Try.func25 (by kernel_rfl) rfl #[.agg #[.int .u64 a0_0, .int .u64 a0_1], .agg #[.int .u64 a1_0, .int .u64 a1_1]] (by rfl) rfl rfl (by (try simp only [List.map_toArray, List.map_cons, List.map_nil]); first | done | rfl | (simp only [List.length_drop, List.length_take]; rfl)) ?_
           with_reducible refine (word_Or.calls a0_0 a0_1 a1_0 a1_1 t225 t226 _ A58.out).mono ?_
           rintro e w84 ⟨rfl, hb⟩
           refine ⟨_, rfl, ?_⟩
           have n0_ := Aside0.mk (blk_below (bkA BK182.out) hb); have n1_ := Aside0.mk (blk_below (bkA BK183.out) hb); have n2_ := Aside0.mk (blk_below (bkA BK188.out) hb); have n3_ := Aside0.mk (blk_below (bkA BK189.out) hb)
           have n4_ := Aside0.mk (below_step (by repeat (first | (with_reducible first | exact HB.out | apply below_alloc | apply pw_below_drewN | apply below_drew1 | refine below_set ?_ GE182.out | refine below_set ?_ GE183.out | refine below_set ?_ GE188.out | refine below_set ?_ GE189.out) | exact HB.out)) hb)
           clear BK182; clear BK183; clear BK188; clear BK189; clear HB; have BK182 := n0_; have BK183 := n1_; have BK188 := n2_; have BK189 := n3_; have HB := n4_; clear n0_ n1_ n2_ n3_ n4_; (try clear hb); (try clear hb2); (try clear hk); (try clear hi)
           refine hK.out _ _ ⟨(blk_cell BK188.out 0).trans rfl, (blk_cell BK188.out 1).trans rfl, (blk_cell BK189.out 0).trans rfl, (blk_cell BK189.out 1).trans rfl, (blk_cell BK182.out 0).trans rfl, (blk_cell BK182.out 1).trans rfl, (blk_cell BK183.out 0).trans rfl, (blk_cell BK183.out 1).trans rfl⟩ (fun hHeld => ?_)
           clear hK K
           refine norm_ (a' := ?_) ?_ ?_
           rotate_left
           ·
            show Act.put _ (some 100) _ = _
            simp only [Act.put, List.setIfInBounds_toArray, List.set_cons_zero, List.set_cons_succ, i64_w, i32_w]
            rfl
           refine one_ (i := 40) (N := some 102) #[T,T,T,T,T,T,T,T,T,T,T,T,T,T,T,T,T,T,T,T,T,T,T,T,T,T,T,T,T,T,T,T,T,T,T,T,T,T,T,T,T,T,T,F,F,F,F,F,F,F,F,F,F,F,F,F,F,F,F,F,F,F,F,F,F,F,F,F,F,F,F,F,F,F,F,F,F,F,F] rfl rfl (one_of HT_.out (by kernel_rfl)) (by decide) (fun K hK => ?_)
           refine goes_ Try.func34 (by kernel_rfl) rfl #[.agg #[.int .u64 t225, .int .u64 t226], .int .i64 (wrap64 (Int.tmod (IntKind.u64.wrap (a2)) 131))] (by rfl) rfl rfl (by (try simp only [List.map_toArray, List.map_cons, List.map_nil]); first | done | rfl | (simp only [List.length_drop, List.length_take]; rfl)) ?_
           with_reducible refine (word_Cut.calls t225 t226 (wrap64 (Int.tmod (IntKind.u64.wrap (a2)) 131)) t227 t228 _ A59.out).mono ?_
           rintro e w85 ⟨rfl, hb⟩
           refine ⟨_, rfl, ?_⟩
           have n0_ := Aside0.mk (blk_below (bkA BK182.out) hb); have n1_ := Aside0.mk (blk_below (bkA BK183.out) hb); have n2_ := Aside0.mk (blk_below (bkA BK188.out) hb); have n3_ := Aside0.mk (blk_below (bkA BK189.out) hb)
           have n4_ := Aside0.mk (below_step (by repeat (first | (with_reducible first | exact HB.out | apply below_alloc | apply pw_below_drewN | apply below_drew1 | refine below_set ?_ GE182.out | refine below_set ?_ GE183.out | refine below_set ?_ GE188.out | refine below_set ?_ GE189.out) | exact HB.out)) hb)
           clear BK182; clear BK183; clear BK188; clear BK189; clear HB; have BK182 := n0_; have BK183 := n1_; have BK188 := n2_; have BK189 := n3_; have HB := n4_; clear n0_ n1_ n2_ n3_ n4_; (try clear hb); (try clear hb2); (try clear hk); (try clear hi)
           refine hK.out _ _ ⟨(blk_cell BK188.out 0).trans rfl, (blk_cell BK188.out 1).trans rfl, (blk_cell BK189.out 0).trans rfl, (blk_cell BK189.out 1).trans rfl, (blk_cell BK182.out 0).trans rfl, (blk_cell BK182.out 1).trans rfl, (blk_cell BK183.out 0).trans rfl, (blk_cell BK183.out 1).trans rfl⟩ (fun hHeld => ?_)
           clear hK K
           refine norm_ (a' := ?_) ?_ ?_
           rotate_left
           ·
            show Act.put _ (some 102) _ = _
            simp only [Act.put, List.setIfInBounds_toArray, List.set_cons_zero, List.set_cons_succ, i64_w, i32_w]
            rfl
           refine one_ (i := 43) (N := some 105) #[T,T,T,T,T,T,T,T,T,T,T,T,T,T,T,T,T,T,T,T,T,T,T,T,T,T,T,T,T,T,T,T,T,T,T,T,T,T,T,T,T,T,T,T,F,F,F,F,F,F,F,F,F,F,F,F,F,F,F,F,F,F,F,F,F,F,F,F,F,F,F,F,F,F,F,F,F,F,F] rfl rfl (one_of HT_.out (by kernel_rfl)) (by decide) (fun K hK => ?_)
           refine goes_ Try.func25 (by kernel_rfl) rfl #[.agg #[.int .u64 t184, .int .u64 t185], .agg #[.int .u64 t186, .int .u64 t187]] (by rfl) rfl rfl (by (try simp only [List.map_toArray, List.map_cons, List.map_nil]); first | done | rfl | (simp only [List.length_drop, List.length_take]; rfl)) ?_
           with_reducible refine (word_Or.calls t184 t185 t186 t187 t229 t230 _ A60.out).mono ?_
           rintro e w86 ⟨rfl, hb⟩
           refine ⟨_, rfl, ?_⟩
           have n0_ := Aside0.mk (blk_below (bkA BK182.out) hb); have n1_ := Aside0.mk (blk_below (bkA BK183.out) hb); have n2_ := Aside0.mk (blk_below (bkA BK188.out) hb); have n3_ := Aside0.mk (blk_below (bkA BK189.out) hb)
           have n4_ := Aside0.mk (below_step (by repeat (first | (with_reducible first | exact HB.out | apply below_alloc | apply pw_below_drewN | apply below_drew1 | refine below_set ?_ GE182.out | refine below_set ?_ GE183.out | refine below_set ?_ GE188.out | refine below_set ?_ GE189.out) | exact HB.out)) hb)
           clear BK182; clear BK183; clear BK188; clear BK189; clear HB; have BK182 := n0_; have BK183 := n1_; have BK188 := n2_; have BK189 := n3_; have HB := n4_; clear n0_ n1_ n2_ n3_ n4_; (try clear hb); (try clear hb2); (try clear hk); (try clear hi)
           refine hK.out _ _ ⟨(blk_cell BK188.out 0).trans rfl, (blk_cell BK188.out 1).trans rfl, (blk_cell BK189.out 0).trans rfl, (blk_cell BK189.out 1).trans rfl, (blk_cell BK182.out 0).trans rfl, (blk_cell BK182.out 1).trans rfl, (blk_cell BK183.out 0).trans rfl, (blk_cell BK183.out 1).trans rfl⟩ (fun hHeld => ?_)
           clear hK K
           refine norm_ (a' := ?_) ?_ ?_
           rotate_left
           ·
            show Act.put _ (some 105) _ = _
            simp only [Act.put, List.setIfInBounds_toArray, List.set_cons_zero, List.set_cons_succ, i64_w, i32_w]
            rfl
           refine pure_ (i := 44) (N := some 106) (v := ?_) (a' := ?_) #[T,T,T,T,T,T,T,T,T,T,T,T,T,T,T,T,T,T,T,T,T,T,T,T,T,T,T,T,T,T,T,T,T,T,T,T,T,T,T,T,T,T,T,T,T,F,F,F,F,F,F,F,F,F,F,F,F,F,F,F,F,F,F,F,F,F,F,F,F,F,F,F,F,F,F,F,F,F,F] rfl rfl (any_of HT_.out (by kernel_rfl)) (fun _ _ _ h => h) (Or.inl ⟨by rfl, ?_⟩) ?_ ?_
           rotate_left
           ·
            intro w'
            go_simp
            with_reducible rfl
           rotate_left
           ·
            simp only [Act.put, List.setIfInBounds_toArray, List.set_cons_zero, List.set_cons_succ, i64_w, i32_w]
            rfl
           refine pure_ (i := 45) (N := some 107) (v := ?_) (a' := ?_) #[T,T,T,T,T,T,T,T,T,T,T,T,T,T,T,T,T,T,T,T,T,T,T,T,T,T,T,T,T,T,T,T,T,T,T,T,T,T,T,T,T,T,T,T,T,T,F,F,F,F,F,F,F,F,F,F,F,F,F,F,F,F,F,F,F,F,F,F,F,F,F,F,F,F,F,F,F,F,F] rfl rfl (any_of HT_.out (by kernel_rfl)) (fun _ _ _ h => h) (Or.inl ⟨by rfl, ?_⟩) ?_ ?_
           rotate_left
           ·
            intro w'
            go_simp
            with_reducible rfl
           rotate_left
           ·
            simp only [Act.put, List.setIfInBounds_toArray, List.set_cons_zero, List.set_cons_succ, i64_w, i32_w]
            rfl
           refine pure_ (i := 46) (N := some 108) (v := ?_) (a' := ?_) #[T,T,T,T,T,T,T,T,T,T,T,T,T,T,T,T,T,T,T,T,T,T,T,T,T,T,T,T,T,T,T,T,T,T,T,T,T,T,T,T,T,T,T,T,T,T,T,F,F,F,F,F,F,F,F,F,F,F,F,F,F,F,F,F,F,F,F,F,F,F,F,F,F,F,F,F,F,F,F] rfl rfl (any_of HT_.out (by kernel_rfl)) (fun _ _ _ h => h) (Or.inl ⟨by rfl, ?_⟩) ?_ ?_
           rotate_left
           ·
            intro w'
            go_simp
            with_reducible rfl
           rotate_left
           ·
            simp only [Act.put, List.setIfInBounds_toArray, List.set_cons_zero, List.set_cons_succ, i64_w, i32_w]
            rfl
           refine pure_ (i := 50) (N := some 112) (v := ?_) (a' := ?_) #[T,T,T,T,T,T,T,T,T,T,T,T,T,T,T,T,T,T,T,T,T,T,T,T,T,T,T,T,T,T,T,T,T,T,T,T,T,T,T,T,T,T,T,T,T,T,T,F,F,F,T,F,F,F,F,F,F,F,F,F,F,F,F,F,F,F,F,F,F,F,F,F,F,F,F,F,F,F,F] rfl rfl (any_of HT_.out (by kernel_rfl)) (fun _ _ _ h => h) (Or.inl ⟨by rfl, ?_⟩) ?_ ?_
           rotate_left
           ·
            intro w'
            go_simp
            with_reducible rfl
           rotate_left
           ·
            simp only [Act.put, List.setIfInBounds_toArray, List.set_cons_zero, List.set_cons_succ, i64_w, i32_w]
            rfl
           refine take_ (i := 47) (N := some 109) (v := ?_) (a' := ?_) #[T,T,T,T,T,T,T,T,T,T,T,T,T,T,T,T,T,T,T,T,T,T,T,T,T,T,T,T,T,T,T,T,T,T,T,T,T,T,T,T,T,T,T,T,T,T,T,T,F,F,T,F,F,F,F,F,F,F,F,F,F,F,F,F,F,F,F,F,F,F,F,F,F,F,F,F,F,F,F] rfl rfl (take_ofW HT_.out HW_.out (by kernel_rfl)) (fun _ _ _ h => h) (Or.inl ⟨by rfl, ?_⟩) hHeld ?_ ?_
           rotate_left
           ·
            rintro w' ⟨s0, s1, s2, s3, s4, s5, s6, s7⟩
            go_simp
            with_reducible rfl
           rotate_left
           ·
            simp only [Act.put, List.setIfInBounds_toArray, List.set_cons_zero, List.set_cons_succ, i64_w, i32_w]
            rfl
           refine take_ (i := 48) (N := some 110) (v := ?_) (a' := ?_) #[T,T,T,T,T,T,T,T,T,T,T,T,T,T,T,T,T,T,T,T,T,T,T,T,T,T,T,T,T,T,T,T,T,T,T,T,T,T,T,T,T,T,T,T,T,T,T,T,T,F,T,F,F,F,F,F,F,F,F,F,F,F,F,F,F,F,F,F,F,F,F,F,F,F,F,F,F,F,F] rfl rfl (take_ofW HT_.out HW_.out (by kernel_rfl)) (fun _ _ _ h => h) (Or.inl ⟨by rfl, ?_⟩) hHeld ?_ ?_
           rotate_left
           ·
            rintro w' ⟨s0, s1, s2, s3, s4, s5, s6, s7⟩
            go_simp
            with_reducible rfl
           rotate_left
           ·
            simp only [Act.put, List.setIfInBounds_toArray, List.set_cons_zero, List.set_cons_succ, i64_w, i32_w]
            rfl
           refine take_ (i := 52) (N := some 114) (v := ?_) (a' := ?_) #[T,T,T,T,T,T,T,T,T,T,T,T,T,T,T,T,T,T,T,T,T,T,T,T,T,T,T,T,T,T,T,T,T,T,T,T,T,T,T,T,T,T,T,T,T,T,T,T,T,F,T,F,T,F,F,F,F,F,F,F,F,F,F,F,F,F,F,F,F,F,F,F,F,F,F,F,F,F,F] rfl rfl (take_ofW HT_.out HW_.out (by kernel_rfl)) (fun _ _ _ h => h) (Or.inl ⟨by rfl, ?_⟩) hHeld ?_ ?_
           rotate_left
           ·
            rintro w' ⟨s0, s1, s2, s3, s4, s5, s6, s7⟩
            go_simp
            with_reducible rfl
           rotate_left
           ·
            simp only [Act.put, List.setIfInBounds_toArray, List.set_cons_zero, List.set_cons_succ, i64_w, i32_w]
            rfl
           refine take_ (i := 53) (N := some 115) (v := ?_) (a' := ?_) #[T,T,T,T,T,T,T,T,T,T,T,T,T,T,T,T,T,T,T,T,T,T,T,T,T,T,T,T,T,T,T,T,T,T,T,T,T,T,T,T,T,T,T,T,T,T,T,T,T,F,T,F,T,T,F,F,F,F,F,F,F,F,F,F,F,F,F,F,F,F,F,F,F,F,F,F,F,F,F] rfl rfl (take_ofW HT_.out HW_.out (by kernel_rfl)) (fun _ _ _ h => h) (Or.inl ⟨by rfl, ?_⟩) hHeld ?_ ?_
           rotate_left
           ·
            rintro w' ⟨s0, s1, s2, s3, s4, s5, s6, s7⟩
            go_simp
            with_reducible rfl
           rotate_left
           ·
            simp only [Act.put, List.setIfInBounds_toArray, List.set_cons_zero, List.set_cons_succ, i64_w, i32_w]
            rfl
           refine one_ (i := 49) (N := some 111) #[T,T,T,T,T,T,T,T,T,T,T,T,T,T,T,T,T,T,T,T,T,T,T,T,T,T,T,T,T,T,T,T,T,T,T,T,T,T,T,T,T,T,T,T,T,T,T,T,T,T,T,F,T,T,F,F,F,F,F,F,F,F,F,F,F,F,F,F,F,F,F,F,F,F,F,F,F,F,F] rfl rfl (one_of HT_.out (by kernel_rfl)) (by decide) (fun K hK => ?_)
           refine goes_ Try.func23 (by kernel_rfl) rfl #[.agg #[.int .u64 a0_0, .int .u64 a0_1], .agg #[.int .u64 a1_0, .int .u64 a1_1]] (by rfl) rfl rfl (by (try simp only [List.map_toArray, List.map_cons, List.map_nil]); first | done | rfl | (simp only [List.length_drop, List.length_take]; rfl)) ?_
           with_reducible refine (word_And.calls a0_0 a0_1 a1_0 a1_1 t231 t232 _ A62.out).mono ?_
           rintro e w87 ⟨rfl, hb⟩
           refine ⟨_, rfl, ?_⟩
           have n0_ := Aside0.mk (blk_below (bkA BK182.out) hb); have n1_ := Aside0.mk (blk_below (bkA BK183.out) hb); have n2_ := Aside0.mk (blk_below (bkA BK188.out) hb); have n3_ := Aside0.mk (blk_below (bkA BK189.out) hb)
           have n4_ := Aside0.mk (below_step (by repeat (first | (with_reducible first | exact HB.out | apply below_alloc | apply pw_below_drewN | apply below_drew1 | refine below_set ?_ GE182.out | refine below_set ?_ GE183.out | refine below_set ?_ GE188.out | refine below_set ?_ GE189.out) | exact HB.out)) hb)
           clear BK182; clear BK183; clear BK188; clear BK189; clear HB; have BK182 := n0_; have BK183 := n1_; have BK188 := n2_; have BK189 := n3_; have HB := n4_; clear n0_ n1_ n2_ n3_ n4_; (try clear hb); (try clear hb2); (try clear hk); (try clear hi)
           refine hK.out _ _ ⟨(blk_cell BK188.out 0).trans rfl, (blk_cell BK188.out 1).trans rfl, (blk_cell BK189.out 0).trans rfl, (blk_cell BK189.out 1).trans rfl, (blk_cell BK182.out 0).trans rfl, (blk_cell BK182.out 1).trans rfl, (blk_cell BK183.out 0).trans rfl, (blk_cell BK183.out 1).trans rfl⟩ (fun hHeld => ?_)
           clear hK K
           refine norm_ (a' := ?_) ?_ ?_
           rotate_left
           ·
            show Act.put _ (some 111) _ = _
            simp only [Act.put, List.setIfInBounds_toArray, List.set_cons_zero, List.set_cons_succ, i64_w, i32_w]
            rfl
           refine one_ (i := 51) (N := some 113) #[T,T,T,T,T,T,T,T,T,T,T,T,T,T,T,T,T,T,T,T,T,T,T,T,T,T,T,T,T,T,T,T,T,T,T,T,T,T,T,T,T,T,T,T,T,T,T,T,T,T,T,T,T,T,F,F,F,F,F,F,F,F,F,F,F,F,F,F,F,F,F,F,F,F,F,F,F,F,F] rfl rfl (one_of HT_.out (by kernel_rfl)) (by decide) (fun K hK => ?_)
           refine goes_ Try.func34 (by kernel_rfl) rfl #[.agg #[.int .u64 t231, .int .u64 t232], .int .i64 (wrap64 (Int.tmod (IntKind.u64.wrap (a2)) 131))] (by rfl) rfl rfl (by (try simp only [List.map_toArray, List.map_cons, List.map_nil]); first | done | rfl | (simp only [List.length_drop, List.length_take]; rfl)) ?_
           with_reducible refine (word_Cut.calls t231 t232 (wrap64 (Int.tmod (IntKind.u64.wrap (a2)) 131)) t233 t234 _ A63.out).mono ?_
           rintro e w88 ⟨rfl, hb⟩
           refine ⟨_, rfl, ?_⟩
           have n0_ := Aside0.mk (blk_below (bkA BK182.out) hb); have n1_ := Aside0.mk (blk_below (bkA BK183.out) hb); have n2_ := Aside0.mk (blk_below (bkA BK188.out) hb); have n3_ := Aside0.mk (blk_below (bkA BK189.out) hb)
           have n4_ := Aside0.mk (below_step (by repeat (first | (with_reducible first | exact HB.out | apply below_alloc | apply pw_below_drewN | apply below_drew1 | refine below_set ?_ GE182.out | refine below_set ?_ GE183.out | refine below_set ?_ GE188.out | refine below_set ?_ GE189.out) | exact HB.out)) hb)
           clear BK182; clear BK183; clear BK188; clear BK189; clear HB; have BK182 := n0_; have BK183 := n1_; have BK188 := n2_; have BK189 := n3_; have HB := n4_; clear n0_ n1_ n2_ n3_ n4_; (try clear hb); (try clear hb2); (try clear hk); (try clear hi)
           refine hK.out _ _ ⟨(blk_cell BK188.out 0).trans rfl, (blk_cell BK188.out 1).trans rfl, (blk_cell BK189.out 0).trans rfl, (blk_cell BK189.out 1).trans rfl, (blk_cell BK182.out 0).trans rfl, (blk_cell BK182.out 1).trans rfl, (blk_cell BK183.out 0).trans rfl, (blk_cell BK183.out 1).trans rfl⟩ (fun hHeld => ?_)
           clear hK K
           refine norm_ (a' := ?_) ?_ ?_
           rotate_left
           ·
            show Act.put _ (some 113) _ = _
            simp only [Act.put, List.setIfInBounds_toArray, List.set_cons_zero, List.set_cons_succ, i64_w, i32_w]
            rfl
           refine one_ (i := 54) (N := some 116) #[T,T,T,T,T,T,T,T,T,T,T,T,T,T,T,T,T,T,T,T,T,T,T,T,T,T,T,T,T,T,T,T,T,T,T,T,T,T,T,T,T,T,T,T,T,T,T,T,T,T,T,T,T,T,T,F,F,F,F,F,F,F,F,F,F,F,F,F,F,F,F,F,F,F,F,F,F,F,F] rfl rfl (one_of HT_.out (by kernel_rfl)) (by decide) (fun K hK => ?_)
           refine goes_ Try.func23 (by kernel_rfl) rfl #[.agg #[.int .u64 t184, .int .u64 t185], .agg #[.int .u64 t186, .int .u64 t187]] (by rfl) rfl rfl (by (try simp only [List.map_toArray, List.map_cons, List.map_nil]); first | done | rfl | (simp only [List.length_drop, List.length_take]; rfl)) ?_
           with_reducible refine (word_And.calls t184 t185 t186 t187 t235 t236 _ A64.out).mono ?_
           rintro e w89 ⟨rfl, hb⟩
           refine ⟨_, rfl, ?_⟩
           have n0_ := Aside0.mk (blk_below (bkA BK182.out) hb); have n1_ := Aside0.mk (blk_below (bkA BK183.out) hb); have n2_ := Aside0.mk (blk_below (bkA BK188.out) hb); have n3_ := Aside0.mk (blk_below (bkA BK189.out) hb)
           have n4_ := Aside0.mk (below_step (by repeat (first | (with_reducible first | exact HB.out | apply below_alloc | apply pw_below_drewN | apply below_drew1 | refine below_set ?_ GE182.out | refine below_set ?_ GE183.out | refine below_set ?_ GE188.out | refine below_set ?_ GE189.out) | exact HB.out)) hb)
           clear BK182; clear BK183; clear BK188; clear BK189; clear HB; have BK182 := n0_; have BK183 := n1_; have BK188 := n2_; have BK189 := n3_; have HB := n4_; clear n0_ n1_ n2_ n3_ n4_; (try clear hb); (try clear hb2); (try clear hk); (try clear hi)
           refine hK.out _ _ ⟨(blk_cell BK188.out 0).trans rfl, (blk_cell BK188.out 1).trans rfl, (blk_cell BK189.out 0).trans rfl, (blk_cell BK189.out 1).trans rfl, (blk_cell BK182.out 0).trans rfl, (blk_cell BK182.out 1).trans rfl, (blk_cell BK183.out 0).trans rfl, (blk_cell BK183.out 1).trans rfl⟩ (fun hHeld => ?_)
           clear hK K
           refine norm_ (a' := ?_) ?_ ?_
           rotate_left
           ·
            show Act.put _ (some 116) _ = _
            simp only [Act.put, List.setIfInBounds_toArray, List.set_cons_zero, List.set_cons_succ, i64_w, i32_w]
            rfl
           refine pure_ (i := 55) (N := some 117) (v := ?_) (a' := ?_) #[T,T,T,T,T,T,T,T,T,T,T,T,T,T,T,T,T,T,T,T,T,T,T,T,T,T,T,T,T,T,T,T,T,T,T,T,T,T,T,T,T,T,T,T,T,T,T,T,T,T,T,T,T,T,T,T,F,F,F,F,F,F,F,F,F,F,F,F,F,F,F,F,F,F,F,F,F,F,F] rfl rfl (any_of HT_.out (by kernel_rfl)) (fun _ _ _ h => h) (Or.inl ⟨by rfl, ?_⟩) ?_ ?_
           rotate_left
           ·
            intro w'
            go_simp
            with_reducible rfl
           rotate_left
           ·
            simp only [Act.put, List.setIfInBounds_toArray, List.set_cons_zero, List.set_cons_succ, i64_w, i32_w]
            rfl
           refine pure_ (i := 56) (N := some 118) (v := ?_) (a' := ?_) #[T,T,T,T,T,T,T,T,T,T,T,T,T,T,T,T,T,T,T,T,T,T,T,T,T,T,T,T,T,T,T,T,T,T,T,T,T,T,T,T,T,T,T,T,T,T,T,T,T,T,T,T,T,T,T,T,T,F,F,F,F,F,F,F,F,F,F,F,F,F,F,F,F,F,F,F,F,F,F] rfl rfl (any_of HT_.out (by kernel_rfl)) (fun _ _ _ h => h) (Or.inl ⟨by rfl, ?_⟩) ?_ ?_
           rotate_left
           ·
            intro w'
            go_simp
            with_reducible rfl
           rotate_left
           ·
            simp only [Act.put, List.setIfInBounds_toArray, List.set_cons_zero, List.set_cons_succ, i64_w, i32_w]
            rfl
           refine pure_ (i := 57) (N := some 119) (v := ?_) (a' := ?_) #[T,T,T,T,T,T,T,T,T,T,T,T,T,T,T,T,T,T,T,T,T,T,T,T,T,T,T,T,T,T,T,T,T,T,T,T,T,T,T,T,T,T,T,T,T,T,T,T,T,T,T,T,T,T,T,T,T,T,F,F,F,F,F,F,F,F,F,F,F,F,F,F,F,F,F,F,F,F,F] rfl rfl (any_of HT_.out (by kernel_rfl)) (fun _ _ _ h => h) (Or.inl ⟨by rfl, ?_⟩) ?_ ?_
           rotate_left
           ·
            intro w'
            go_simp
            with_reducible rfl
           rotate_left
           ·
            simp only [Act.put, List.setIfInBounds_toArray, List.set_cons_zero, List.set_cons_succ, i64_w, i32_w]
            rfl
           refine pure_ (i := 60) (N := some 122) (v := ?_) (a' := ?_) #[T,T,T,T,T,T,T,T,T,T,T,T,T,T,T,T,T,T,T,T,T,T,T,T,T,T,T,T,T,T,T,T,T,T,T,T,T,T,T,T,T,T,T,T,T,T,T,T,T,T,T,T,T,T,T,T,T,T,F,F,T,F,F,F,F,F,F,F,F,F,F,F,F,F,F,F,F,F,F] rfl rfl (any_of HT_.out (by kernel_rfl)) (fun _ _ _ h => h) (Or.inl ⟨by rfl, ?_⟩) ?_ ?_
           rotate_left
           ·
            intro w'
            go_simp
            with_reducible rfl
           rotate_left
           ·
            simp only [Act.put, List.setIfInBounds_toArray, List.set_cons_zero, List.set_cons_succ, i64_w, i32_w]
            rfl
           refine pure_ (i := 64) (N := some 126) (v := ?_) (a' := ?_) #[T,T,T,T,T,T,T,T,T,T,T,T,T,T,T,T,T,T,T,T,T,T,T,T,T,T,T,T,T,T,T,T,T,T,T,T,T,T,T,T,T,T,T,T,T,T,T,T,T,T,T,T,T,T,T,T,T,T,F,F,T,F,F,F,T,F,F,F,F,F,F,F,F,F,F,F,F,F,F] rfl rfl (any_of HT_.out (by kernel_rfl)) (fun _ _ _ h => h) (Or.inl ⟨by rfl, ?_⟩) ?_ ?_
           rotate_left
           ·
            intro w'
            go_simp
            with_reducible rfl
           rotate_left
           ·
            simp only [Act.put, List.setIfInBounds_toArray, List.set_cons_zero, List.set_cons_succ, i64_w, i32_w]
            rfl
           refine take_ (i := 58) (N := some 120) (v := ?_) (a' := ?_) #[T,T,T,T,T,T,T,T,T,T,T,T,T,T,T,T,T,T,T,T,T,T,T,T,T,T,T,T,T,T,T,T,T,T,T,T,T,T,T,T,T,T,T,T,T,T,T,T,T,T,T,T,T,T,T,T,T,T,T,F,T,F,F,F,T,F,F,F,F,F,F,F,F,F,F,F,F,F,F] rfl rfl (take_ofW HT_.out HW_.out (by kernel_rfl)) (fun _ _ _ h => h) (Or.inl ⟨by rfl, ?_⟩) hHeld ?_ ?_
           rotate_left
           ·
            rintro w' ⟨s0, s1, s2, s3, s4, s5, s6, s7⟩
            go_simp
            with_reducible rfl
           rotate_left
           ·
            simp only [Act.put, List.setIfInBounds_toArray, List.set_cons_zero, List.set_cons_succ, i64_w, i32_w]
            rfl
           refine take_ (i := 62) (N := some 124) (v := ?_) (a' := ?_) #[T,T,T,T,T,T,T,T,T,T,T,T,T,T,T,T,T,T,T,T,T,T,T,T,T,T,T,T,T,T,T,T,T,T,T,T,T,T,T,T,T,T,T,T,T,T,T,T,T,T,T,T,T,T,T,T,T,T,T,F,T,F,T,F,T,F,F,F,F,F,F,F,F,F,F,F,F,F,F] rfl rfl (take_ofW HT_.out HW_.out (by kernel_rfl)) (fun _ _ _ h => h) (Or.inl ⟨by rfl, ?_⟩) hHeld ?_ ?_
           rotate_left
           ·
            rintro w' ⟨s0, s1, s2, s3, s4, s5, s6, s7⟩
            go_simp
            with_reducible rfl
           rotate_left
           ·
            simp only [Act.put, List.setIfInBounds_toArray, List.set_cons_zero, List.set_cons_succ, i64_w, i32_w]
            rfl
           refine one_ (i := 59) (N := some 121) #[T,T,T,T,T,T,T,T,T,T,T,T,T,T,T,T,T,T,T,T,T,T,T,T,T,T,T,T,T,T,T,T,T,T,T,T,T,T,T,T,T,T,T,T,T,T,T,T,T,T,T,T,T,T,T,T,T,T,T,T,T,F,T,F,T,F,F,F,F,F,F,F,F,F,F,F,F,F,F] rfl rfl (one_of HT_.out (by kernel_rfl)) (by decide) (fun K hK => ?_)
           refine goes_ Try.func21 (by kernel_rfl) rfl #[.agg #[.int .u64 t184, .int .u64 t185]] (by rfl) rfl rfl (by (try simp only [List.map_toArray, List.map_cons, List.map_nil]); first | done | rfl | (simp only [List.length_drop, List.length_take]; rfl)) ?_
           with_reducible refine (word_Not.calls t184 t185 t237 t238 _ A66.out).mono ?_
           rintro e w90 ⟨rfl, hb⟩
           refine ⟨_, rfl, ?_⟩
           have n0_ := Aside0.mk (blk_below (bkA BK182.out) hb); have n1_ := Aside0.mk (blk_below (bkA BK183.out) hb); have n2_ := Aside0.mk (blk_below (bkA BK188.out) hb); have n3_ := Aside0.mk (blk_below (bkA BK189.out) hb)
           have n4_ := Aside0.mk (below_step (by repeat (first | (with_reducible first | exact HB.out | apply below_alloc | apply pw_below_drewN | apply below_drew1 | refine below_set ?_ GE182.out | refine below_set ?_ GE183.out | refine below_set ?_ GE188.out | refine below_set ?_ GE189.out) | exact HB.out)) hb)
           clear BK182; clear BK183; clear BK188; clear BK189; clear HB; have BK182 := n0_; have BK183 := n1_; have BK188 := n2_; have BK189 := n3_; have HB := n4_; clear n0_ n1_ n2_ n3_ n4_; (try clear hb); (try clear hb2); (try clear hk); (try clear hi)
           refine hK.out _ _ ⟨(blk_cell BK188.out 0).trans rfl, (blk_cell BK188.out 1).trans rfl, (blk_cell BK189.out 0).trans rfl, (blk_cell BK189.out 1).trans rfl, (blk_cell BK182.out 0).trans rfl, (blk_cell BK182.out 1).trans rfl, (blk_cell BK183.out 0).trans rfl, (blk_cell BK183.out 1).trans rfl⟩ (fun hHeld => ?_)
           clear hK K
           refine norm_ (a' := ?_) ?_ ?_
           rotate_left
           ·
            show Act.put _ (some 121) _ = _
            simp only [Act.put, List.setIfInBounds_toArray, List.set_cons_zero, List.set_cons_succ, i64_w, i32_w]
            rfl
           refine one_ (i := 61) (N := some 123) #[T,T,T,T,T,T,T,T,T,T,T,T,T,T,T,T,T,T,T,T,T,T,T,T,T,T,T,T,T,T,T,T,T,T,T,T,T,T,T,T,T,T,T,T,T,T,T,T,T,T,T,T,T,T,T,T,T,T,T,T,T,T,T,F,T,F,F,F,F,F,F,F,F,F,F,F,F,F,F] rfl rfl (one_of HT_.out (by kernel_rfl)) (by decide) (fun K hK => ?_)
           refine goes_ Try.func34 (by kernel_rfl) rfl #[.agg #[.int .u64 t237, .int .u64 t238], .int .i64 (wrap64 (Int.tmod (IntKind.u64.wrap (a2)) 131))] (by rfl) rfl rfl (by (try simp only [List.map_toArray, List.map_cons, List.map_nil]); first | done | rfl | (simp only [List.length_drop, List.length_take]; rfl)) ?_
           with_reducible refine (word_Cut.calls t237 t238 (wrap64 (Int.tmod (IntKind.u64.wrap (a2)) 131)) t239 t240 _ A67.out).mono ?_
           rintro e w91 ⟨rfl, hb⟩
           refine ⟨_, rfl, ?_⟩
           have n0_ := Aside0.mk (blk_below (bkA BK182.out) hb); have n1_ := Aside0.mk (blk_below (bkA BK183.out) hb); have n2_ := Aside0.mk (blk_below (bkA BK188.out) hb); have n3_ := Aside0.mk (blk_below (bkA BK189.out) hb)
           have n4_ := Aside0.mk (below_step (by repeat (first | (with_reducible first | exact HB.out | apply below_alloc | apply pw_below_drewN | apply below_drew1 | refine below_set ?_ GE182.out | refine below_set ?_ GE183.out | refine below_set ?_ GE188.out | refine below_set ?_ GE189.out) | exact HB.out)) hb)
           clear BK182; clear BK183; clear BK188; clear BK189; clear HB; have BK182 := n0_; have BK183 := n1_; have BK188 := n2_; have BK189 := n3_; have HB := n4_; clear n0_ n1_ n2_ n3_ n4_; (try clear hb); (try clear hb2); (try clear hk); (try clear hi)
           refine hK.out _ _ ⟨(blk_cell BK188.out 0).trans rfl, (blk_cell BK188.out 1).trans rfl, (blk_cell BK189.out 0).trans rfl, (blk_cell BK189.out 1).trans rfl, (blk_cell BK182.out 0).trans rfl, (blk_cell BK182.out 1).trans rfl, (blk_cell BK183.out 0).trans rfl, (blk_cell BK183.out 1).trans rfl⟩ (fun hHeld => ?_)
           clear hK K
           refine norm_ (a' := ?_) ?_ ?_
           rotate_left
           ·
            show Act.put _ (some 123) _ = _
            simp only [Act.put, List.setIfInBounds_toArray, List.set_cons_zero, List.set_cons_succ, i64_w, i32_w]
            rfl
           refine one_ (i := 63) (N := some 125) #[T,T,T,T,T,T,T,T,T,T,T,T,T,T,T,T,T,T,T,T,T,T,T,T,T,T,T,T,T,T,T,T,T,T,T,T,T,T,T,T,T,T,T,T,T,T,T,T,T,T,T,T,T,T,T,T,T,T,T,T,T,T,T,T,T,F,F,F,F,F,F,F,F,F,F,F,F,F,F] rfl rfl (one_of HT_.out (by kernel_rfl)) (by decide) (fun K hK => ?_)
           refine goes_ Try.func21 (by kernel_rfl) rfl #[.agg #[.int .u64 a0_0, .int .u64 a0_1]] (by rfl) rfl rfl (by (try simp only [List.map_toArray, List.map_cons, List.map_nil]); first | done | rfl | (simp only [List.length_drop, List.length_take]; rfl)) ?_
           with_reducible refine (word_Not.calls a0_0 a0_1 t241 t242 _ A68.out).mono ?_
           rintro e w92 ⟨rfl, hb⟩
           refine ⟨_, rfl, ?_⟩
           have n0_ := Aside0.mk (blk_below (bkA BK182.out) hb); have n1_ := Aside0.mk (blk_below (bkA BK183.out) hb); have n2_ := Aside0.mk (blk_below (bkA BK188.out) hb); have n3_ := Aside0.mk (blk_below (bkA BK189.out) hb)
           have n4_ := Aside0.mk (below_step (by repeat (first | (with_reducible first | exact HB.out | apply below_alloc | apply pw_below_drewN | apply below_drew1 | refine below_set ?_ GE182.out | refine below_set ?_ GE183.out | refine below_set ?_ GE188.out | refine below_set ?_ GE189.out) | exact HB.out)) hb)
           clear BK182; clear BK183; clear BK188; clear BK189; clear HB; have BK182 := n0_; have BK183 := n1_; have BK188 := n2_; have BK189 := n3_; have HB := n4_; clear n0_ n1_ n2_ n3_ n4_; (try clear hb); (try clear hb2); (try clear hk); (try clear hi)
           refine hK.out _ _ ⟨(blk_cell BK188.out 0).trans rfl, (blk_cell BK188.out 1).trans rfl, (blk_cell BK189.out 0).trans rfl, (blk_cell BK189.out 1).trans rfl, (blk_cell BK182.out 0).trans rfl, (blk_cell BK182.out 1).trans rfl, (blk_cell BK183.out 0).trans rfl, (blk_cell BK183.out 1).trans rfl⟩ (fun hHeld => ?_)
           clear hK K
           refine norm_ (a' := ?_) ?_ ?_
           rotate_left
           ·
            show Act.put _ (some 125) _ = _
            simp only [Act.put, List.setIfInBounds_toArray, List.set_cons_zero, List.set_cons_succ, i64_w, i32_w]
            rfl
           refine one_ (i := 65) (N := some 127) #[T,T,T,T,T,T,T,T,T,T,T,T,T,T,T,T,T,T,T,T,T,T,T,T,T,T,T,T,T,T,T,T,T,T,T,T,T,T,T,T,T,T,T,T,T,T,T,T,T,T,T,T,T,T,T,T,T,T,T,T,T,T,T,T,T,T,F,F,F,F,F,F,F,F,F,F,F,F,F] rfl rfl (one_of HT_.out (by kernel_rfl)) (by decide) (fun K hK => ?_)
           refine goes_ Try.func34 (by kernel_rfl) rfl #[.agg #[.int .u64 t241, .int .u64 t242], .int .i64 (wrap64 (Int.tmod (IntKind.u64.wrap (a2)) 131))] (by rfl) rfl rfl (by (try simp only [List.map_toArray, List.map_cons, List.map_nil]); first | done | rfl | (simp only [List.length_drop, List.length_take]; rfl)) ?_
           with_reducible refine (word_Cut.calls t241 t242 (wrap64 (Int.tmod (IntKind.u64.wrap (a2)) 131)) t243 t244 _ A69.out).mono ?_
           rintro e w93 ⟨rfl, hb⟩
           refine ⟨_, rfl, ?_⟩
           have n0_ := Aside0.mk (blk_below (bkA BK182.out) hb); have n1_ := Aside0.mk (blk_below (bkA BK183.out) hb); have n2_ := Aside0.mk (blk_below (bkA BK188.out) hb); have n3_ := Aside0.mk (blk_below (bkA BK189.out) hb)
           have n4_ := Aside0.mk (below_step (by repeat (first | (with_reducible first | exact HB.out | apply below_alloc | apply pw_below_drewN | apply below_drew1 | refine below_set ?_ GE182.out | refine below_set ?_ GE183.out | refine below_set ?_ GE188.out | refine below_set ?_ GE189.out) | exact HB.out)) hb)
           clear BK182; clear BK183; clear BK188; clear BK189; clear HB; have BK182 := n0_; have BK183 := n1_; have BK188 := n2_; have BK189 := n3_; have HB := n4_; clear n0_ n1_ n2_ n3_ n4_; (try clear hb); (try clear hb2); (try clear hk); (try clear hi)
           refine hK.out _ _ ⟨(blk_cell BK188.out 0).trans rfl, (blk_cell BK188.out 1).trans rfl, (blk_cell BK189.out 0).trans rfl, (blk_cell BK189.out 1).trans rfl, (blk_cell BK182.out 0).trans rfl, (blk_cell BK182.out 1).trans rfl, (blk_cell BK183.out 0).trans rfl, (blk_cell BK183.out 1).trans rfl⟩ (fun hHeld => ?_)
           clear hK K
           refine norm_ (a' := ?_) ?_ ?_
           rotate_left
           ·
            show Act.put _ (some 127) _ = _
            simp only [Act.put, List.setIfInBounds_toArray, List.set_cons_zero, List.set_cons_succ, i64_w, i32_w]
            rfl
           refine pure_ (i := 66) (N := some 128) (v := ?_) (a' := ?_) #[T,T,T,T,T,T,T,T,T,T,T,T,T,T,T,T,T,T,T,T,T,T,T,T,T,T,T,T,T,T,T,T,T,T,T,T,T,T,T,T,T,T,T,T,T,T,T,T,T,T,T,T,T,T,T,T,T,T,T,T,T,T,T,T,T,T,T,F,F,F,F,F,F,F,F,F,F,F,F] rfl rfl (any_of HT_.out (by kernel_rfl)) (fun _ _ _ h => h) (Or.inl ⟨by rfl, ?_⟩) ?_ ?_
           rotate_left
           ·
            intro w'
            go_simp
            with_reducible rfl
           rotate_left
           ·
            simp only [Act.put, List.setIfInBounds_toArray, List.set_cons_zero, List.set_cons_succ, i64_w, i32_w]
            rfl
           refine pure_ (i := 67) (N := some 129) (v := ?_) (a' := ?_) #[T,T,T,T,T,T,T,T,T,T,T,T,T,T,T,T,T,T,T,T,T,T,T,T,T,T,T,T,T,T,T,T,T,T,T,T,T,T,T,T,T,T,T,T,T,T,T,T,T,T,T,T,T,T,T,T,T,T,T,T,T,T,T,T,T,T,T,T,F,F,F,F,F,F,F,F,F,F,F] rfl rfl (any_of HT_.out (by kernel_rfl)) (fun _ _ _ h => h) (Or.inl ⟨by rfl, ?_⟩) ?_ ?_
           rotate_left
           ·
            intro w'
            go_simp
            with_reducible rfl
           rotate_left
           ·
            simp only [Act.put, List.setIfInBounds_toArray, List.set_cons_zero, List.set_cons_succ, i64_w, i32_w]
            rfl
           refine pure_ (i := 68) (N := some 130) (v := ?_) (a' := ?_) #[T,T,T,T,T,T,T,T,T,T,T,T,T,T,T,T,T,T,T,T,T,T,T,T,T,T,T,T,T,T,T,T,T,T,T,T,T,T,T,T,T,T,T,T,T,T,T,T,T,T,T,T,T,T,T,T,T,T,T,T,T,T,T,T,T,T,T,T,T,F,F,F,F,F,F,F,F,F,F] rfl rfl (any_of HT_.out (by kernel_rfl)) (fun _ _ _ h => h) (Or.inl ⟨by rfl, ?_⟩) ?_ ?_
           rotate_left
           ·
            intro w'
            go_simp
            with_reducible rfl
           rotate_left
           ·
            simp only [Act.put, List.setIfInBounds_toArray, List.set_cons_zero, List.set_cons_succ, i64_w, i32_w]
            rfl
           refine pure_ (i := 71) (N := some 133) (v := ?_) (a' := ?_) #[T,T,T,T,T,T,T,T,T,T,T,T,T,T,T,T,T,T,T,T,T,T,T,T,T,T,T,T,T,T,T,T,T,T,T,T,T,T,T,T,T,T,T,T,T,T,T,T,T,T,T,T,T,T,T,T,T,T,T,T,T,T,T,T,T,T,T,T,T,F,F,T,F,F,F,F,F,F,F] rfl rfl (any_of HT_.out (by kernel_rfl)) (fun _ _ _ h => h) (Or.inl ⟨by rfl, ?_⟩) ?_ ?_
           rotate_left
           ·
            intro w'
            go_simp
            with_reducible rfl
           rotate_left
           ·
            simp only [Act.put, List.setIfInBounds_toArray, List.set_cons_zero, List.set_cons_succ, i64_w, i32_w]
            rfl
           refine take_ (i := 69) (N := some 131) (v := ?_) (a' := ?_) #[T,T,T,T,T,T,T,T,T,T,T,T,T,T,T,T,T,T,T,T,T,T,T,T,T,T,T,T,T,T,T,T,T,T,T,T,T,T,T,T,T,T,T,T,T,T,T,T,T,T,T,T,T,T,T,T,T,T,T,T,T,T,T,T,T,T,T,T,T,T,F,T,F,F,F,F,F,F,F] rfl rfl (take_ofW HT_.out HW_.out (by kernel_rfl)) (fun _ _ _ h => h) (Or.inl ⟨by rfl, ?_⟩) hHeld ?_ ?_
           rotate_left
           ·
            rintro w' ⟨s0, s1, s2, s3, s4, s5, s6, s7⟩
            go_simp
            with_reducible rfl
           rotate_left
           ·
            simp only [Act.put, List.setIfInBounds_toArray, List.set_cons_zero, List.set_cons_succ, i64_w, i32_w]
            rfl
           refine take_ (i := 73) (N := some 135) (v := ?_) (a' := ?_) #[T,T,T,T,T,T,T,T,T,T,T,T,T,T,T,T,T,T,T,T,T,T,T,T,T,T,T,T,T,T,T,T,T,T,T,T,T,T,T,T,T,T,T,T,T,T,T,T,T,T,T,T,T,T,T,T,T,T,T,T,T,T,T,T,T,T,T,T,T,T,F,T,F,T,F,F,F,F,F] rfl rfl (take_ofW HT_.out HW_.out (by kernel_rfl)) (fun _ _ _ h => h) (Or.inl ⟨by rfl, ?_⟩) hHeld ?_ ?_
           rotate_left
           ·
            rintro w' ⟨s0, s1, s2, s3, s4, s5, s6, s7⟩
            go_simp
            with_reducible rfl
           rotate_left
           ·
            simp only [Act.put, List.setIfInBounds_toArray, List.set_cons_zero, List.set_cons_succ, i64_w, i32_w]
            rfl
           refine take_ (i := 74) (N := some 136) (v := ?_) (a' := ?_) #[T,T,T,T,T,T,T,T,T,T,T,T,T,T,T,T,T,T,T,T,T,T,T,T,T,T,T,T,T,T,T,T,T,T,T,T,T,T,T,T,T,T,T,T,T,T,T,T,T,T,T,T,T,T,T,T,T,T,T,T,T,T,T,T,T,T,T,T,T,T,F,T,F,T,T,F,F,F,F] rfl rfl (take_ofW HT_.out HW_.out (by kernel_rfl)) (fun _ _ _ h => h) (Or.inl ⟨by rfl, ?_⟩) hHeld ?_ ?_
           rotate_left
           ·
            rintro w' ⟨s0, s1, s2, s3, s4, s5, s6, s7⟩
            go_simp
            with_reducible rfl
           rotate_left
           ·
            simp only [Act.put, List.setIfInBounds_toArray, List.set_cons_zero, List.set_cons_succ, i64_w, i32_w]
            rfl
           refine pure_ (i := 75) (N := some 137) (v := ?_) (a' := ?_) #[T,T,T,T,T,T,T,T,T,T,T,T,T,T,T,T,T,T,T,T,T,T,T,T,T,T,T,T,T,T,T,T,T,T,T,T,T,T,T,T,T,T,T,T,T,T,T,T,T,T,T,T,T,T,T,T,T,T,T,T,T,T,T,T,T,T,T,T,T,T,F,T,F,T,T,T,F,F,F] rfl rfl (any_of HT_.out (by kernel_rfl)) (fun _ _ _ h => h) (Or.inl ⟨by rfl, ?_⟩) ?_ ?_
           rotate_left
           ·
            intro w'
            go_simp
            with_reducible rfl
           rotate_left
           ·
            simp only [Act.put, List.setIfInBounds_toArray, List.set_cons_zero, List.set_cons_succ, i64_w, i32_w]
            rfl
           refine one_ (i := 70) (N := some 132) #[T,T,T,T,T,T,T,T,T,T,T,T,T,T,T,T,T,T,T,T,T,T,T,T,T,T,T,T,T,T,T,T,T,T,T,T,T,T,T,T,T,T,T,T,T,T,T,T,T,T,T,T,T,T,T,T,T,T,T,T,T,T,T,T,T,T,T,T,T,T,T,T,F,T,T,T,F,F,F] rfl rfl (one_of HT_.out (by kernel_rfl)) (by decide) (fun K hK => ?_)
           refine goes_ Try.func39 (by kernel_rfl) rfl #[.agg #[.int .u64 a0_0, .int .u64 a0_1]] (by rfl) rfl rfl (by (try simp only [List.map_toArray, List.map_cons, List.map_nil]); first | done | rfl | (simp only [List.length_drop, List.length_take]; rfl)) ?_
           with_reducible refine (word_Size.calls kj6 a0_0 a0_1 t245 _ A71.out).mono ?_
           rintro e w94 ⟨rfl, hb⟩
           refine ⟨_, rfl, ?_⟩
           have n0_ := Aside0.mk (blk_below (bkA BK182.out) hb); have n1_ := Aside0.mk (blk_below (bkA BK183.out) hb); have n2_ := Aside0.mk (blk_below (bkA BK188.out) hb); have n3_ := Aside0.mk (blk_below (bkA BK189.out) hb)
           have n4_ := Aside0.mk (below_step (by repeat (first | (with_reducible first | exact HB.out | apply below_alloc | apply pw_below_drewN | apply below_drew1 | refine below_set ?_ GE182.out | refine below_set ?_ GE183.out | refine below_set ?_ GE188.out | refine below_set ?_ GE189.out) | exact HB.out)) hb)
           clear BK182; clear BK183; clear BK188; clear BK189; clear HB; have BK182 := n0_; have BK183 := n1_; have BK188 := n2_; have BK189 := n3_; have HB := n4_; clear n0_ n1_ n2_ n3_ n4_; (try clear hb); (try clear hb2); (try clear hk); (try clear hi)
           refine hK.out _ _ ⟨(blk_cell BK188.out 0).trans rfl, (blk_cell BK188.out 1).trans rfl, (blk_cell BK189.out 0).trans rfl, (blk_cell BK189.out 1).trans rfl, (blk_cell BK182.out 0).trans rfl, (blk_cell BK182.out 1).trans rfl, (blk_cell BK183.out 0).trans rfl, (blk_cell BK183.out 1).trans rfl⟩ (fun hHeld => ?_)
           clear hK K
           refine norm_ (a' := ?_) ?_ ?_
           rotate_left
           ·
            show Act.put _ (some 132) _ = _
            simp only [Act.put, List.setIfInBounds_toArray, List.set_cons_zero, List.set_cons_succ, i64_w, i32_w]
            rfl
           refine pure_ (i := 72) (N := some 134) (v := ?_) (a' := ?_) #[T,T,T,T,T,T,T,T,T,T,T,T,T,T,T,T,T,T,T,T,T,T,T,T,T,T,T,T,T,T,T,T,T,T,T,T,T,T,T,T,T,T,T,T,T,T,T,T,T,T,T,T,T,T,T,T,T,T,T,T,T,T,T,T,T,T,T,T,T,T,T,T,T,T,T,T,F,F,F] rfl rfl (any_of HT_.out (by kernel_rfl)) (fun _ _ _ h => h) (Or.inl ⟨by rfl, ?_⟩) ?_ ?_
           rotate_left
           ·
            intro w'
            go_simp
            with_reducible rfl
           rotate_left
           ·
            simp only [Act.put, List.setIfInBounds_toArray, List.set_cons_zero, List.set_cons_succ, i64_w, i32_w]
            rfl
           refine pure_ (i := 76) (N := some 138) (v := ?_) (a' := ?_) #[T,T,T,T,T,T,T,T,T,T,T,T,T,T,T,T,T,T,T,T,T,T,T,T,T,T,T,T,T,T,T,T,T,T,T,T,T,T,T,T,T,T,T,T,T,T,T,T,T,T,T,T,T,T,T,T,T,T,T,T,T,T,T,T,T,T,T,T,T,T,T,T,T,T,T,T,T,F,F] rfl rfl (any_of HT_.out (by kernel_rfl)) (fun _ _ _ h => h) (Or.inl ⟨by rfl, ?_⟩) ?_ ?_
           rotate_left
           ·
            intro w'
            go_simp
            with_reducible rfl
           rotate_left
           ·
            simp only [Act.put, List.setIfInBounds_toArray, List.set_cons_zero, List.set_cons_succ, i64_w, i32_w]
            rfl
           refine pure_ (i := 77) (N := some 139) (v := ?_) (a' := ?_) #[T,T,T,T,T,T,T,T,T,T,T,T,T,T,T,T,T,T,T,T,T,T,T,T,T,T,T,T,T,T,T,T,T,T,T,T,T,T,T,T,T,T,T,T,T,T,T,T,T,T,T,T,T,T,T,T,T,T,T,T,T,T,T,T,T,T,T,T,T,T,T,T,T,T,T,T,T,T,F] rfl rfl (any_of HT_.out (by kernel_rfl)) (fun _ _ _ h => h) (Or.inl ⟨by rfl, ?_⟩) ?_ ?_
           rotate_left
           ·
            intro w'
            go_simp
            with_reducible rfl
           rotate_left
           ·
            simp only [Act.put, List.setIfInBounds_toArray, List.set_cons_zero, List.set_cons_succ, i64_w, i32_w]
            rfl
           refine pure_ (i := 78) (N := some 8) (v := ?_) (a' := ?_) #[T,T,T,T,T,T,T,T,T,T,T,T,T,T,T,T,T,T,T,T,T,T,T,T,T,T,T,T,T,T,T,T,T,T,T,T,T,T,T,T,T,T,T,T,T,T,T,T,T,T,T,T,T,T,T,T,T,T,T,T,T,T,T,T,T,T,T,T,T,T,T,T,T,T,T,T,T,T,T] rfl rfl (any_of HT_.out (by kernel_rfl)) (fun _ _ _ h => h) (Or.inl ⟨by rfl, ?_⟩) ?_ ?_
           rotate_left
           ·
            intro w'
            go_simp
            with_reducible rfl
           rotate_left
           ·
            simp only [Act.put, List.setIfInBounds_toArray, List.set_cons_zero, List.set_cons_succ, i64_w, i32_w]
            rfl
           refine done_ (done_of HT_.out (by kernel_rfl)) ?_
           try go_wp2
           go_ret
           exact ⟨by first | rfl | (simp [errW_none, errW_some] <;> rfl) | (simp [*, errW_none, errW_some] <;> rfl), by repeat (first | (with_reducible first | exact HB.out | apply below_alloc | apply pw_below_drewN | apply below_drew1 | refine below_set ?_ GE182.out | refine below_set ?_ GE183.out | refine below_set ?_ GE188.out | refine below_set ?_ GE189.out) | exact HB.out)⟩
          ·
           rw [if_neg c70] at H
           have c70b0 : (t239 == t243 && (t240 == t244)) = false := by simpa using c70
           (try (have c70b1 : decide (t239 = t243 && (t240 == t244)) = false := by simpa using c70))
           (try (have c70b2 : (t239 == t243 && (t240 == t244)) = false := by simpa using c70))
           (try (have c70b3 : ¬ (t239 = t243 && (t240 == t244)) := by simpa using c70))
           clear c70
           exact absurd ((Option.some.inj H).trans hr_.out) (by decide)
         ·
          rw [if_neg c65] at H
          have c65b0 : (t233 == t235 && (t234 == t236)) = false := by simpa using c65
          (try (have c65b1 : decide (t233 = t235 && (t234 == t236)) = false := by simpa using c65))
          (try (have c65b2 : (t233 == t235 && (t234 == t236)) = false := by simpa using c65))
          (try (have c65b3 : ¬ (t233 = t235 && (t234 == t236)) := by simpa using c65))
          clear c65
          exact absurd ((Option.some.inj H).trans hr_.out) (by decide)
        ·
         rw [if_neg c61] at H
         have c61b0 : (t227 == t229 && (t228 == t230)) = false := by simpa using c61
         (try (have c61b1 : decide (t227 = t229 && (t228 == t230)) = false := by simpa using c61))
         (try (have c61b2 : (t227 == t229 && (t228 == t230)) = false := by simpa using c61))
         (try (have c61b3 : ¬ (t227 = t229 && (t228 == t230)) := by simpa using c61))
         clear c61
         exact absurd ((Option.some.inj H).trans hr_.out) (by decide)
       ·
        rw [if_neg c57] at H
        have c57b0 : (t221 == t223 && (t222 == t224)) = false := by simpa using c57
        (try (have c57b1 : decide (t221 = t223 && (t222 == t224)) = false := by simpa using c57))
        (try (have c57b2 : (t221 == t223 && (t222 == t224)) = false := by simpa using c57))
        (try (have c57b3 : ¬ (t221 = t223 && (t222 == t224)) := by simpa using c57))
        clear c57
        exact absurd ((Option.some.inj H).trans hr_.out) (by decide)
      ·
       rw [if_neg c53] at H
       have c53b0 : (t213 == t217 && (t214 == t218)) = false := by simpa using c53
       (try (have c53b1 : decide (t213 = t217 && (t214 == t218)) = false := by simpa using c53))
       (try (have c53b2 : (t213 == t217 && (t214 == t218)) = false := by simpa using c53))
       (try (have c53b3 : ¬ (t213 = t217 && (t214 == t218)) := by simpa using c53))
       clear c53
       exact absurd ((Option.some.inj H).trans hr_.out) (by decide)
     ·
      rw [if_neg c48] at H
      have c48b0 : (t205 == t209 && (t206 == t210)) = false := by simpa using c48
      (try (have c48b1 : decide (t205 = t209 && (t206 == t210)) = false := by simpa using c48))
      (try (have c48b2 : (t205 == t209 && (t206 == t210)) = false := by simpa using c48))
      (try (have c48b3 : ¬ (t205 = t209 && (t206 == t210)) := by simpa using c48))
      clear c48
      exact absurd ((Option.some.inj H).trans hr_.out) (by decide)

/-- THE ONE PURE STATEMENT of turnoutlaw01_WordCut: yours. -/
def turnoutlaw01_WordCut.Pure : Prop := (∀ (a0_0 : Int) (a0_1 : Int) (a1_0 : Int) (a1_1 : Int) (a2 : Int) (a3 : Int), (Lit.int .u64 a0_0).wf = true → (Lit.int .u64 a0_1).wf = true → (Lit.int .u64 a1_0).wf = true → (Lit.int .u64 a1_1).wf = true → (Lit.int .i64 a2).wf = true → (Lit.int .i64 a3).wf = true → ∃ k, turnoutlaw01_WordCut.f k a0_0 a0_1 a1_0 a1_1 a2 a3 = some true) ∧ (∀ k r, turnoutlaw01_awake.f k = some r → r = true)
theorem turnoutlaw01_WordCut.walk (P : turnoutlaw01_WordCut.Pure) (a0_0 : Int) (a0_1 : Int) (a1_0 : Int) (a1_1 : Int) (a2 : Int) (a3 : Int) (w : World) (w0_0 : (Lit.int .u64 a0_0).wf = true) (w0_1 : (Lit.int .u64 a0_1).wf = true) (w1_0 : (Lit.int .u64 a1_0).wf = true) (w1_1 : (Lit.int .u64 a1_1).wf = true) (w2 : (Lit.int .i64 a2).wf = true) (w3 : (Lit.int .i64 a3).wf = true) :
   Calls Try.prog 11 #[.agg #[.int .u64 a0_0, .int .u64 a0_1], .agg #[.int .u64 a1_0, .int .u64 a1_1], .int .i64 a2, .int .i64 a3] w fun e w' => e = .returned (.bool true) ∧ Below w.heap.size w w' := by
  obtain ⟨k, h⟩ := P.1 a0_0 a0_1 a1_0 a1_1 a2 a3 w0_0 w0_1 w1_0 w1_1 w2 w3
  refine (turnoutlaw01_WordCut.calls k a0_0 a0_1 a1_0 a1_1 a2 a3 true w h ⟨rfl⟩ ⟨P.2⟩).mono ?_
  rintro e w' ⟨rfl, hd⟩
  exact ⟨rfl, hd⟩

end Go.Proofs.Ytmplgmlfpfopbaa.PWordC
