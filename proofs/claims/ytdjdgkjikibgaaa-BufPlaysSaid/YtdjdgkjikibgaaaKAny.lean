/- Each function of a buffer at any arguments: its answer and the text behind it hang on the text and the arguments alone. -/
import Derived.Test.YtdjdgkjikibgaaaKVal
namespace Go.Proofs.Ytdjdgkjikibgaaa.PBuf
open Go.RowKit Go.Proofs.YtdjdgkjikibgaaaW.PrintWords Go.Proofs.YtdjdgkjikibgaaaW.PrintLast Go.Proofs.YtdjdgkjikibgaaaW.PrintMore
set_option linter.unusedVariables false
set_option linter.unusedSimpArgs false
/-- At a buffer of the bytes D the call answers r, and the bytes are D'. -/
def Acts (f : Nat) (D : List UInt8) (args : Value → Array Value) (r : Value) (D' : List UInt8) : Prop :=
  ∀ u p g cap, KBuf.Buf u p g D cap → Calls Try.prog f (args (.pointer (some ⟨p, 0, none⟩))) u (Does u p g D' r)
theorem offE_zero {L : Nat} {a n : Int} (h : offE L a n = 0) : 0 ≤ a ∧ 0 ≤ n ∧ a + n ≤ L := by
  unfold offE at h
  split at h
  · omega
  · split at h
    · omega
    · omega
section
variable (D : List UInt8) (hD : D.length ≤ 9216) (a n : Int) (ha : -9223372036854775808 ≤ a ∧ a ≤ 9223372036854775807) (hn : -9223372036854775808 ≤ n ∧ n ≤ 9223372036854775807)
include hD ha in
theorem get_all : ∃ r1 r2 x, Acts 18 D (fun q => #[q, .int .i64 a, .int .i64 n]) (.tuple #[.agg #[.int .u64 r1, .int .u64 r2], .int .i64 x]) D := by
  by_cases hb : a < 0 ∨ n < 1 ∨ 128 < n ∨ 8 * (D.length : Int) - n < a
  · have hm : MField.may (KBuf.txt D) a n ≠ 0 := by
      unfold MField.may
      rw [KBuf.txt_size]
      split
      · decide
      · rw [if_pos (by omega)]; decide
    obtain ⟨K, hK⟩ := MField.get_bad (KBuf.txt D) a n (by rw [KBuf.txt_size]; omega) hm
    exact ⟨_, _, _, fun u p g cap hB => (get_bad hB a n K _ _ hb ha.1 ha.2 _ ⟨hK K (Nat.le_refl K)⟩).mono (Does.bel hB)⟩
  · obtain ⟨o, rfl⟩ := Int.eq_ofNat_of_zero_le (show 0 ≤ a by omega)
    obtain ⟨m, rfl⟩ := Int.eq_ofNat_of_zero_le (show 0 ≤ n by omega)
    exact ⟨_, _, _, fun u p g cap hB => MWin.get_v hB o m rfl rfl (by omega) (by omega) (by omega)⟩
include hD ha in
theorem put_all (x : MBits.W) : ∃ y D', (y ≠ 0 → D' = D) ∧ Acts 19 D (fun q => #[q, .int .i64 a, .int .i64 n, .agg #[.int .u64 (MBits.hi x), .int .u64 (MBits.lo x)]]) (.int .i64 y) D' := by
  by_cases hb : a < 0 ∨ n < 1 ∨ 128 < n ∨ 8 * (D.length : Int) - n < a
  · have hm : MField.may (KBuf.txt D) a n ≠ 0 := by
      unfold MField.may
      rw [KBuf.txt_size]
      split
      · decide
      · rw [if_pos (by omega)]; decide
    obtain ⟨K, hK⟩ := MPut.put_bad (KBuf.txt D) a n (MBits.hi x) (MBits.lo x) (by rw [KBuf.txt_size]; omega) hm
    exact ⟨_, D, fun _ => rfl, fun u p g cap hB => (put_bad hB a n K _ _ _ _ hb ha.1 ha.2 hm ⟨hK K (Nat.le_refl K)⟩).mono (Does.bel hB)⟩
  · obtain ⟨o, rfl⟩ := Int.eq_ofNat_of_zero_le (show 0 ≤ a by omega)
    obtain ⟨m, rfl⟩ := Int.eq_ofNat_of_zero_le (show 0 ≤ n by omega)
    exact ⟨0, _, fun h => absurd rfl h, fun u p g cap hB => MWin.put_v hB o m x rfl rfl (by omega) (by omega) (by omega)⟩
theorem min_all (ats : Array TypeId) (ty : TypeId) : Builtin.min_ ats ty #[.int .i64 n, .int .i64 0] = pure (.int .i64 (if 0 < n then 0 else n)) := by
  simp only [min_two, min2_int, gt_iff_lt, pure_bind, bind_pure]
include hn in
theorem ins_all : ∃ y D', (y ≠ 0 → D' = D) ∧ Acts 14 D (fun q => #[q, .int .i64 a, .int .i64 n]) (.int .i64 y) D' := by
  by_cases hx : offE D.length a (if 0 < n then 0 else n) = 0
  · have h2 : 0 ≤ a ∧ 0 ≤ n ∧ a ≤ D.length := by
      by_cases hp : 0 < n
      · rw [if_pos hp] at hx; have := offE_zero hx; omega
      · rw [if_neg hp] at hx; have := offE_zero hx; omega
    obtain ⟨o, rfl⟩ := Int.eq_ofNat_of_zero_le h2.1
    by_cases h3 : n ≤ 9216 - (D.length : Int)
    · obtain ⟨m, rfl⟩ := Int.eq_ofNat_of_zero_le h2.2.1
      exact ⟨0, _, fun h => absurd rfl h, fun u p g cap hB => ins_d hB o m (by omega) (by omega)⟩
    · exact ⟨5, D, fun _ => rfl, fun u p g cap hB => (insert_long hB o n (by omega) (by omega) hn.2).mono (Does.same hB)⟩
  · exact ⟨_, D, fun _ => rfl, fun u p g cap hB => insbad_d hB a n _ (min_all n _ _) _ rfl hx⟩
theorem del_all : ∃ y D', (y ≠ 0 → D' = D) ∧ Acts 16 D (fun q => #[q, .int .i64 a, .int .i64 n]) (.int .i64 y) D' := by
  by_cases hx : offE D.length a n = 0
  · have h2 := offE_zero hx
    obtain ⟨o, rfl⟩ := Int.eq_ofNat_of_zero_le h2.1
    obtain ⟨m, rfl⟩ := Int.eq_ofNat_of_zero_le h2.2.1
    exact ⟨0, _, fun h => absurd rfl h, fun u p g cap hB => del_d hB o m (by omega)⟩
  · exact ⟨_, D, fun _ => rfl, fun u p g cap hB => delbad_d hB a n _ rfl hx⟩
include hD in
theorem sum_all : ∃ v y, Acts 21 D (fun q => #[q, .int .i64 a, .int .i64 n]) (.tuple #[.int .u16 v, .int .i64 y]) D := by
  by_cases hx : offE D.length a n = 0
  · have h2 := offE_zero hx
    obtain ⟨o, rfl⟩ := Int.eq_ofNat_of_zero_le h2.1
    obtain ⟨m, rfl⟩ := Int.eq_ofNat_of_zero_le h2.2.1
    obtain ⟨k, hk⟩ := sum_k (KBuf.txt (part D o m)) (by rw [KBuf.txt_size, part_len _ _ _ (by omega)]; omega)
    exact ⟨_, _, fun u p g cap hB => sum_d hB o m k _ (by omega) ⟨hk⟩⟩
  · exact ⟨0, _, fun u p g cap hB => (sum_bad hB a n _ rfl hx).mono (Does.same hB)⟩
end
end Go.Proofs.Ytdjdgkjikibgaaa.PBuf
