-- Written by wip/turnprint.py, a program of this session (the kit's print, turned).
import Derived.Test.YtmplgmlfpfopbaaPWordOx0
import Derived.Test.YtmplgmlfpfopbaaPWordOx2
namespace Go.Proofs.Ytmplgmlfpfopbaa.PWordO
open Go.RowKit Go.Proofs.YtmplgmlfpfopbaaW.PrintWords Go.Proofs.YtmplgmlfpfopbaaW.PrintLast Go.Proofs.YtmplgmlfpfopbaaW.PrintMore
attribute [local go_sem] max2_int min2_int max_two min_two max_three min_three max_four min_four   -- for this text's walks alone
set_option linter.unusedVariables false
set_option linter.unusedSimpArgs false

attribute [local go_sem high] xorA_u8 xorA_u16 xorA_u32 xorA_u64 gtr_str
/-! ### word_Text: function 37 -/
def word_Text.row (a b : Int) : Nat → Option (List Int)
  | 0 => some []
  | n + 1 => (word_Text.row a b n).bind fun l => (word_Right.f a b (128 - 8 * ((n : Int) + 1))).bind fun p => some (l ++ [p.2 % 256])
def word_Text.f (a0_0 : Int) (a0_1 : Int) : Option (ByteArray) := (word_Text.row a0_0 a0_1 16).bind fun l => some (strOfNums l)
def word_Text.cells (l : List Int) : Array Value := (nums .u8 l ++ List.replicate (16 - l.length) (Value.int .u8 0)).toArray
structure word_Text.At (a b : Int) (w wr : World) (i : Nat) (l : List Int) : Prop where
  row : word_Text.row a b i = some l
  len : l.length = i
  box : wr.heap[w.heap.size]? = some (.cells #[.int .u64 a, .int .u64 b] 24 (0, 0))
  arr : wr.heap[w.heap.size + 1]? = some (.cells (word_Text.cells l) 53 (0, 0))
  bel : Below w.heap.size w wr
theorem word_Text.row_len (a b : Int) : ∀ (n : Nat) (l : List Int), word_Text.row a b n = some l → l.length = n := by
  intro n
  induction n with
  | zero => intro l h; obtain rfl := Option.some.inj h; rfl
  | succ n ih =>
    intro l h
    obtain ⟨l0, h0, h⟩ := Option.bind_eq_some_iff.mp h
    obtain ⟨p, hp, h⟩ := Option.bind_eq_some_iff.mp h
    obtain rfl := Option.some.inj h
    rw [List.length_append, ih l0 h0]; rfl
theorem word_Text.row_le (a b : Int) (n : Nat) : ∀ (d : Nat) (l : List Int), word_Text.row a b (n + d) = some l → ∃ l0, word_Text.row a b n = some l0 := by
  intro d
  induction d with
  | zero => intro l h; exact ⟨l, h⟩
  | succ d ih =>
    intro l h
    obtain ⟨l0, h0, _⟩ := Option.bind_eq_some_iff.mp h
    exact ih l0 h0
theorem word_Text.row_next {a b : Int} {n : Nat} {l0 l : List Int} (h0 : word_Text.row a b n = some l0) (h : word_Text.row a b (n + 1) = some l) :
    ∃ p1 p2, word_Right.f a b (128 - 8 * ((n : Int) + 1)) = some (p1, p2) ∧ l = l0 ++ [p2 % 256] := by
  obtain ⟨l1, h1, h⟩ := Option.bind_eq_some_iff.mp h
  obtain rfl := Option.some.inj (h0.symm.trans h1)
  obtain ⟨p, hp, h⟩ := Option.bind_eq_some_iff.mp h
  exact ⟨p.1, p.2, hp, (Option.some.inj h).symm⟩
theorem word_Text.cells_size (l : List Int) (h : l.length ≤ 16) : (word_Text.cells l).size = 16 := by
  unfold word_Text.cells; simp [nums_length]; omega
theorem word_Text.cells_at (l : List Int) (h : l.length < 16) : (word_Text.cells l)[l.length]? = some (Value.int .u8 0) := by
  unfold word_Text.cells
  rw [List.getElem?_toArray, List.getElem?_append_right (by rw [nums_length]; exact Nat.le_refl _), nums_length, Nat.sub_self, List.getElem?_replicate, if_pos (by omega)]
theorem word_Text.cells_set (l : List Int) (v : Int) (h : l.length < 16) : (word_Text.cells l).setIfInBounds l.length (Value.int .u8 v) = word_Text.cells (l ++ [v]) := by
  unfold word_Text.cells
  rw [List.setIfInBounds_toArray]
  congr 1
  rw [List.set_append_right _ _ (by rw [nums_length]; exact Nat.le_refl _), nums_length, Nat.sub_self, nums_append]
  have e : 16 - l.length = (16 - (l ++ [v]).length) + 1 := by rw [List.length_append]; simp; omega
  rw [e, List.replicate_succ, List.set_cons_zero, List.append_assoc]
  rfl
theorem word_Text.fld (p1 p2 : Int) (W : World) : (Instr.field 24 (Value.agg #[.int .u64 p1, .int .u64 p2]) 1).run Try.prog W = .ok (.int .u64 p2) W := by kernel_rfl
theorem word_Text.calls (a0_0 : Int) (a0_1 : Int) (r : ByteArray) (w : World) (h : word_Text.f a0_0 a0_1 = some r) :
    Calls Try.prog 37 #[.agg #[.int .u64 a0_0, .int .u64 a0_1]] w fun e w' => e = .returned (.string r) ∧ Below w.heap.size w w' := by
  obtain ⟨lz, hz, h⟩ := Option.bind_eq_some_iff.mp h
  obtain rfl := Option.some.inj h
  have HZ := Aside0.mk hz
  clear h hz
  have huW_ := Try.underlying24
  go_enter Try.func37, Try.ntmps37
  go_wp2
  go_loopg [5] 16 (fun d v5 wr => ∃ (i : Nat) (l : List Int), v5 = .int .i64 i ∧ Aside0 (i + d = 16) ∧ word_Text.At a0_0 a0_1 w wr i l)
  case atStart =>
    refine ⟨0, [], rfl, ⟨rfl⟩, ⟨rfl, rfl, blk_alloc (blk_new w _) _, ?_, ((Below.refl _ _).alloc (Nat.le_refl _) _).alloc (by simp) _⟩⟩
    have e := blk_new (w.alloc (Obj.cells #[Value.int .u64 a0_0, Value.int .u64 a0_1] 24)) (Obj.cells (word_Text.cells []) 53)
    have hs : (w.alloc (Obj.cells #[Value.int .u64 a0_0, Value.int .u64 a0_1] 24)).heap.size = w.heap.size + 1 := by simp
    rw [hs] at e
    exact e
  case round =>
    obtain ⟨i, l, rfl, HD, hA⟩ := hrel
    have HA := Aside0.mk hA
    have hb0 : wr.cell? ⟨w.heap.size, 0, none⟩ = some (.int .u64 a0_0) := by
      have := hA.box; simp [World.cell?, this]
    have hb1 : wr.cell? ⟨w.heap.size, 1, none⟩ = some (.int .u64 a0_1) := by
      have := hA.box; simp [World.cell?, this]
    by_cases hi : i < 16
    · have hlt : decide ((i : Int) < 16) = true := decide_eq_true (by omega)
      obtain ⟨l1, hl1⟩ : ∃ l1, word_Text.row a0_0 a0_1 (i + 1) = some l1 := word_Text.row_le _ _ (i + 1) (15 - i) lz (by rw [show i + 1 + (15 - i) = 16 by omega]; exact HZ.out)
      obtain ⟨p1, p2, hp, rfl⟩ := word_Text.row_next hA.row hl1
      have HL1 := Aside0.mk hl1
      have HP := Aside0.mk hp
      clear hl1 hp hA
      have hlen : l.length = i := HA.out.len
      subst hlen
      have hfld := fun W => word_Text.fld p1 p2 W
      go_wp2_with (go_at_call 32; (with_reducible refine (word_Right.calls _ _ _ p1 p2 _ HP.out).mono ?_); rintro e w1 ⟨rfl, hb⟩; have HB1 := Aside0.mk hb; clear hb; have hc1 := (blk_cell (blk_below HA.out.arr HB1.out) l.length).trans (word_Text.cells_at l hi); have hf1 := blk_frozen (blk_below HA.out.arr HB1.out) l.length)
      go_roundg (15 - l.length)
      case measure => have := HD.out; omega
      case rel =>
        refine ⟨l.length + 1, l ++ [p2 % 256], by go_num, ⟨by have := HD.out; omega⟩, HL1.out, by simp, ?_, ?_, ?_⟩
        · exact blk_far (blk_below HA.out.box HB1.out) (by show w.heap.size ≠ w.heap.size + 1; omega) _
        · exact blk_put (blk_below HA.out.arr HB1.out) _ _ (word_Text.cells_set l _ hi)
        · exact below_set (HA.out.bel.trans (HB1.out.mono (HA.out.bel.size))) (by omega)
    · have hlt : decide ((i : Int) < 16) = false := decide_eq_false (by omega)
      obtain rfl : i = 16 := by have := HD.out; omega
      obtain rfl := Option.some.inj (hA.row.symm.trans HZ.out)
      have hlen := hA.len
      have hcv := own_string (P := Try.prog) (w := wr) (base := 0) (n := 16) (e' := 53) (v := .slice (some ⟨w.heap.size + 1, 0, none⟩) 16 16) (xs := l) Try.underlying48 Try.underlying5 Try.underlying9
        ⟨by rw [nums_length, hlen], .inr ⟨w.heap.size + 1, 16, word_Text.cells l, rfl, Nat.zero_le _, hA.arr, Nat.le_refl _, by decide, word_Text.cells_size l (by omega), by
          unfold word_Text.cells
          rw [List.take_append_of_le_length (by rw [nums_length]; omega), List.take_of_length_le (by rw [nums_length]; omega)]⟩⟩
      have HBel := Aside0.mk hA.bel
      clear hA hlen
      go_wp2
      go_ret
      exact ⟨rfl, HBel.out⟩

/-! ### word_Compare: function 40 -/
def word_Compare.f (a0_0 : Int) (a0_1 : Int) (a1_0 : Int) (a1_1 : Int) : Option Int := some (if a0_0 = a1_0 ∧ a0_1 = a1_1 then 0 else if a0_0 < a1_0 ∨ a0_0 = a1_0 ∧ a0_1 < a1_1 then -1 else 1)
theorem word_Compare.same (a b : Int) (w : World) : Calls Try.prog 40 #[.agg #[.int .u64 a, .int .u64 b], .agg #[.int .u64 a, .int .u64 b]] w fun e w' => e = .returned (.int .i64 0) ∧ Below w.heap.size w w' := by
  go_enter Try.func40, Try.ntmps40
  go_wp2
  go_ret
  exact ⟨rfl, ((Below.refl _ _).alloc (Nat.le_refl _) _).alloc (by simp) _⟩
theorem word_Compare.less1 (a b c d : Int) (h : a < c) (w : World) : Calls Try.prog 40 #[.agg #[.int .u64 a, .int .u64 b], .agg #[.int .u64 c, .int .u64 d]] w fun e w' => e = .returned (.int .i64 (-1)) ∧ Below w.heap.size w w' := by
  have h1 : (a == c) = false := by simp; omega
  have h2 : decide (a < c) = true := by simpa using h
  clear h
  go_enter Try.func40, Try.ntmps40
  go_wp2
  go_ret
  exact ⟨rfl, ((Below.refl _ _).alloc (Nat.le_refl _) _).alloc (by simp) _⟩
theorem word_Compare.less2 (a b d : Int) (h : b < d) (w : World) : Calls Try.prog 40 #[.agg #[.int .u64 a, .int .u64 b], .agg #[.int .u64 a, .int .u64 d]] w fun e w' => e = .returned (.int .i64 (-1)) ∧ Below w.heap.size w w' := by
  have h1 : (b == d) = false := by simp; omega
  have h2 : decide (b < d) = true := by simpa using h
  clear h
  go_enter Try.func40, Try.ntmps40
  go_wp2
  go_ret
  exact ⟨rfl, ((Below.refl _ _).alloc (Nat.le_refl _) _).alloc (by simp) _⟩
theorem word_Compare.more1 (a b c d : Int) (h : c < a) (w : World) : Calls Try.prog 40 #[.agg #[.int .u64 a, .int .u64 b], .agg #[.int .u64 c, .int .u64 d]] w fun e w' => e = .returned (.int .i64 1) ∧ Below w.heap.size w w' := by
  have h1 : (a == c) = false := by simp; omega
  have h2 : decide (a < c) = false := by simp; omega
  clear h
  go_enter Try.func40, Try.ntmps40
  go_wp2
  go_ret
  exact ⟨rfl, ((Below.refl _ _).alloc (Nat.le_refl _) _).alloc (by simp) _⟩
theorem word_Compare.more2 (a b d : Int) (h : d < b) (w : World) : Calls Try.prog 40 #[.agg #[.int .u64 a, .int .u64 b], .agg #[.int .u64 a, .int .u64 d]] w fun e w' => e = .returned (.int .i64 1) ∧ Below w.heap.size w w' := by
  have h1 : (b == d) = false := by simp; omega
  have h2 : decide (b < d) = false := by simp; omega
  clear h
  go_enter Try.func40, Try.ntmps40
  go_wp2
  go_ret
  exact ⟨rfl, ((Below.refl _ _).alloc (Nat.le_refl _) _).alloc (by simp) _⟩
theorem word_Compare.calls (a0_0 : Int) (a0_1 : Int) (a1_0 : Int) (a1_1 : Int) (r : Int) (w : World) (h : word_Compare.f a0_0 a0_1 a1_0 a1_1 = some r) :
    Calls Try.prog 40 #[.agg #[.int .u64 a0_0, .int .u64 a0_1], .agg #[.int .u64 a1_0, .int .u64 a1_1]] w fun e w' => e = .returned (.int .i64 r) ∧ Below w.heap.size w w' := by
  unfold word_Compare.f at h
  obtain rfl := Option.some.inj h
  rcases Int.lt_trichotomy a0_0 a1_0 with h1 | rfl | h1
  · rw [if_neg (by omega), if_pos (by omega)]; exact word_Compare.less1 _ _ _ _ h1 w
  · rcases Int.lt_trichotomy a0_1 a1_1 with h2 | rfl | h2
    · rw [if_neg (by omega), if_pos (by omega)]; exact word_Compare.less2 _ _ _ h2 w
    · rw [if_pos ⟨rfl, rfl⟩]; exact word_Compare.same _ _ w
    · rw [if_neg (by omega), if_neg (by omega)]; exact word_Compare.more2 _ _ _ h2 w
  · rw [if_neg (by omega), if_neg (by omega)]; exact word_Compare.more1 _ _ _ _ h1 w

end Go.Proofs.Ytmplgmlfpfopbaa.PWordO
