/- A row of bytes in a block: its cells read, and may be written; whatever mark or spare cells the block bears. Plain lemmas on worlds. -/
import Derived.Test.YtdjdgkjikibgaaaWMore
set_option linter.unusedVariables false
set_option linter.unusedSimpArgs false
namespace Go.Proofs.Ytdjdgkjikibgaaa.KRow
open Go.RowKit Go.Proofs.YtdjdgkjikibgaaaW.PrintWords Go.Proofs.YtdjdgkjikibgaaaW.PrintLast Go.Proofs.YtdjdgkjikibgaaaW.PrintMore

/-- The cells of block g from 0 on hold the numbers l, and may be written. -/
structure Row (w : World) (g : Nat) (l : List Int) : Prop where
  lt : g < w.heap.size
  cell : ∀ j, j < l.length → w.cell? ⟨g, j, none⟩ = some (.int .u8 (l.getD j 0))
  free : ∀ j, j < l.length → w.frozen? ⟨g, j, none⟩ = false
theorem Row.below {w w1 : World} {g : Nat} {l : List Int} (h : Row w g l) (hb : Below w.heap.size w w1) : Row w1 g l :=
  ⟨Nat.lt_of_lt_of_le h.lt hb.size, fun j hj => (hb.cell (p := ⟨g, j, none⟩) h.lt).trans (h.cell j hj), fun j hj => (hb.frozen (p := ⟨g, j, none⟩) h.lt).trans (h.free j hj)⟩
theorem Row.alloc {w : World} {g : Nat} {l : List Int} (h : Row w g l) (o : Obj) : Row (w.alloc o) g l := h.below ((Below.refl _ _).alloc (Nat.le_refl _) o)
theorem Row.drewN {w : World} {g : Nat} {l : List Int} (h : Row w g l) (n : Nat) : Row (w.drewN n) g l := ⟨h.lt, h.cell, h.free⟩
theorem Row.drew {w : World} {g : Nat} {l : List Int} (h : Row w g l) : Row w.drew g l := ⟨h.lt, h.cell, h.free⟩
theorem Row.far {w : World} {g : Nat} {l : List Int} (h : Row w g l) (p : Addr) (hp : g ≠ p.block) (u : Value) : Row (w.setCell p u) g l := by
  have hsz : (w.setCell p u).heap.size = w.heap.size := by simp [World.setCell]
  refine ⟨by rw [hsz]; exact h.lt, fun j hj => ?_, fun j hj => ?_⟩
  · rw [World.cell?_setCell_other (h := (by intro e; subst e; exact hp rfl : p ≠ ⟨g, j, none⟩))]; exact h.cell j hj
  · rw [World.frozen?_setCell]; exact h.free j hj
theorem getD_set (l : List Int) (i j : Nat) (x : Int) (h : i < l.length) : (l.set i x).getD j 0 = if j = i then x else l.getD j 0 := by
  rw [List.getD_eq_getElem?_getD, List.getD_eq_getElem?_getD, List.getElem?_set]
  by_cases e : i = j
  · subst e; simp [h]
  · rw [if_neg e, if_neg (fun h => e h.symm)]
theorem Row.set {w : World} {g : Nat} {l : List Int} (h : Row w g l) {j : Nat} (hj : j < l.length) (v : Int) : Row (w.setCell ⟨g, j, none⟩ (.int .u8 v)) g (l.set j v) := by
  have hsz : (w.setCell ⟨g, j, none⟩ (.int .u8 v)).heap.size = w.heap.size := by simp [World.setCell]
  refine ⟨by rw [hsz]; exact h.lt, fun i hi => ?_, fun i hi => ?_⟩
  · rw [List.length_set] at hi
    rw [getD_set _ _ _ _ hj]
    by_cases e : i = j
    · subst e; rw [if_pos rfl]; exact World.cell?_setCell_same _ _ _ (h.cell i hi)
    · rw [if_neg e, World.cell?_setCell_other (h := (by intro h; injection h with _ h2 _; exact e h2.symm : (⟨g, j, none⟩ : Addr) ≠ ⟨g, i, none⟩))]; exact h.cell i hi
  · rw [List.length_set] at hi
    rw [World.frozen?_setCell]; exact h.free i hi
theorem Row.C {w : World} {g : Nat} {l : List Int} (h : Row w g l) (hl : l.length ≤ 9223372036854775807) : (Kd.int .u8).C w (some ⟨g, 0, none⟩) l.length l :=
  Kd.C_of_reads (d := (0 : Int)) (h1 := fun _ => rfl) ⟨rfl, hl, fun _ => ⟨_, rfl, fun j hj => by rw [add_plain]; exact h.cell j hj⟩⟩
theorem Row.of_R {w : World} {e base : Nat} {ok : Nat → Prop} {v : Value} {l : List Int} (h : Kd.R (Kd.int .u8) e w base ok v l) (hp : 0 < l.length) :
    ∃ g cap, v = .slice (some ⟨g, 0, none⟩) l.length cap ∧ base ≤ g ∧ Row w g l ∧ l.length ≤ cap := by
  obtain ⟨g, cap, he, hb, hlt, cells, hc⟩ := Kd.R_form h hp
  subst he
  refine ⟨g, cap, rfl, hb, ⟨hlt, fun j hj => ?_, fun j hj => ?_⟩, (Kd.R_reads' h).2.1⟩
  · have := (Kd.R_celln 0 h (j : Int) (by omega) (by omega)).1
    rw [Int.toNat_natCast] at this
    rw [this]
    unfold rdOf
    rw [Int.toNat_natCast]
  · have := (Kd.R_celln 0 h (j : Int) (by omega) (by omega)).2
    rwa [Int.toNat_natCast] at this
theorem Row.newBelow (w : World) (e : TypeId) (s : ByteArray) : Below w.heap.size w (Lib.bytesWorld w e s) := bytes_below (Below.refl _ _) (Nat.le_refl _) e s
theorem Row.new (w : World) (e : TypeId) (s : ByteArray) : Row (Lib.bytesWorld w e s) w.heap.size (bytesOf s) := by
  have hb := Lib.bytesWorld_at_new w e s
  have hlt : w.heap.size < (Lib.bytesWorld w e s).heap.size := (Array.getElem?_eq_some_iff.1 hb).1
  refine ⟨hlt, fun j hj => ?_, fun j hj => ?_⟩
  · rw [bytesOf_length] at hj
    rw [cell_of_row _ _ j _ _ _ hb]
    have hj' : j < s.data.toList.length := by rw [data_length]; exact hj
    have hj2 : j < s.data.size := hj
    unfold Lib.bytesCells bytesOf
    rw [Array.getElem?_append_left (by simpa using hj2), List.getD_eq_getElem?_getD, List.getElem?_map, List.getElem?_eq_getElem hj', Array.getElem?_map, Array.getElem?_eq_getElem hj2]
    simp
  · rw [bytesOf_length] at hj
    have hsz : s.size ≤ (Lib.bytesCells w e s).size := by unfold Lib.bytesCells; simp
    simp [World.frozen?, hb]; omega
end Go.Proofs.Ytdjdgkjikibgaaa.KRow
