/- A row of bytes in a block, and a buffer over it; what stores, appends and copies make of them. Plain lemmas on worlds. -/
import Derived.Test.YtdjdgkjikibgaaaWMore
import Derived.Deep.AppendSrc
import Derived.Deep.Upon
import Derived.Laws.IdiomCopy
set_option linter.unusedVariables false
set_option linter.unusedSimpArgs false
namespace Go.Proofs.Ytdjdgkjikibgaaa.KBuf
open Go.RowKit Go.Proofs.YtdjdgkjikibgaaaW.PrintWords Go.Proofs.YtdjdgkjikibgaaaW.PrintLast Go.Proofs.YtdjdgkjikibgaaaW.PrintMore

/-- Bytes as numbers. -/
def num8 (D : List UInt8) : List Int := D.map fun b => (b.toNat : Int)
theorem num8_len (D : List UInt8) : (num8 D).length = D.length := by unfold num8; rw [List.length_map]
theorem num8_getD (D : List UInt8) (j : Nat) : (num8 D).getD j 0 = ((D.getD j 0).toNat : Int) := by
  unfold num8
  rw [List.getD_eq_getElem?_getD, List.getD_eq_getElem?_getD, List.getElem?_map]
  cases D[j]? <;> rfl
def cells8 (D : List UInt8) : List Value := D.map fun b => Value.int .u8 b.toNat
theorem cells8_len (D : List UInt8) : (cells8 D).length = D.length := by unfold cells8; rw [List.length_map]
theorem cells8_one (D : List UInt8) : ∀ v ∈ cells8 D, v.oneCell' = true := by
  intro v hv
  unfold cells8 at hv
  obtain ⟨b, _, rfl⟩ := List.mem_map.1 hv
  rfl
/-- The text of bytes. -/
def txt (D : List UInt8) : ByteArray := ⟨D.toArray⟩
theorem txt_size (D : List UInt8) : (txt D).size = D.length := by simp [txt, ByteArray.size]
theorem txt_data (s : ByteArray) : txt s.data.toList = s := by simp [txt]
theorem str_num8 (D : List UInt8) : strOfNums (num8 D) = txt D := by
  unfold strOfNums num8 txt
  congr 2
  rw [List.map_map]
  have : ((fun n : Int => UInt8.ofNat n.toNat) ∘ fun b : UInt8 => (b.toNat : Int)) = id := by funext b; simp
  rw [this, List.map_id]

/-- The cells of block g from 0 on hold the bytes D; there are cap of them, and all may be written. -/
structure Row (w : World) (g : Nat) (D : List UInt8) (cap : Nat) : Prop where
  lt : g < w.heap.size
  le : D.length ≤ cap
  cell : ∀ j u, D[j]? = some u → w.cell? ⟨g, j, none⟩ = some (.int .u8 u.toNat)
  more : ∀ j, j < cap → (w.cell? ⟨g, j, none⟩).isSome = true
  free : ∀ j, j < cap → w.frozen? ⟨g, j, none⟩ = false
theorem Row.same {w w' : World} {g : Nat} {D : List UInt8} {cap : Nat} (h : Row w g D cap) (e : w'.heap[g]? = w.heap[g]?) : Row w' g D cap := by
  have hc : ∀ j, w'.cell? ⟨g, j, none⟩ = w.cell? ⟨g, j, none⟩ := fun j => World.cell?_of_block (a := ⟨g, j, none⟩) e
  have hf : ∀ j, w'.frozen? ⟨g, j, none⟩ = w.frozen? ⟨g, j, none⟩ := fun j => World.frozen?_of_block (a := ⟨g, j, none⟩) e
  refine ⟨?_, h.le, fun j u hu => (hc j).trans (h.cell j u hu), fun j hj => by rw [hc]; exact h.more j hj, fun j hj => (hf j).trans (h.free j hj)⟩
  have h1 := Array.getElem?_eq_getElem h.lt
  rw [← e] at h1
  exact (Array.getElem?_eq_some_iff.1 h1).1
theorem Row.below {w w' : World} {g : Nat} {D : List UInt8} {cap : Nat} (h : Row w g D cap) (hb : Below w.heap.size w w') : Row w' g D cap := h.same (hb.block g h.lt)
theorem Row.upto {w : World} {g : Nat} {D : List UInt8} {cap : Nat} (h : Row w g D cap) (k : Nat) : Row w g (D.take k) cap := by
  refine ⟨h.lt, Nat.le_trans (List.length_take_le' _ _) h.le, fun j u hu => h.cell j u ?_, h.more, h.free⟩
  rw [List.getElem?_take] at hu
  split at hu
  · exact hu
  · cases hu
theorem Row.narrow {w : World} {g : Nat} {D : List UInt8} {cap : Nat} (h : Row w g D cap) (k : Nat) (hk : k ≤ cap) (hd : D.length ≤ k) : Row w g D k :=
  ⟨h.lt, hd, h.cell, fun j hj => h.more j (by omega), fun j hj => h.free j (by omega)⟩
theorem setCells_heap (b : Nat) : ∀ (vs : List Value) (o : Nat) (w : World), (w.setCells b o vs).heap.size = w.heap.size ∧ ∀ k, k ≠ b → (w.setCells b o vs).heap[k]? = w.heap[k]?
  | [], _, _ => ⟨rfl, fun _ _ => rfl⟩
  | v :: r, o, w => by
    have ih := setCells_heap b r (o + 1) (w.setCell ⟨b, o, none⟩ v)
    refine ⟨by rw [World.setCells, ih.1]; simp [World.setCell], fun k hk => ?_⟩
    rw [World.setCells, ih.2 k hk]
    exact Below.heap_setCell w ⟨b, o, none⟩ v k hk
theorem setCells_rest (b : Nat) : ∀ (vs : List Value) (o : Nat) (w : World), (w.setCells b o vs).os = w.os ∧ (w.setCells b o vs).tape = w.tape ∧ (w.setCells b o vs).output = w.output
  | [], _, _ => ⟨rfl, rfl, rfl⟩
  | v :: r, o, w => setCells_rest b r (o + 1) (w.setCell ⟨b, o, none⟩ v)
theorem Row.put {w : World} {g : Nat} {D : List UInt8} {cap : Nat} (h : Row w g D cap) (o : Nat) (N : List UInt8) (ho : o ≤ D.length) (hn : o + N.length ≤ cap) :
    Row (w.setCells g o (cells8 N)) g (D.take o ++ N ++ D.drop (o + N.length)) cap := by
  have hs := setCells_heap g (cells8 N) o w
  have hlen : (cells8 N).length = N.length := cells8_len N
  have hin := World.cell?_setCells_in g (cells8 N) o w (fun j hj => h.more _ (by rw [hlen] at hj; omega))
  refine ⟨by rw [hs.1]; exact h.lt, ?_, fun j u hu => ?_, fun j hj => ?_, fun j hj => ?_⟩
  · have := h.le
    rw [List.length_append, List.length_append, List.length_take, List.length_drop]; omega
  · by_cases h1 : j < o
    · rw [World.cell?_setCells_out _ _ _ _ _ (fun _ _ => Or.inl h1)]
      rw [List.append_assoc, List.getElem?_append_left (by rw [List.length_take]; omega), List.getElem?_take_of_lt h1] at hu
      exact h.cell j u hu
    · by_cases h2 : j < o + N.length
      · obtain ⟨i, rfl⟩ : ∃ i, j = o + i := ⟨j - o, by omega⟩
        rw [hin i (by rw [hlen]; omega)]
        rw [List.append_assoc, List.getElem?_append_right (by rw [List.length_take]; omega), List.length_take, Nat.min_eq_left ho, show o + i - o = i by omega, List.getElem?_append_left (by omega)] at hu
        have hi : i < N.length := by omega
        rw [List.getElem?_eq_getElem hi] at hu
        obtain rfl := Option.some.inj hu
        unfold cells8
        simp
      · rw [World.cell?_setCells_out _ _ _ _ _ (fun _ _ => Or.inr (by rw [hlen]; show o + N.length ≤ j; omega))]
        rw [List.getElem?_append_right (by rw [List.length_append, List.length_take]; omega), List.length_append, List.length_take, Nat.min_eq_left ho, List.getElem?_drop, show o + N.length + (j - (o + N.length)) = j by omega] at hu
        exact h.cell j u hu
  · by_cases h1 : j < o ∨ o + N.length ≤ j
    · rw [World.cell?_setCells_out _ _ _ _ _ (fun _ _ => by rcases h1 with h1 | h1; exact Or.inl h1; exact Or.inr (by rw [hlen]; exact h1))]
      exact h.more j hj
    · obtain ⟨i, rfl⟩ : ∃ i, j = o + i := ⟨j - o, by omega⟩
      rw [hin i (by rw [hlen]; omega)]; rfl
  · rw [World.frozen?_setCells]; exact h.free j hj

/-- The world is as it was, but for some of its blocks. -/
structure Mod (S : Nat → Prop) (w w' : World) : Prop where
  os : w'.os = w.os
  tape : w'.tape = w.tape
  output : w'.output = w.output
  size : w.heap.size ≤ w'.heap.size
  block : ∀ k, k < w.heap.size → ¬ S k → w'.heap[k]? = w.heap[k]?
theorem Mod.refl (S : Nat → Prop) (w : World) : Mod S w w := ⟨rfl, rfl, rfl, Nat.le_refl _, fun _ _ _ => rfl⟩
theorem Mod.trans {S : Nat → Prop} {a b c : World} (h : Mod S a b) (k : Mod S b c) : Mod S a c :=
  ⟨k.os.trans h.os, k.tape.trans h.tape, k.output.trans h.output, Nat.le_trans h.size k.size, fun i hi hn => (k.block i (Nat.lt_of_lt_of_le hi h.size) hn).trans (h.block i hi hn)⟩
theorem Mod.mono {S T : Nat → Prop} {a b : World} (h : Mod S a b) (hs : ∀ k, k < a.heap.size → S k → T k) : Mod T a b := ⟨h.os, h.tape, h.output, h.size, fun k hk hn => h.block k hk (fun hS => hn (hs k hk hS))⟩
theorem Mod.of_below {S : Nat → Prop} {a b : World} (h : Below a.heap.size a b) : Mod S a b := ⟨h.os, h.tape, h.output, h.size, fun k hk _ => h.block k hk⟩
theorem Mod.below {S : Nat → Prop} {B : Nat} {a b : World} (h : Mod S a b) (hB : B ≤ a.heap.size) (hs : ∀ k, k < B → ¬ S k) : Below B a b := ⟨h.os, h.tape, h.output, h.size, fun k hk => h.block k (Nat.lt_of_lt_of_le hk hB) (hs k hk)⟩
theorem Mod.setCells {S : Nat → Prop} (w : World) (b o : Nat) (vs : List Value) (hb : S b) : Mod S w (w.setCells b o vs) := by
  have h1 := setCells_heap b vs o w
  have h2 := setCells_rest b vs o w
  exact ⟨h2.1, h2.2.1, h2.2.2, by rw [h1.1]; exact Nat.le_refl _, fun k _ hn => h1.2 k (fun e => hn (e ▸ hb))⟩
theorem Mod.setCell {S : Nat → Prop} (w : World) (b o : Nat) (v : Value) (hb : S b) : Mod S w (w.setCell ⟨b, o, none⟩ v) := Mod.setCells w b o [v] hb

/-- A buffer: block p holds a slice over row g, whose bytes are D. -/
structure Buf (w : World) (p g : Nat) (D : List UInt8) (cap : Nat) : Prop where
  box : w.heap[p]? = some (.cells #[.slice (some ⟨g, 0, none⟩) D.length cap] 64 (0, 0))
  row : Row w g D cap
  ne : p ≠ g
  small : D.length ≤ 9216
theorem Buf.plt {w : World} {p g : Nat} {D : List UInt8} {cap : Nat} (h : Buf w p g D cap) : p < w.heap.size := blk_lt h.box
theorem Buf.mod {S : Nat → Prop} {w w' : World} {p g : Nat} {D : List UInt8} {cap : Nat} (h : Buf w p g D cap) (hm : Mod S w w') (hp : ¬ S p) (hg : ¬ S g) : Buf w' p g D cap :=
  ⟨(hm.block p h.plt hp).trans h.box, h.row.same (hm.block g h.row.lt hg), h.ne, h.small⟩
theorem Buf.below {w w' : World} {p g : Nat} {D : List UInt8} {cap : Nat} (h : Buf w p g D cap) (hb : Below w.heap.size w w') : Buf w' p g D cap :=
  h.mod (S := fun _ => False) (Mod.of_below hb) (fun h => h) (fun h => h)
theorem Buf.alloc {w : World} {p g : Nat} {D : List UInt8} {cap : Nat} (h : Buf w p g D cap) (o : Obj) : Buf (w.alloc o) p g D cap := h.below (below_alloc (Below.refl _ _) o)
theorem Buf.drewN {w : World} {p g : Nat} {D : List UInt8} {cap : Nat} (h : Buf w p g D cap) (n : Nat) : Buf (w.drewN n) p g D cap := h.below (pw_below_drewN (Below.refl _ _) n)
theorem Buf.cell {w : World} {p g : Nat} {D : List UInt8} {cap : Nat} (h : Buf w p g D cap) : w.cell? ⟨p, 0, none⟩ = some (.slice (some ⟨g, 0, none⟩) D.length cap) := (blk_cell h.box 0).trans rfl
theorem Buf.frozen {w : World} {p g : Nat} {D : List UInt8} {cap : Nat} (h : Buf w p g D cap) : w.frozen? ⟨p, 0, none⟩ = false := blk_frozen h.box 0

/-- []byte(s): a new row. -/
theorem Row.new (w : World) (e : TypeId) (s : ByteArray) : Row (Lib.bytesWorld w e s) w.heap.size s.data.toList (Lib.bytesCells w e s).size := by
  have hb := Lib.bytesWorld_at_new w e s
  have hlt : w.heap.size < (Lib.bytesWorld w e s).heap.size := (Array.getElem?_eq_some_iff.1 hb).1
  have hsz : s.size ≤ (Lib.bytesCells w e s).size := by unfold Lib.bytesCells; simp
  refine ⟨hlt, by rw [data_length]; exact hsz, fun j u hu => ?_, fun j hj => ?_, fun j hj => ?_⟩
  · rw [cell_of_row _ _ j _ _ _ hb]
    obtain ⟨hj', hu⟩ := List.getElem?_eq_some_iff.1 hu
    have hj2 : j < s.data.size := by simpa using hj'
    unfold Lib.bytesCells
    rw [Array.getElem?_append_left (by simpa using hj2), Array.getElem?_map, Array.getElem?_eq_getElem hj2]
    rw [← hu]; simp
  · rw [cell_of_row _ _ j _ _ _ hb, Array.getElem?_eq_getElem hj]; rfl
  · simp [World.frozen?, hb]; omega

/-! ### append -/
/-- What a slice of bytes yields. -/
theorem src_bytes {P : Program} (tx e' : TypeId) (hk : P.underlying tx = some (.slice e')) (w : World) (g o cap c : Nat) (D N : List UInt8) (h : Row w g D cap) (hN : ∀ j u, N[j]? = some u → D[o + j]? = some u) :
    Src P 1 tx (.slice (some ⟨g, o, none⟩) N.length c) N.length (cells8 N) w := by
  refine Src.ofSlice w hk ⟨g, o, none⟩ N.length c (cells8 N) (by rw [cells8_len, Nat.mul_one]) (fun j u hu => ?_) (cells8_one N)
  unfold cells8 at hu
  rw [List.getElem?_map] at hu
  cases hN2 : N[j]? with
  | none => rw [hN2] at hu; cases hu
  | some b =>
    rw [hN2] at hu
    obtain rfl := Option.some.inj hu
    rw [Addr.add_lit]
    exact h.cell (o + j) b (hN j b hN2)
theorem olds_bytes {P : Program} (w : World) (g cap c : Nat) (D : List UInt8) (h : Row w g D cap) :
    (Builtin.firstCells 1 D.length (.slice (some ⟨g, 0, none⟩) D.length c)).run P w = .ok (cells8 D).toArray w := by
  refine run_firstCells_some w 1 D.length ⟨g, 0, none⟩ D.length c (cells8 D) (by rw [cells8_len, Nat.mul_one]) (fun j u hu => ?_)
  unfold cells8 at hu
  rw [List.getElem?_map] at hu
  cases hN2 : D[j]? with
  | none => rw [hN2] at hu; cases hu
  | some b =>
    rw [hN2] at hu
    obtain rfl := Option.some.inj hu
    rw [Addr.add_lit, Nat.zero_add]
    exact h.cell j b hN2
theorem append_row {P : Program} (t tx ty e : TypeId) (i : TypeInfo) (ht : P.underlying t = some (.slice e)) (hi : P.info? e = some i) (hz : i.zero = some (.int .u8 0)) (h1 : i.size = 1) (hb1 : i.bytes = 1)
    (w : World) (g cap : Nat) (D N : List UInt8) (x : Value) (h : Row w g D cap) (hs : Src P 1 tx x N.length (cells8 N) w) (hsm : D.length + N.length ≤ 100000) :
    ∃ g' cap' w', (Builtin.append_ #[t, tx] ty #[.slice (some ⟨g, 0, none⟩) D.length cap, x]).run P w = .ok (.slice (some ⟨g', 0, none⟩) (D.length + N.length) cap') w' ∧
      Row w' g' (D ++ N) cap' ∧ Mod (fun k => k = g) w w' ∧ (g' = g ∧ (N = [] → w' = w) ∧ D.length + N.length ≤ cap ∧ cap' = cap ∨ g' = w.heap.size ∧ cap < D.length + N.length ∧ Below w.heap.size w w') := by
  by_cases hr : D.length + N.length ≤ cap
  · refine ⟨g, cap, w.setCells g D.length (cells8 N), ?_, ?_, Mod.setCells w g _ _ rfl, .inl ⟨rfl, fun hN => by subst hN; rfl, hr, rfl⟩⟩
    · have := run_append_room_src (P := P) w t tx ty e i ht hi g 0 D.length cap x N.length (cells8 N) (by rw [h1]; exact hs) hr
        (fun j hj => by rw [cells8_len] at hj; rw [h1, Nat.mul_one, Nat.zero_add]; exact h.more _ (by omega)) (fun j hj => by rw [cells8_len] at hj; rw [h1, Nat.mul_one, Nat.zero_add]; exact h.free _ (by omega))
      rw [this, h1, Nat.mul_one, Nat.zero_add]
    · have := h.put D.length N (Nat.le_refl _) hr
      rwa [List.take_length, List.drop_of_length_le (by omega), List.append_nil] at this
  · have hold : (Builtin.firstCells i.size D.length (.slice (some ⟨g, 0, none⟩) D.length cap)).run P w.drew = .ok (cells8 D).toArray w.drew := by
      rw [h1]; exact olds_bytes w.drew g cap cap D (h.same rfl)
    have hfit : Builtin.nextslicecap (D.length + N.length) cap * i.bytes ≤ 281474976710656 := growslice_fits (by omega) (by rw [hb1]; omega)
    have hrun := run_append_grow_src (P := P) w t tx ty e i (.int .u8 0) ht hi hz (some ⟨g, 0, none⟩) D.length cap (cells8 D) hold x N.length (cells8 N) (by rw [h1]; exact hs) (by omega) (by omega) hfit
    have hge := grownCap_ge w (D.length + N.length) cap e
    refine ⟨w.heap.size, _, _, hrun, ?_, ?_, .inr ⟨rfl, by omega, ?_⟩⟩
    · have hblk : (w.drew.alloc (.cells ((cells8 D ++ cells8 N).toArray ++ Builtin.zeroCells (Value.int .u8 0).cells (grownCap w (D.length + N.length) cap e - (D.length + N.length))) e)).heap[w.heap.size]? = some (.cells ((cells8 D ++ cells8 N).toArray ++ Builtin.zeroCells (Value.int .u8 0).cells (grownCap w (D.length + N.length) cap e - (D.length + N.length))) e (0, 0)) := blk_new w.drew _
      have hL : (cells8 D ++ cells8 N).length = D.length + N.length := by rw [List.length_append, cells8_len, cells8_len]
      have hzc : (Builtin.zeroCells (Value.int .u8 0).cells (grownCap w (D.length + N.length) cap e - (D.length + N.length))).size = grownCap w (D.length + N.length) cap e - (D.length + N.length) := by
        rw [size_zeroCells]; exact Nat.mul_one _
      refine ⟨blk_lt hblk, by rw [List.length_append]; exact hge, fun j u hu => ?_, fun j hj => ?_, fun j hj => blk_frozen hblk j⟩
      · obtain ⟨hj, hu⟩ := List.getElem?_eq_some_iff.1 hu
        rw [blk_cell hblk j, Array.getElem?_append_left (by rw [List.size_toArray, hL]; rw [List.length_append] at hj; exact hj), List.getElem?_toArray]
        unfold cells8
        rw [← List.map_append, List.getElem?_map, List.getElem?_eq_getElem hj, hu]; rfl
      · rw [blk_cell hblk j, Array.getElem?_eq_getElem (by rw [Array.size_append, List.size_toArray, hL, hzc]; omega)]; rfl
    · exact Mod.of_below ((Below.refl _ _).drew.alloc (Nat.le_refl _) _)
    · exact (Below.refl _ _).drew.alloc (Nat.le_refl _) _
theorem Row.Cat {w : World} {g cap : Nat} {D : List UInt8} (h : Row w g D cap) (o : Nat) (N : List UInt8) (hN : ∀ j u, N[j]? = some u → D[o + j]? = some u) (hl : N.length ≤ 9223372036854775807) :
    (Kd.int .u8).C w (some ⟨g, o, none⟩) N.length (num8 N) :=
  Kd.C_of_reads (d := (0 : Int)) (h1 := fun _ => rfl) ⟨num8_len N, hl, fun _ => ⟨_, rfl, fun j hj => by
    rw [Addr.add_lit, h.cell (o + j) N[j] (hN j _ (List.getElem?_eq_getElem hj)), num8_getD, List.getD_eq_getElem?_getD, List.getElem?_eq_getElem hj]; rfl⟩⟩
theorem bytes_cap (w : World) (e : TypeId) (s : ByteArray) : (Lib.bytesCells w e s).size = grownCap w s.size 0 e := by
  have := grownCap_ge w s.size 0 e
  have h2 : s.data.size = s.size := rfl
  unfold Lib.bytesCells
  rw [Array.size_append, Array.size_map, Array.size_replicate, h2]; omega
theorem zero_cells (n : Nat) : Builtin.zeroCells (Value.int .u8 0).cells n = (cells8 (List.replicate n 0)).toArray := by
  apply Array.ext
  · rw [size_zeroCells]; simp [cells8]; exact Nat.mul_one n
  · intro i h1 h2
    have h3 : i < n := by simpa [cells8] using h2
    unfold Builtin.zeroCells cells8
    have h4 : i % 1 = 0 := Nat.mod_one i
    simp [Value.cells, h3, h4]
theorem run_append_make0 {P : Program} (w : World) (t tx ty e : TypeId) (i : TypeInfo) (ht : P.underlying t = some (.slice e)) (hx : P.underlying tx = some (.int .i64)) (hi : P.info? e = some i) (hz : i.zero = some (.int .u8 0)) (h1 : i.size = 1) (hb1 : i.bytes = 1)
    (g a : Nat) : (Builtin.append_ #[t, tx] ty #[.slice (some ⟨g, 0, none⟩) a a, .int .i64 0]).run P w = .ok (.slice (some ⟨g, 0, none⟩) a a) w := by
  have hw : IntKind.i64.wrap 0 = 0 := rfl
  simp [Builtin.append_, run_underlying ht, run_underlying hx, sizeOf, typeInfo, zeroValue, hi, hz, h1, hb1, hw, storeCells, asInt, asIntOf]
theorem run_append_make {P : Program} (w : World) (t tx ty e : TypeId) (i : TypeInfo) (ht : P.underlying t = some (.slice e)) (hx : P.underlying tx = some (.int .i64)) (hi : P.info? e = some i) (hz : i.zero = some (.int .u8 0)) (h1 : i.size = 1) (hb1 : i.bytes = 1)
    (g a n : Nat) (olds : List Value) (hold : (Builtin.firstCells 1 a (.slice (some ⟨g, 0, none⟩) a a)).run P w.drew = .ok olds.toArray w.drew) (hn : 0 < n) (hsm : a + n ≤ 100000) :
    (Builtin.append_ #[t, tx] ty #[.slice (some ⟨g, 0, none⟩) a a, .int .i64 (n : Int)]).run P w =
      .ok (.slice (some ⟨w.heap.size, 0, none⟩) (a + n) (grownCap w (a + n) a e)) (w.drew.alloc (.cells ((olds ++ cells8 (List.replicate n 0)).toArray ++ Builtin.zeroCells (Value.int .u8 0).cells (grownCap w (a + n) a e - (a + n))) e)) := by
  have hw : IntKind.i64.wrap (n : Int) = (n : Int) := by rw [i64_w]; unfold wrap64; omega
  have hng : ¬ (a + n ≤ a) := by omega
  have h0 : ¬ ((n : Int) < 0) := by omega
  have h2 : ¬ ((281474976710656 : Int) < (n : Int)) := by omega
  have hfit : Builtin.nextslicecap (a + n) a * 1 ≤ 281474976710656 := growslice_fits (by omega) (by omega)
  have h48 : ¬ (281474976710656 < Builtin.nextslicecap (a + n) a) := by omega
  have h63 : ¬ (9223372036854775807 < ((a : Int) + (n : Int))) := by omega
  have hz0 : ¬ n = 0 := by omega
  have hzc := zero_cells n
  simp [Builtin.append_, run_underlying ht, run_underlying hx, sizeOf, typeInfo, zeroValue, hi, hz, h1, hb1, hw, storeCells, asInt, asIntOf, hng, h0, h2, h48, h63, hz0, hzc, Question.forced, hold, newRow, grownCap]
  congr 2
  apply Array.ext'
  simp [List.append_assoc]
theorem Row.fresh (w : World) (D : List UInt8) (m : Nat) (e : TypeId) (cs : Array Value) (hcs : cs = (cells8 D).toArray ++ Builtin.zeroCells (Value.int .u8 0).cells m) : Row (w.alloc (.cells cs e)) w.heap.size D (D.length + m) := by
  subst hcs
  have hblk : (w.alloc (.cells ((cells8 D).toArray ++ Builtin.zeroCells (Value.int .u8 0).cells m) e)).heap[w.heap.size]? = some (.cells ((cells8 D).toArray ++ Builtin.zeroCells (Value.int .u8 0).cells m) e (0, 0)) := blk_new w _
  have hL : (cells8 D).length = D.length := cells8_len D
  have hzc : (Builtin.zeroCells (Value.int .u8 0).cells m).size = m := by rw [size_zeroCells]; exact Nat.mul_one _
  refine ⟨blk_lt hblk, by omega, fun j u hu => ?_, fun j hj => ?_, fun j hj => blk_frozen hblk j⟩
  · obtain ⟨hj, hu⟩ := List.getElem?_eq_some_iff.1 hu
    rw [blk_cell hblk j, Array.getElem?_append_left (by rw [List.size_toArray, hL]; exact hj), List.getElem?_toArray]
    unfold cells8
    rw [List.getElem?_map, List.getElem?_eq_getElem hj, hu]; rfl
  · rw [blk_cell hblk j, Array.getElem?_eq_getElem (by rw [Array.size_append, List.size_toArray, hL, hzc]; omega)]; rfl
theorem append_make {P : Program} (t tx ty e : TypeId) (i : TypeInfo) (ht : P.underlying t = some (.slice e)) (hx : P.underlying tx = some (.int .i64)) (hi : P.info? e = some i) (hz : i.zero = some (.int .u8 0)) (h1 : i.size = 1) (hb1 : i.bytes = 1)
    (w : World) (g n : Nat) (D : List UInt8) (h : Row w g D D.length) (hsm : D.length + n ≤ 100000) :
    ∃ g' cap' w', (Builtin.append_ #[t, tx] ty #[.slice (some ⟨g, 0, none⟩) D.length D.length, .int .i64 (n : Int)]).run P w = .ok (.slice (some ⟨g', 0, none⟩) (D.length + n) cap') w' ∧
      Row w' g' (D ++ List.replicate n 0) cap' ∧ Below w.heap.size w w' ∧ (g' = g ∧ n = 0 ∧ cap' = D.length ∨ g' = w.heap.size) := by
  by_cases hn : n = 0
  · subst hn
    refine ⟨g, D.length, w, run_append_make0 w t tx ty e i ht hx hi hz h1 hb1 g D.length, ?_, Below.refl _ _, .inl ⟨rfl, rfl, rfl⟩⟩
    rw [List.replicate_zero, List.append_nil]; exact h
  · have hold := olds_bytes (P := P) w.drew g D.length D.length D (h.same rfl)
    have hge := grownCap_ge w (D.length + n) D.length e
    refine ⟨w.heap.size, _, _, run_append_make w t tx ty e i ht hx hi hz h1 hb1 g D.length n _ hold (by omega) hsm, ?_, (Below.refl _ _).drew.alloc (Nat.le_refl _) _, .inr rfl⟩
    have hr := Row.fresh w.drew (D ++ List.replicate n 0) (grownCap w (D.length + n) D.length e - (D.length + n)) e _ rfl
    have hlen : (D ++ List.replicate n (0 : UInt8)).length + (grownCap w (D.length + n) D.length e - (D.length + n)) = grownCap w (D.length + n) D.length e := by rw [List.length_append, List.length_replicate]; omega
    rw [hlen] at hr
    have hc : cells8 (D ++ List.replicate n 0) = cells8 D ++ cells8 (List.replicate n 0) := by unfold cells8; rw [List.map_append]
    rw [hc] at hr
    exact hr
end Go.Proofs.Ytdjdgkjikibgaaa.KBuf
