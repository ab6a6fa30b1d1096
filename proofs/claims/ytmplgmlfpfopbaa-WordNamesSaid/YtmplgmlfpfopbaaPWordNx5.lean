-- Written by wip/turnprint.py, a program of this session (the kit's print, turned).
import Derived.Test.YtmplgmlfpfopbaaPWordNx0
import Derived.Test.YtmplgmlfpfopbaaPWordNx2
import Derived.Test.YtmplgmlfpfopbaaPWordNx4
namespace Go.Proofs.Ytmplgmlfpfopbaa.PWordN
open Go.RowKit Go.Proofs.YtmplgmlfpfopbaaW.PrintWords Go.Proofs.YtmplgmlfpfopbaaW.PrintLast Go.Proofs.YtmplgmlfpfopbaaW.PrintMore
attribute [local go_sem] max2_int min2_int max_two min_two max_three min_three max_four min_four   -- for this text's walks alone
set_option linter.unusedVariables false
set_option linter.unusedSimpArgs false

attribute [local go_sem high] xorA_u8 xorA_u16 xorA_u32 xorA_u64 gtr_str
/-! ### word_Cut: function 34 -/
def word_Cut.f (a0_0 : Int) (a0_1 : Int) (a1 : Int) : Option (Int × Int) := (word_Mask.f a1).bind fun bt175 => ((word_And.f a0_0 a0_1 bt175.1 bt175.2).bind fun bt177 => (some (bt177.1, bt177.2)))
set_option maxHeartbeats 8000000 in
set_option maxRecDepth 100000 in
theorem word_Cut.calls (a0_0 : Int) (a0_1 : Int) (a1 : Int) (r1 : Int) (r2 : Int) (w : World) (h : word_Cut.f a0_0 a0_1 a1 = some (r1, r2)) :
   Calls Try.prog 34 #[.agg #[.int .u64 a0_0, .int .u64 a0_1], .int .i64 a1] w fun e w' => e = .returned (.agg #[.int .u64 r1, .int .u64 r2]) ∧ Below w.heap.size w w' := by
  have hu24 := Try.underlying24
  have HB := Aside0.mk (Below.refl w.heap.size w)
  have H : ((word_Mask.f a1).bind fun bt175 => ((word_And.f a0_0 a0_1 bt175.1 bt175.2).bind fun bt177 => (some (bt177.1, bt177.2)))) = some (r1, r2) := h
  clear h
  replace H := Option.bind_eq_some_iff.mp H
  obtain ⟨⟨t175, t176⟩, A30, H⟩ := H
  replace H : ((word_And.f a0_0 a0_1 t175 t176).bind fun bt177 => (some (bt177.1, bt177.2))) = some (r1, r2) := H
  have A3 := Aside0.mk A30
  clear A30
  replace H := Option.bind_eq_some_iff.mp H
  obtain ⟨⟨t177, t178⟩, A40, H⟩ := H
  replace H : (some (t177, t178)) = some (r1, r2) := H
  have A4 := Aside0.mk A40
  clear A40
  simp only [Option.some.injEq, Prod.mk.injEq] at H
  obtain ⟨rfl, rfl⟩ := H
  go_enter Try.func34, Try.ntmps34
  try go_wp2_with (first | ((with_reducible refine gate_dst (N := 2) rfl ?_); refine box_event ?hg (N := 2) ?hd (cs := #[.int .u64 a0_0, .int .u64 a0_1]) (t := 24) ?hr ?_; (case hd => rfl); (case hg => rfl); (case hr => first | (go_simp; done) | (go_simp; rfl)); intro gb173 hg w5 hbox hb; have BK173 := Aside0.mk (hbox); have GW173 := Aside0.mk ((by rw [hg]; exact (below_size (by repeat (first | (with_reducible first | exact HB.out | apply below_alloc | apply pw_below_drewN | apply below_drew1) | exact HB.out))) : w.heap.size ≤ gb173)); have GE173 := Aside0.mk ((by rw [hg]; exact (below_size (by repeat (first | (with_reducible first | exact HB.out | apply below_alloc | apply pw_below_drewN | apply below_drew1) | exact HB.out))) : w.heap.size ≤ gb173)); replace HB := Aside0.mk (below_step (by repeat (first | (with_reducible first | exact HB.out | apply below_alloc | apply pw_below_drewN | apply below_drew1) | exact HB.out)) hb); clear hb hbox hg) | ((with_reducible refine gate_dst (N := 4) rfl ?_); refine box_event ?hg (N := 4) ?hd (cs := #[.int .u64 0, .int .u64 0]) (t := 24) ?hr ?_; (case hd => rfl); (case hg => rfl); (case hr => first | (go_simp; done) | (go_simp; rfl)); intro gb174 hg w6 hbox hb; have BK174 := Aside0.mk (hbox); have GW174 := Aside0.mk ((by rw [hg]; exact (below_size (by repeat (first | (with_reducible first | exact HB.out | apply below_alloc | apply pw_below_drewN | apply below_drew1 | refine below_set ?_ GE173.out) | exact HB.out))) : w.heap.size ≤ gb174)); have GE174 := Aside0.mk ((by rw [hg]; exact (below_size (by repeat (first | (with_reducible first | exact HB.out | apply below_alloc | apply pw_below_drewN | apply below_drew1 | refine below_set ?_ GE173.out) | exact HB.out))) : w.heap.size ≤ gb174)); replace HB := Aside0.mk (below_step (by repeat (first | (with_reducible first | exact HB.out | apply below_alloc | apply pw_below_drewN | apply below_drew1 | refine below_set ?_ GE173.out) | exact HB.out)) hb); have NB173_174 := Aside0.mk ((by rw [hg]; exact Nat.ne_of_lt (blk_lt (bkA BK173.out)) : gb173 ≠ gb174)); have NB174_173 := Aside0.mk ((by rw [hg]; exact Nat.ne_of_gt (blk_lt (bkA BK173.out)) : gb174 ≠ gb173)); replace BK173 := Aside0.mk (blk_below (bkA BK173.out) hb); clear hb hbox hg))
  have n0_ := Aside0.mk (blk_drew BK173.out)
  have n1_ := Aside0.mk (blk_drew BK174.out)
  have n2_ := Aside0.mk (below_drew1 HB.out)
  clear BK173
  clear BK174
  clear HB
  have BK173 := n0_
  have BK174 := n1_
  have HB := n2_
  clear n0_ n1_ n2_
  refine start_ (n := 5) (S := fun w' => w'.cell? ⟨gb173, 0, none⟩ = some (.int .u64 a0_0) ∧ w'.cell? ⟨gb173, 1, none⟩ = some (.int .u64 a0_1)) (ds := []) #[F,F,F,F,F] (by kernel_rfl) rfl rfl ⟨(blk_cell BK173.out 0).trans rfl, (blk_cell BK173.out 1).trans rfl⟩ (fun hHeld => ?_)
  generalize w6.drew = w7 at BK173 BK174 HB hHeld ⊢
  refine pure_ (i := 1) (N := some 6) (v := ?_) (a' := ?_) #[F,T,F,F,F] rfl rfl (by kernel_rfl) (fun _ _ _ h => h) (Or.inl ⟨by rfl, ?_⟩) ?_ ?_
  rotate_left
  ·
   intro w'
   go_simp
   with_reducible rfl
  rotate_left
  ·
   simp only [Act.put, List.setIfInBounds_toArray, List.set_cons_zero, List.set_cons_succ, i64_w, i32_w]
   rfl
  refine take_ (i := 0) (N := some 5) (v := ?_) (a' := ?_) #[T,T,F,F,F] rfl rfl (by kernel_rfl) (fun _ _ _ h => h) (Or.inl ⟨by rfl, ?_⟩) hHeld ?_ ?_
  rotate_left
  ·
   rintro w' ⟨s0, s1⟩
   go_simp
   with_reducible rfl
  rotate_left
  ·
   simp only [Act.put, List.setIfInBounds_toArray, List.set_cons_zero, List.set_cons_succ, i64_w, i32_w]
   rfl
  refine one_ (i := 2) (N := some 7) #[T,T,T,F,F] rfl rfl (by kernel_rfl) (by decide) (fun K hK => ?_)
  refine goes_ Try.func22 (by kernel_rfl) rfl #[.int .i64 a1] (by rfl) rfl rfl (by (try simp only [List.map_toArray, List.map_cons, List.map_nil]); first | done | rfl | (simp only [List.length_drop, List.length_take]; rfl)) ?_
  with_reducible refine (word_Mask.calls a1 t175 t176 _ A3.out).mono ?_
  rintro e w8 ⟨rfl, hb⟩
  refine ⟨_, rfl, ?_⟩
  have n0_ := Aside0.mk (blk_below (bkA BK173.out) hb)
  have n1_ := Aside0.mk (blk_below (bkA BK174.out) hb)
  have n2_ := Aside0.mk (below_step (by repeat (first | (with_reducible first | exact HB.out | apply below_alloc | apply pw_below_drewN | apply below_drew1 | refine below_set ?_ GE173.out | refine below_set ?_ GE174.out) | exact HB.out)) hb)
  clear BK173
  clear BK174
  clear HB
  have BK173 := n0_
  have BK174 := n1_
  have HB := n2_
  clear n0_ n1_ n2_
  (try clear hb)
  (try clear hb2)
  (try clear hk)
  (try clear hi)
  refine hK.out _ _ ⟨(blk_cell BK173.out 0).trans rfl, (blk_cell BK173.out 1).trans rfl⟩ (fun hHeld => ?_)
  clear hK K
  refine norm_ (a' := ?_) ?_ ?_
  rotate_left
  ·
   show Act.put _ (some 7) _ = _
   simp only [Act.put, List.setIfInBounds_toArray, List.set_cons_zero, List.set_cons_succ, i64_w, i32_w]
   rfl
  refine one_ (i := 3) (N := some 8) #[T,T,T,T,F] rfl rfl (by kernel_rfl) (by decide) (fun K hK => ?_)
  refine goes_ Try.func23 (by kernel_rfl) rfl #[.agg #[.int .u64 a0_0, .int .u64 a0_1], .agg #[.int .u64 t175, .int .u64 t176]] (by rfl) rfl rfl (by (try simp only [List.map_toArray, List.map_cons, List.map_nil]); first | done | rfl | (simp only [List.length_drop, List.length_take]; rfl)) ?_
  with_reducible refine (word_And.calls a0_0 a0_1 t175 t176 t177 t178 _ A4.out).mono ?_
  rintro e w9 ⟨rfl, hb⟩
  refine ⟨_, rfl, ?_⟩
  have n0_ := Aside0.mk (blk_below (bkA BK173.out) hb)
  have n1_ := Aside0.mk (blk_below (bkA BK174.out) hb)
  have n2_ := Aside0.mk (below_step (by repeat (first | (with_reducible first | exact HB.out | apply below_alloc | apply pw_below_drewN | apply below_drew1 | refine below_set ?_ GE173.out | refine below_set ?_ GE174.out) | exact HB.out)) hb)
  clear BK173
  clear BK174
  clear HB
  have BK173 := n0_
  have BK174 := n1_
  have HB := n2_
  clear n0_ n1_ n2_
  (try clear hb)
  (try clear hb2)
  (try clear hk)
  (try clear hi)
  refine hK.out _ _ ⟨(blk_cell BK173.out 0).trans rfl, (blk_cell BK173.out 1).trans rfl⟩ (fun hHeld => ?_)
  clear hK K
  refine norm_ (a' := ?_) ?_ ?_
  rotate_left
  ·
   show Act.put _ (some 8) _ = _
   simp only [Act.put, List.setIfInBounds_toArray, List.set_cons_zero, List.set_cons_succ, i64_w, i32_w]
   rfl
  refine one_ (i := 4) (N := none) #[T,T,T,T,T] rfl rfl (by kernel_rfl) (by decide) (fun K hK => ?_)
  have hs10 : w9.cell? ⟨gb174, 0, none⟩ = some (.int .u64 0) := (blk_cell BK174.out 0).trans rfl
  have hfs10 := blk_frozen BK174.out 0
  have hns10_0 := NB173_174.out
  have hms10_0 := NB174_173.out
  have hs11 : w9.cell? ⟨gb174, 1, none⟩ = some (.int .u64 0) := (blk_cell BK174.out 1).trans rfl
  have hfs11 := blk_frozen BK174.out 1
  have hns11_0 := NB173_174.out
  have hms11_0 := NB174_173.out
  refine skip_ (w1 := ?_) (by rfl) rfl ?_ ?_
  rotate_left
  ·
   go_simp
   rfl
  refine hK.out _ _ ⟨((cell_far (p := ⟨gb174, _, none⟩) NB173_174.out _).trans (((cell_far (p := ⟨gb174, _, none⟩) NB173_174.out _).trans (hHeld.1)))), ((cell_far (p := ⟨gb174, _, none⟩) NB173_174.out _).trans (((cell_far (p := ⟨gb174, _, none⟩) NB173_174.out _).trans (hHeld.2))))⟩ (fun hHeld => ?_)
  clear hK K
  refine done_ (by kernel_rfl) ?_
  try go_wp2
  refine bodyPost_ret (results_cell_row rfl _ _ gb174 24 #[.int .u64 t177, .int .u64 t178] (0, 0) _ rfl (by (with_reducible repeat (first | refine blk_drewN ?_ _ | refine blk_drew ?_ | refine blk_alloc ?_ _)); refine blk_put (cs := #[.int .u64 t177, .int .u64 0]) ?_ 1 _ rfl; (with_reducible repeat (first | refine blk_drewN ?_ _ | refine blk_drew ?_ | refine blk_alloc ?_ _)); refine blk_put (cs := #[.int .u64 0, .int .u64 0]) ?_ 0 _ rfl; (with_reducible repeat (first | refine blk_drewN ?_ _ | refine blk_drew ?_ | refine blk_alloc ?_ _)); exact BK174.out) Try.underlying24 rfl (by kernel_rfl)) rfl ?_
  exact ⟨by first | rfl | (simp [errW_none, errW_some] <;> rfl) | (simp [*, errW_none, errW_some] <;> rfl), by repeat (first | (with_reducible first | exact HB.out | apply below_alloc | apply pw_below_drewN | apply below_drew1 | refine below_set ?_ GE173.out | refine below_set ?_ GE174.out) | exact HB.out)⟩

/-! ### word_Text: function 37 -/
def word_Text.row (a b : Int) : Nat → Option (List Int)
  | 0 => some []
  | n + 1 => (word_Text.row a b n).bind fun l => (word_Right.f a b (128 - 8 * ((n : Int) + 1))).bind fun p => some (l ++ [p.2 % 256])
def word_Text.f (a0_0 : Int) (a0_1 : Int) : Option (ByteArray) := (word_Text.row a0_0 a0_1 16).bind fun l => some (strOfNums l)
def word_Text.cells (l : List Int) : Array Value := (nums .u8 l ++ List.replicate (16 - l.length) (Value.int .u8 0)).toArray
structure word_Text.At (a b : Int) (w wr : World) (i : Nat) (l : List Int) : Prop where
  row : word_Text.row a b i = some l
  len : l.length = i
  box : wr.heap[w.heap.size]? = some (.cells #[.int .u64 a, .int .u64 b] 24 (0, 0))
  arr : wr.heap[w.heap.size + 1]? = some (.cells (word_Text.cells l) 53 (0, 0))
  bel : Below w.heap.size w wr
theorem word_Text.row_len (a b : Int) : ∀ (n : Nat) (l : List Int), word_Text.row a b n = some l → l.length = n := by
  intro n
  induction n with
  | zero => intro l h; obtain rfl := Option.some.inj h; rfl
  | succ n ih =>
    intro l h
    obtain ⟨l0, h0, h⟩ := Option.bind_eq_some_iff.mp h
    obtain ⟨p, hp, h⟩ := Option.bind_eq_some_iff.mp h
    obtain rfl := Option.some.inj h
    rw [List.length_append, ih l0 h0]; rfl
theorem word_Text.row_le (a b : Int) (n : Nat) : ∀ (d : Nat) (l : List Int), word_Text.row a b (n + d) = some l → ∃ l0, word_Text.row a b n = some l0 := by
  intro d
  induction d with
  | zero => intro l h; exact ⟨l, h⟩
  | succ d ih =>
    intro l h
    obtain ⟨l0, h0, _⟩ := Option.bind_eq_some_iff.mp h
    exact ih l0 h0
theorem word_Text.row_next {a b : Int} {n : Nat} {l0 l : List Int} (h0 : word_Text.row a b n = some l0) (h : word_Text.row a b (n + 1) = some l) :
    ∃ p1 p2, word_Right.f a b (128 - 8 * ((n : Int) + 1)) = some (p1, p2) ∧ l = l0 ++ [p2 % 256] := by
  obtain ⟨l1, h1, h⟩ := Option.bind_eq_some_iff.mp h
  obtain rfl := Option.some.inj (h0.symm.trans h1)
  obtain ⟨p, hp, h⟩ := Option.bind_eq_some_iff.mp h
  exact ⟨p.1, p.2, hp, (Option.some.inj h).symm⟩
theorem word_Text.cells_size (l : List Int) (h : l.length ≤ 16) : (word_Text.cells l).size = 16 := by
  unfold word_Text.cells; simp [nums_length]; omega
theorem word_Text.cells_at (l : List Int) (h : l.length < 16) : (word_Text.cells l)[l.length]? = some (Value.int .u8 0) := by
  unfold word_Text.cells
  rw [List.getElem?_toArray, List.getElem?_append_right (by rw [nums_length]; exact Nat.le_refl _), nums_length, Nat.sub_self, List.getElem?_replicate, if_pos (by omega)]
theorem word_Text.cells_set (l : List Int) (v : Int) (h : l.length < 16) : (word_Text.cells l).setIfInBounds l.length (Value.int .u8 v) = word_Text.cells (l ++ [v]) := by
  unfold word_Text.cells
  rw [List.setIfInBounds_toArray]
  congr 1
  rw [List.set_append_right _ _ (by rw [nums_length]; exact Nat.le_refl _), nums_length, Nat.sub_self, nums_append]
  have e : 16 - l.length = (16 - (l ++ [v]).length) + 1 := by rw [List.length_append]; simp; omega
  rw [e, List.replicate_succ, List.set_cons_zero, List.append_assoc]
  rfl
theorem word_Text.fld (p1 p2 : Int) (W : World) : (Instr.field 24 (Value.agg #[.int .u64 p1, .int .u64 p2]) 1).run Try.prog W = .ok (.int .u64 p2) W := by kernel_rfl
theorem word_Text.calls (a0_0 : Int) (a0_1 : Int) (r : ByteArray) (w : World) (h : word_Text.f a0_0 a0_1 = some r) :
    Calls Try.prog 37 #[.agg #[.int .u64 a0_0, .int .u64 a0_1]] w fun e w' => e = .returned (.string r) ∧ Below w.heap.size w w' := by
  obtain ⟨lz, hz, h⟩ := Option.bind_eq_some_iff.mp h
  obtain rfl := Option.some.inj h
  have HZ := Aside0.mk hz
  clear h hz
  have huW_ := Try.underlying24
  go_enter Try.func37, Try.ntmps37
  go_wp2
  go_loopg [5] 16 (fun d v5 wr => ∃ (i : Nat) (l : List Int), v5 = .int .i64 i ∧ Aside0 (i + d = 16) ∧ word_Text.At a0_0 a0_1 w wr i l)
  case atStart =>
    refine ⟨0, [], rfl, ⟨rfl⟩, ⟨rfl, rfl, blk_alloc (blk_new w _) _, ?_, ((Below.refl _ _).alloc (Nat.le_refl _) _).alloc (by simp) _⟩⟩
    have e := blk_new (w.alloc (Obj.cells #[Value.int .u64 a0_0, Value.int .u64 a0_1] 24)) (Obj.cells (word_Text.cells []) 53)
    have hs : (w.alloc (Obj.cells #[Value.int .u64 a0_0, Value.int .u64 a0_1] 24)).heap.size = w.heap.size + 1 := by simp
    rw [hs] at e
    exact e
  case round =>
    obtain ⟨i, l, rfl, HD, hA⟩ := hrel
    have HA := Aside0.mk hA
    have hb0 : wr.cell? ⟨w.heap.size, 0, none⟩ = some (.int .u64 a0_0) := by
      have := hA.box; simp [World.cell?, this]
    have hb1 : wr.cell? ⟨w.heap.size, 1, none⟩ = some (.int .u64 a0_1) := by
      have := hA.box; simp [World.cell?, this]
    by_cases hi : i < 16
    · have hlt : decide ((i : Int) < 16) = true := decide_eq_true (by omega)
      obtain ⟨l1, hl1⟩ : ∃ l1, word_Text.row a0_0 a0_1 (i + 1) = some l1 := word_Text.row_le _ _ (i + 1) (15 - i) lz (by rw [show i + 1 + (15 - i) = 16 by omega]; exact HZ.out)
      obtain ⟨p1, p2, hp, rfl⟩ := word_Text.row_next hA.row hl1
      have HL1 := Aside0.mk hl1
      have HP := Aside0.mk hp
      clear hl1 hp hA
      have hlen : l.length = i := HA.out.len
      subst hlen
      have hfld := fun W => word_Text.fld p1 p2 W
      go_wp2_with (go_at_call 32; (with_reducible refine (word_Right.calls _ _ _ p1 p2 _ HP.out).mono ?_); rintro e w1 ⟨rfl, hb⟩; have HB1 := Aside0.mk hb; clear hb; have hc1 := (blk_cell (blk_below HA.out.arr HB1.out) l.length).trans (word_Text.cells_at l hi); have hf1 := blk_frozen (blk_below HA.out.arr HB1.out) l.length)
      go_roundg (15 - l.length)
      case measure => have := HD.out; omega
      case rel =>
        refine ⟨l.length + 1, l ++ [p2 % 256], by go_num, ⟨by have := HD.out; omega⟩, HL1.out, by simp, ?_, ?_, ?_⟩
        · exact blk_far (blk_below HA.out.box HB1.out) (by show w.heap.size ≠ w.heap.size + 1; omega) _
        · exact blk_put (blk_below HA.out.arr HB1.out) _ _ (word_Text.cells_set l _ hi)
        · exact below_set (HA.out.bel.trans (HB1.out.mono (HA.out.bel.size))) (by omega)
    · have hlt : decide ((i : Int) < 16) = false := decide_eq_false (by omega)
      obtain rfl : i = 16 := by have := HD.out; omega
      obtain rfl := Option.some.inj (hA.row.symm.trans HZ.out)
      have hlen := hA.len
      have hcv := own_string (P := Try.prog) (w := wr) (base := 0) (n := 16) (e' := 53) (v := .slice (some ⟨w.heap.size + 1, 0, none⟩) 16 16) (xs := l) Try.underlying48 Try.underlying5 Try.underlying9
        ⟨by rw [nums_length, hlen], .inr ⟨w.heap.size + 1, 16, word_Text.cells l, rfl, Nat.zero_le _, hA.arr, Nat.le_refl _, by decide, word_Text.cells_size l (by omega), by
          unfold word_Text.cells
          rw [List.take_append_of_le_length (by rw [nums_length]; omega), List.take_of_length_le (by rw [nums_length]; omega)]⟩⟩
      have HBel := Aside0.mk hA.bel
      clear hA hlen
      go_wp2
      go_ret
      exact ⟨rfl, HBel.out⟩

/-! ### word_Compare: function 40 -/
def word_Compare.f (a0_0 : Int) (a0_1 : Int) (a1_0 : Int) (a1_1 : Int) : Option Int := some (if a0_0 = a1_0 ∧ a0_1 = a1_1 then 0 else if a0_0 < a1_0 ∨ a0_0 = a1_0 ∧ a0_1 < a1_1 then -1 else 1)
theorem word_Compare.same (a b : Int) (w : World) : Calls Try.prog 40 #[.agg #[.int .u64 a, .int .u64 b], .agg #[.int .u64 a, .int .u64 b]] w fun e w' => e = .returned (.int .i64 0) ∧ Below w.heap.size w w' := by
  go_enter Try.func40, Try.ntmps40
  go_wp2
  go_ret
  exact ⟨rfl, ((Below.refl _ _).alloc (Nat.le_refl _) _).alloc (by simp) _⟩
theorem word_Compare.less1 (a b c d : Int) (h : a < c) (w : World) : Calls Try.prog 40 #[.agg #[.int .u64 a, .int .u64 b], .agg #[.int .u64 c, .int .u64 d]] w fun e w' => e = .returned (.int .i64 (-1)) ∧ Below w.heap.size w w' := by
  have h1 : (a == c) = false := by simp; omega
  have h2 : decide (a < c) = true := by simpa using h
  clear h
  go_enter Try.func40, Try.ntmps40
  go_wp2
  go_ret
  exact ⟨rfl, ((Below.refl _ _).alloc (Nat.le_refl _) _).alloc (by simp) _⟩
theorem word_Compare.less2 (a b d : Int) (h : b < d) (w : World) : Calls Try.prog 40 #[.agg #[.int .u64 a, .int .u64 b], .agg #[.int .u64 a, .int .u64 d]] w fun e w' => e = .returned (.int .i64 (-1)) ∧ Below w.heap.size w w' := by
  have h1 : (b == d) = false := by simp; omega
  have h2 : decide (b < d) = true := by simpa using h
  clear h
  go_enter Try.func40, Try.ntmps40
  go_wp2
  go_ret
  exact ⟨rfl, ((Below.refl _ _).alloc (Nat.le_refl _) _).alloc (by simp) _⟩
theorem word_Compare.more1 (a b c d : Int) (h : c < a) (w : World) : Calls Try.prog 40 #[.agg #[.int .u64 a, .int .u64 b], .agg #[.int .u64 c, .int .u64 d]] w fun e w' => e = .returned (.int .i64 1) ∧ Below w.heap.size w w' := by
  have h1 : (a == c) = false := by simp; omega
  have h2 : decide (a < c) = false := by simp; omega
  clear h
  go_enter Try.func40, Try.ntmps40
  go_wp2
  go_ret
  exact ⟨rfl, ((Below.refl _ _).alloc (Nat.le_refl _) _).alloc (by simp) _⟩
theorem word_Compare.more2 (a b d : Int) (h : d < b) (w : World) : Calls Try.prog 40 #[.agg #[.int .u64 a, .int .u64 b], .agg #[.int .u64 a, .int .u64 d]] w fun e w' => e = .returned (.int .i64 1) ∧ Below w.heap.size w w' := by
  have h1 : (b == d) = false := by simp; omega
  have h2 : decide (b < d) = false := by simp; omega
  clear h
  go_enter Try.func40, Try.ntmps40
  go_wp2
  go_ret
  exact ⟨rfl, ((Below.refl _ _).alloc (Nat.le_refl _) _).alloc (by simp) _⟩
theorem word_Compare.calls (a0_0 : Int) (a0_1 : Int) (a1_0 : Int) (a1_1 : Int) (r : Int) (w : World) (h : word_Compare.f a0_0 a0_1 a1_0 a1_1 = some r) :
    Calls Try.prog 40 #[.agg #[.int .u64 a0_0, .int .u64 a0_1], .agg #[.int .u64 a1_0, .int .u64 a1_1]] w fun e w' => e = .returned (.int .i64 r) ∧ Below w.heap.size w w' := by
  unfold word_Compare.f at h
  obtain rfl := Option.some.inj h
  rcases Int.lt_trichotomy a0_0 a1_0 with h1 | rfl | h1
  · rw [if_neg (by omega), if_pos (by omega)]; exact word_Compare.less1 _ _ _ _ h1 w
  · rcases Int.lt_trichotomy a0_1 a1_1 with h2 | rfl | h2
    · rw [if_neg (by omega), if_pos (by omega)]; exact word_Compare.less2 _ _ _ h2 w
    · rw [if_pos ⟨rfl, rfl⟩]; exact word_Compare.same _ _ w
    · rw [if_neg (by omega), if_neg (by omega)]; exact word_Compare.more2 _ _ _ h2 w
  · rw [if_neg (by omega), if_neg (by omega)]; exact word_Compare.more1 _ _ _ _ h1 w

-- NOT PRINTED: function 13 (turnoutlaw01_WordNames)

end Go.Proofs.Ytmplgmlfpfopbaa.PWordN
