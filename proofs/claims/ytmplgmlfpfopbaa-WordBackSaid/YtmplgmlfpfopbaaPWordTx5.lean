-- Written by wip/turnprint.py, a program of this session (the kit's print, turned).
import Derived.Test.YtmplgmlfpfopbaaPWordTx0
import Derived.Test.YtmplgmlfpfopbaaPWordTx2
namespace Go.Proofs.Ytmplgmlfpfopbaa.PWordT
open Go.RowKit Go.Proofs.YtmplgmlfpfopbaaW.PrintWords Go.Proofs.YtmplgmlfpfopbaaW.PrintLast Go.Proofs.YtmplgmlfpfopbaaW.PrintMore
attribute [local go_sem] max2_int min2_int max_two min_two max_three min_three max_four min_four   -- for this text's walks alone
set_option linter.unusedVariables false
set_option linter.unusedSimpArgs false

attribute [local go_sem high] xorA_u8 xorA_u16 xorA_u32 xorA_u64
/-! ### turnoutref01_Word: function 47 -/
def turnoutref01_Word.l0 : Nat → List Int → Int → Int → Int → Option (Int × Int)
  | 0, _, _, _, _ => none
  | k + 1, x0, x4, x172000, x172001 => if x4 < (x0.length : Int) then (if 0 ≤ x4 then (turnoutref01_Word.l0 k x0 (wrap64 (x4 + 1)) (IntKind.u64.wrap ((IntKind.u64.wrap (x172000 * 2)) + (IntKind.u64.wrap (Int.tdiv x172001 9223372036854775808)))) (IntKind.u64.wrap ((IntKind.u64.wrap (x172001 * 2)) + (IntKind.u64.wrap (rd x0 x4))))) else (none)) else (some (x172000, x172001))
def turnoutref01_Word.f (k : Nat) (l0 : List Int) : Option (Int × Int) := turnoutref01_Word.l0 k l0 0 0 0
theorem turnoutref01_Word.mono_l : ∀ k, (∀ y0 y1 y2 y3, LeO (turnoutref01_Word.l0 k y0 y1 y2 y3) (turnoutref01_Word.l0 (k + 1) y0 y1 y2 y3))
  | 0 => fun _ _ _ _ r h => by simp [turnoutref01_Word.l0] at h
  | k + 1 => by
   have ih0 := turnoutref01_Word.mono_l k
   ·
    intro y0 y1 y2 y3
    unfold turnoutref01_Word.l0
    repeat' first
    | (with_reducible exact ih0 _ _ _ _)
    | (with_reducible exact LeO.refl _)
    | (with_reducible exact LeO.none _)
    | (with_reducible refine LeO.ite ?_ ?_)
    | (with_reducible refine LeO.bind ?_ (fun _ => ?_))
    | exact ih0 _ _ _ _
    | exact LeO.none _
    | refine LeO.ite ?_ ?_
    | refine LeO.bind ?_ (fun _ => ?_)
theorem turnoutref01_Word.mono : ∀ a0 k, LeO (turnoutref01_Word.f k a0) (turnoutref01_Word.f (k + 1) a0) := by
  intro a0 k
  have ih0 := turnoutref01_Word.mono_l k
  unfold turnoutref01_Word.f
  repeat' first
    | (with_reducible exact ih0 _ _ _ _)
    | (with_reducible exact LeO.refl _)
    | (with_reducible exact LeO.none _)
    | (with_reducible refine LeO.ite ?_ ?_)
    | (with_reducible refine LeO.bind ?_ (fun _ => ?_))
    | exact ih0 _ _ _ _
    | exact LeO.none _
    | refine LeO.ite ?_ ?_
    | refine LeO.bind ?_ (fun _ => ?_)
def turnoutref01_Word.T6 : Bool × List (List Nat × List Nat) := (true, [([], []), ([0], [0]), ([1], [1]), ([], []), ([], []), ([3, 4], [3, 4]), ([5], [5]), ([6], [6]), ([2, 7], [2, 7]), ([0, 1, 2, 3, 4, 5, 6, 7, 8], []), ([9, 8, 0, 1, 2, 3, 4, 5, 6, 7, 8], [8, 9])])
def turnoutref01_Word.B6 : List Nat := [0, 1, 3, 0, 0, 24, 56, 120, 255, 511, 1023]
theorem turnoutref01_Word.tab6 : rtab .any (opsOf Try.f47 6) = turnoutref01_Word.T6 := by kernel_rfl
theorem turnoutref01_Word.bits6 : waitsOk turnoutref01_Word.T6.2 turnoutref01_Word.B6 = true := by kernel_rfl
set_option maxHeartbeats 8000000 in
set_option maxRecDepth 100000 in
theorem turnoutref01_Word.calls (k : Nat) (A0 : Option Addr) (c0 : Nat) (l0 : List Int) (r1 : Int) (r2 : Int) (w : World) (hr0 : Kd.C (Kd.int .u8) w A0 l0.length l0) (hc0 : l0.length ≤ c0) (h : turnoutref01_Word.f k l0 = some (r1, r2)) :
   Calls Try.prog 47 #[.slice A0 l0.length c0] w fun e w' => e = .returned (.agg #[.int .u64 r1, .int .u64 r2]) ∧ Below w.heap.size w w' := by
  have hu24 := Try.underlying24
  have HR0 := Aside0.mk hr0
  have HC0 := Aside0.mk hc0
  clear hr0 hc0
  have HB := Aside0.mk (Below.refl w.heap.size w)
  have H : (turnoutref01_Word.l0 k l0 0 0 0) = some (r1, r2) := h
  clear h
  have H' := Aside0.mk H
  clear H
  go_enter Try.func47, Try.ntmps47
  go_wp2_with (first | ((with_reducible refine gate_dst (N := 2) rfl ?_); refine box_event ?hg (N := 2) ?hd (cs := #[.int .u64 0, .int .u64 0]) (t := 24) ?hr ?_; (case hd => rfl); (case hg => rfl); (case hr => first | (go_simp; done) | (go_simp; rfl)); intro gb170 hg w2 hbox hb; have BK170 := Aside0.mk (hbox); have GW170 := Aside0.mk ((by rw [hg]; exact (below_size (by repeat (first | (with_reducible first | exact HB.out | apply below_alloc | apply pw_below_drewN | apply below_drew1) | exact HB.out))) : w.heap.size ≤ gb170)); have GE170 := Aside0.mk ((by rw [hg]; exact (below_size (by repeat (first | (with_reducible first | exact HB.out | apply below_alloc | apply pw_below_drewN | apply below_drew1) | exact HB.out))) : w.heap.size ≤ gb170)); replace HB := Aside0.mk (below_step (by repeat (first | (with_reducible first | exact HB.out | apply below_alloc | apply pw_below_drewN | apply below_drew1) | exact HB.out)) hb); clear hb hbox hg) | ((with_reducible refine gate_dst (N := 3) rfl ?_); refine box_event ?hg (N := 3) ?hd (cs := #[.int .u64 0, .int .u64 0]) (t := 24) ?hr ?_; (case hd => rfl); (case hg => rfl); (case hr => first | (go_simp; done) | (go_simp; rfl)); intro gb171 hg w3 hbox hb; have BK171 := Aside0.mk (hbox); have GW171 := Aside0.mk ((by rw [hg]; exact (below_size (by repeat (first | (with_reducible first | exact HB.out | apply below_alloc | apply pw_below_drewN | apply below_drew1 | refine below_set ?_ GE170.out) | exact HB.out))) : w.heap.size ≤ gb171)); have GE171 := Aside0.mk ((by rw [hg]; exact (below_size (by repeat (first | (with_reducible first | exact HB.out | apply below_alloc | apply pw_below_drewN | apply below_drew1 | refine below_set ?_ GE170.out) | exact HB.out))) : w.heap.size ≤ gb171)); replace HB := Aside0.mk (below_step (by repeat (first | (with_reducible first | exact HB.out | apply below_alloc | apply pw_below_drewN | apply below_drew1 | refine below_set ?_ GE170.out) | exact HB.out)) hb); have NB170_171 := Aside0.mk ((by rw [hg]; exact Nat.ne_of_lt (blk_lt (bkA BK170.out)) : gb170 ≠ gb171)); have NB171_170 := Aside0.mk ((by rw [hg]; exact Nat.ne_of_gt (blk_lt (bkA BK170.out)) : gb171 ≠ gb170)); replace BK170 := Aside0.mk (blk_below (bkA BK170.out) hb); clear hb hbox hg))
  go_loopg [4] k (fun kq v4 w' => ∃ (x4_1 : Int) (x172000_1 : Int) (x172001_1 : Int), v4 = .int .i64 x4_1 ∧ Aside0 (turnoutref01_Word.l0 kq l0 x4_1 x172000_1 x172001_1 = some (r1, r2)) ∧ Aside0 (kq ≤ k) ∧ Aside0 (w'.heap[gb170]? = some (.cells #[.int .u64 0, .int .u64 0] 24 (0, 0))) ∧ Aside0 (w'.heap[gb171]? = some (.cells #[.int .u64 x172000_1, .int .u64 x172001_1] 24 (0, 0))) ∧ Aside0 (Below w.heap.size w w'))
  case atStart => exact ⟨(0), (0), (0), (by first | rfl | (simp; done) | (simp [*]; done)), H', ⟨Nat.le_refl _⟩, ⟨by (with_reducible repeat (first | refine blk_drewN ?_ _ | refine blk_drew ?_ | refine blk_alloc ?_ _)); exact BK170.out⟩, ⟨by (with_reducible repeat (first | refine blk_drewN ?_ _ | refine blk_drew ?_ | refine blk_alloc ?_ _)); exact BK171.out⟩, ⟨by repeat (first | (with_reducible first | exact HB.out | apply below_alloc | apply pw_below_drewN | apply below_drew1 | refine below_set ?_ GE170.out | refine below_set ?_ GE171.out) | exact HB.out)⟩⟩
  case round =>
   clear H'
   try clear p2
   obtain ⟨x4_1, x172000_1, x172001_1, rfl, HA, HK1, BK170, BK171, HB⟩ := hrel
   cases gk with
   | zero => exact absurd HA.out (by simp [turnoutref01_Word.l0])
   | succ k1 =>
    have H := HA.out
    clear HA
    simp only [turnoutref01_Word.l0] at H
    by_cases c4 : x4_1 < (l0.length : Int)
    ·
     rw [if_pos c4] at H
     have c4b0 : decide (x4_1 < (l0.length : Int)) = true := decide_eq_true c4
     clear c4
     by_cases c5 : 0 ≤ x4_1
     ·
      rw [if_pos c5] at H
      have c5b0 : decide (0 ≤ x4_1) = true := decide_eq_true c5
      clear c5
      have H' := Aside0.mk H
      clear H
      have hnb6 := NB171_170.out
      have hnc6 := NB170_171.out
      have hcz7_0 : wr.cell? ⟨gb171, 0, none⟩ = some (.int .u64 x172000_1) := (blk_cell BK171.out 0).trans rfl
      have hcz7_1 : wr.cell? ⟨gb171, 1, none⟩ = some (.int .u64 x172001_1) := (blk_cell BK171.out 1).trans rfl
      have hfz7_0 := blk_frozen BK171.out 0
      have hfz7_1 := blk_frozen BK171.out 1
      try go_wp2
      have n0_ : Aside0 ((wr.setCell ⟨gb171, 0, none⟩ (.int .u64 (IntKind.u64.wrap ((IntKind.u64.wrap (x172000_1 * 2)) + (IntKind.u64.wrap (Int.tdiv x172001_1 9223372036854775808)))))).heap[gb170]? = some (.cells #[.int .u64 0, .int .u64 0] 24 (0, 0))) := ⟨by (with_reducible repeat (first | refine blk_drewN ?_ _ | refine blk_drew ?_ | refine blk_alloc ?_ _)); refine blk_far ?_ NB170_171.out _; (with_reducible repeat (first | refine blk_drewN ?_ _ | refine blk_drew ?_ | refine blk_alloc ?_ _)); exact BK170.out⟩
      have n1_ : Aside0 ((wr.setCell ⟨gb171, 0, none⟩ (.int .u64 (IntKind.u64.wrap ((IntKind.u64.wrap (x172000_1 * 2)) + (IntKind.u64.wrap (Int.tdiv x172001_1 9223372036854775808)))))).heap[gb171]? = some (.cells #[.int .u64 (IntKind.u64.wrap ((IntKind.u64.wrap (x172000_1 * 2)) + (IntKind.u64.wrap (Int.tdiv x172001_1 9223372036854775808)))), .int .u64 x172001_1] 24 (0, 0))) := ⟨by (with_reducible repeat (first | refine blk_drewN ?_ _ | refine blk_drew ?_ | refine blk_alloc ?_ _)); refine blk_put (cs := #[.int .u64 x172000_1, .int .u64 x172001_1]) ?_ 0 _ rfl; (with_reducible repeat (first | refine blk_drewN ?_ _ | refine blk_drew ?_ | refine blk_alloc ?_ _)); exact BK171.out⟩
      have n2_ : Aside0 (Below w.heap.size w (wr.setCell ⟨gb171, 0, none⟩ (.int .u64 (IntKind.u64.wrap ((IntKind.u64.wrap (x172000_1 * 2)) + (IntKind.u64.wrap (Int.tdiv x172001_1 9223372036854775808))))))) := ⟨by repeat (first | (with_reducible first | exact HB.out | apply below_alloc | apply pw_below_drewN | apply below_drew1 | refine below_set ?_ GE170.out | refine below_set ?_ GE171.out) | exact HB.out)⟩
      (try clear BK170); (try clear BK171); (try clear HB); generalize (wr.setCell ⟨gb171, 0, none⟩ (.int .u64 (IntKind.u64.wrap ((IntKind.u64.wrap (x172000_1 * 2)) + (IntKind.u64.wrap (Int.tdiv x172001_1 9223372036854775808)))))) = w8 at n0_ n1_ n2_ ⊢; have BK170 := n0_; have BK171 := n1_; have HB := n2_; clear n0_ n1_ n2_; replace BK170 := Aside0.mk (blk_drew BK170.out); replace BK171 := Aside0.mk (blk_drew BK171.out); replace HB := Aside0.mk (below_drew1 HB.out)
      have p172 : 0 ≤ (x4_1 : Int) := of_decide_eq_true (by first | (with_reducible assumption) | assumption)
      have q172 : x4_1 < (l0.length : Int) := of_decide_eq_true (by first | (with_reducible assumption) | assumption)
      obtain ⟨ad172, e172, hx172_0⟩ := Kd.at_int HR0.out x4_1 p172 q172
      have hw172_0 := hx172_0
      cases e172
      replace hx172_0 := (HB.out.cell (World.block_lt_of_cell? w _ hx172_0)).trans hx172_0
      replace p172 := eq_true p172
      replace q172 := eq_true q172
      refine start_ (n := 11) (S := fun w' => w'.cell? ⟨gb171, 0, none⟩ = some (.int .u64 (IntKind.u64.wrap ((IntKind.u64.wrap (x172000_1 * 2)) + (IntKind.u64.wrap (Int.tdiv x172001_1 9223372036854775808))))) ∧ w'.cell? ⟨gb171, 1, none⟩ = some (.int .u64 x172001_1) ∧ w'.cell? (ad172.add (x4_1).toNat) = some (.int .u8 (rd l0 x4_1))) (ds := [10]) #[F,F,F,F,F,F,F,F,F,F,F] (by kernel_rfl) rfl rfl ⟨(blk_cell BK171.out 0).trans rfl, (blk_cell BK171.out 1).trans rfl, ((HB.out.cell (World.block_lt_of_cell? w _ hw172_0)).trans hw172_0)⟩ (fun hHeld => ?_); refine with_tabW turnoutref01_Word.tab6 turnoutref01_Word.bits6 (fun HT_ HW_ => ?_)
      generalize w8.drew = w9 at BK170 BK171 HB hx172_0 hHeld ⊢
      refine pure_ (i := 0) (N := some 19) (v := ?_) (a' := ?_) #[T,F,F,F,F,F,F,F,F,F,F] rfl rfl (any_of HT_.out (by kernel_rfl)) (fun _ _ _ h => h) (Or.inl ⟨by rfl, ?_⟩) ?_ ?_
      rotate_left
      ·
       intro w'
       go_simp
       with_reducible rfl
      rotate_left
      ·
       simp only [Act.put, List.setIfInBounds_toArray, List.set_cons_zero, List.set_cons_succ, i64_w, i32_w]
       rfl
      refine pure_ (i := 3) (N := some 22) (v := ?_) (a' := ?_) #[T,F,F,T,F,F,F,F,F,F,F] rfl rfl (any_of HT_.out (by kernel_rfl)) (fun _ _ _ h => h) (Or.inl ⟨by rfl, ?_⟩) ?_ ?_
      rotate_left
      ·
       intro w'
       go_simp
       with_reducible rfl
      rotate_left
      ·
       simp only [Act.put, List.setIfInBounds_toArray, List.set_cons_zero, List.set_cons_succ, i64_w, i32_w]
       rfl
      refine pure_ (i := 4) (N := some 23) (v := ?_) (a' := ?_) #[T,F,F,T,T,F,F,F,F,F,F] rfl rfl (any_of HT_.out (by kernel_rfl)) (fun _ _ _ h => h) (Or.inl ⟨by rfl, ?_⟩) ?_ ?_
      rotate_left
      ·
       intro w'
       go_simp
       with_reducible rfl
      rotate_left
      ·
       simp only [Act.put, List.setIfInBounds_toArray, List.set_cons_zero, List.set_cons_succ, i64_w, i32_w]
       rfl
      refine pure_ (i := 5) (N := some 24) (v := ?_) (a' := ?_) #[T,F,F,T,T,T,F,F,F,F,F] rfl rfl (any_of HT_.out (by kernel_rfl)) (fun _ _ _ h => h) (Or.inl ⟨by rfl, ?_⟩) ?_ ?_
      rotate_left
      ·
       intro w'
       go_simp
       with_reducible rfl
      rotate_left
      ·
       simp only [Act.put, List.setIfInBounds_toArray, List.set_cons_zero, List.set_cons_succ, i64_w, i32_w]
       rfl
      refine take_ (i := 1) (N := some 20) (v := ?_) (a' := ?_) #[T,T,F,T,T,T,F,F,F,F,F] rfl rfl (take_ofW HT_.out HW_.out (by kernel_rfl)) (fun _ _ _ h => h) (Or.inl ⟨by rfl, ?_⟩) hHeld ?_ ?_
      rotate_left
      ·
       rintro w' ⟨s0, s1, s2⟩
       go_simp
       with_reducible rfl
      rotate_left
      ·
       simp only [Act.put, List.setIfInBounds_toArray, List.set_cons_zero, List.set_cons_succ, i64_w, i32_w]
       rfl
      refine pure_ (i := 2) (N := some 21) (v := ?_) (a' := ?_) #[T,T,T,T,T,T,F,F,F,F,F] rfl rfl (any_of HT_.out (by kernel_rfl)) (fun _ _ _ h => h) (Or.inl ⟨by rfl, ?_⟩) ?_ ?_
      rotate_left
      ·
       intro w'
       go_simp
       with_reducible rfl
      rotate_left
      ·
       simp only [Act.put, List.setIfInBounds_toArray, List.set_cons_zero, List.set_cons_succ, i64_w, i32_w]
       rfl
      refine take_ (i := 6) (N := some 25) (v := ?_) (a' := ?_) #[T,T,T,T,T,T,T,F,F,F,F] rfl rfl (take_ofW HT_.out HW_.out (by kernel_rfl)) (fun _ _ _ h => h) (Or.inl ⟨by rfl, ?_⟩) hHeld ?_ ?_
      rotate_left
      ·
       rintro w' ⟨s0, s1, s2⟩
       go_simp
       with_reducible rfl
      rotate_left
      ·
       simp only [Act.put, List.setIfInBounds_toArray, List.set_cons_zero, List.set_cons_succ, i64_w, i32_w]
       rfl
      refine pure_ (i := 7) (N := some 26) (v := ?_) (a' := ?_) #[T,T,T,T,T,T,T,T,F,F,F] rfl rfl (any_of HT_.out (by kernel_rfl)) (fun _ _ _ h => h) (Or.inl ⟨by rfl, ?_⟩) ?_ ?_
      rotate_left
      ·
       intro w'
       go_simp
       with_reducible rfl
      rotate_left
      ·
       simp only [Act.put, List.setIfInBounds_toArray, List.set_cons_zero, List.set_cons_succ, i64_w, i32_w]
       rfl
      refine pure_ (i := 8) (N := some 27) (v := ?_) (a' := ?_) #[T,T,T,T,T,T,T,T,T,F,F] rfl rfl (any_of HT_.out (by kernel_rfl)) (fun _ _ _ h => h) (Or.inl ⟨by rfl, ?_⟩) ?_ ?_
      rotate_left
      ·
       intro w'
       go_simp
       with_reducible rfl
      rotate_left
      ·
       simp only [Act.put, List.setIfInBounds_toArray, List.set_cons_zero, List.set_cons_succ, i64_w, i32_w]
       rfl
      refine pure_ (i := 9) (N := some 28) (v := ?_) (a' := ?_) #[T,T,T,T,T,T,T,T,T,T,F] rfl rfl (any_of HT_.out (by kernel_rfl)) (fun _ _ _ h => h) (Or.inl ⟨by rfl, ?_⟩) ?_ ?_
      rotate_left
      ·
       intro w'
       go_simp
       with_reducible rfl
      rotate_left
      ·
       simp only [Act.put, List.setIfInBounds_toArray, List.set_cons_zero, List.set_cons_succ, i64_w, i32_w]
       rfl
      refine last_ (i := 10) (N := none) #[T,T,T,T,T,T,T,T,T,T,T] rfl rfl (one_of HT_.out (by kernel_rfl)) (by decide) (fun K hK => ?_)
      have hs10 : w9.cell? ⟨gb171, 1, none⟩ = some (.int .u64 x172001_1) := (blk_cell BK171.out 1).trans rfl
      have hfs10 := blk_frozen BK171.out 1
      have hns10_0 := NB170_171.out
      have hms10_0 := NB171_170.out
      refine skip_ (w1 := ?_) (by rfl) rfl ?_ ?_
      rotate_left
      ·
       go_simp
       rfl
      refine hK.out _ _ ?_
      clear hK K
      refine done_ (done_of HT_.out (by kernel_rfl)) ?_
      try go_wp2
      go_roundg k1
      case measure => have := HK1.out; omega
      case rel => exact ⟨(wrap64 (x4_1 + 1)), (IntKind.u64.wrap ((IntKind.u64.wrap (x172000_1 * 2)) + (IntKind.u64.wrap (Int.tdiv x172001_1 9223372036854775808)))), (IntKind.u64.wrap ((IntKind.u64.wrap (x172001_1 * 2)) + (IntKind.u64.wrap (rd l0 x4_1)))), (by first | rfl | (simp; done) | (simp [*]; done)), H', ⟨by have := HK1.out; omega⟩, ⟨by (with_reducible repeat (first | refine blk_drewN ?_ _ | refine blk_drew ?_ | refine blk_alloc ?_ _)); refine blk_far ?_ NB170_171.out _; (with_reducible repeat (first | refine blk_drewN ?_ _ | refine blk_drew ?_ | refine blk_alloc ?_ _)); exact BK170.out⟩, ⟨by (with_reducible repeat (first | refine blk_drewN ?_ _ | refine blk_drew ?_ | refine blk_alloc ?_ _)); refine blk_put (cs := #[.int .u64 (IntKind.u64.wrap ((IntKind.u64.wrap (x172000_1 * 2)) + (IntKind.u64.wrap (Int.tdiv x172001_1 9223372036854775808)))), .int .u64 x172001_1]) ?_ 1 _ rfl; (with_reducible repeat (first | refine blk_drewN ?_ _ | refine blk_drew ?_ | refine blk_alloc ?_ _)); exact BK171.out⟩, ⟨by repeat (first | (with_reducible first | exact HB.out | apply below_alloc | apply pw_below_drewN | apply below_drew1 | refine below_set ?_ GE170.out | refine below_set ?_ GE171.out) | exact HB.out)⟩⟩
     ·
      rw [if_neg c5] at H
      exact absurd H (by simp)
    ·
     rw [if_neg c4] at H
     have c4b0 : decide (x4_1 < (l0.length : Int)) = false := decide_eq_false c4
     clear c4
     simp only [Option.some.injEq, Prod.mk.injEq] at H
     obtain ⟨rfl, rfl⟩ := H
     have hnb11 := NB171_170.out
     have hnc11 := NB170_171.out
     have hcz12_0 : wr.cell? ⟨gb171, 0, none⟩ = some (.int .u64 x172000_1) := (blk_cell BK171.out 0).trans rfl
     have hcz12_1 : wr.cell? ⟨gb171, 1, none⟩ = some (.int .u64 x172001_1) := (blk_cell BK171.out 1).trans rfl
     have hfz12_0 := blk_frozen BK171.out 0
     have hfz12_1 := blk_frozen BK171.out 1
     have hcz13_0 : wr.cell? ⟨gb170, 0, none⟩ = some (.int .u64 0) := (blk_cell BK170.out 0).trans rfl
     have hcz13_1 : wr.cell? ⟨gb170, 1, none⟩ = some (.int .u64 0) := (blk_cell BK170.out 1).trans rfl
     have hfz13_0 := blk_frozen BK170.out 0
     have hfz13_1 := blk_frozen BK170.out 1
     go_wp2
     refine bodyPost_ret (results_cell_row rfl _ _ gb170 24 #[.int .u64 x172000_1, .int .u64 x172001_1] (0, 0) _ rfl (by (with_reducible repeat (first | refine blk_drewN ?_ _ | refine blk_drew ?_ | refine blk_alloc ?_ _)); refine blk_put (cs := #[.int .u64 x172000_1, .int .u64 0]) ?_ 1 _ rfl; (with_reducible repeat (first | refine blk_drewN ?_ _ | refine blk_drew ?_ | refine blk_alloc ?_ _)); refine blk_put (cs := #[.int .u64 0, .int .u64 0]) ?_ 0 _ rfl; (with_reducible repeat (first | refine blk_drewN ?_ _ | refine blk_drew ?_ | refine blk_alloc ?_ _)); exact BK170.out) Try.underlying24 rfl (by kernel_rfl)) rfl ?_
     exact ⟨by first | rfl | (simp [errW_none, errW_some] <;> rfl) | (simp [*, errW_none, errW_some] <;> rfl), by repeat (first | (with_reducible first | exact HB.out | apply below_alloc | apply pw_below_drewN | apply below_drew1 | refine below_set ?_ GE170.out | refine below_set ?_ GE171.out) | exact HB.out)⟩

/-! ### turnoutref01_Of: function 36 -/
def turnoutref01_Of.l0 : Nat → ByteArray → List Int → Int → Option (Int × Int × Int)
  | 0, _, _, _ => none
  | k + 1, x0, x4, x5 => if x5 < (wrap64 (8 * (x0.size : Int))) then (if 0 ≤ (wrap64 (Int.tdiv x5 8)) then (if (wrap64 (Int.tdiv x5 8)) < (x0.size : Int) then (if 0 ≤ (IntKind.u64.wrap (wrap64 (7 - (Int.tmod x5 8)))) then (if x4.length < 140737488355328 then (turnoutref01_Of.l0 k x0 (x4 ++ [Int.tmod (shr .u8 (bt x0 (wrap64 (Int.tdiv x5 8))) (IntKind.u64.wrap (wrap64 (7 - (Int.tmod x5 8))))) 2]) (wrap64 (x5 + 1))) else (none)) else (none)) else (none)) else (none)) else ((turnoutref01_Word.f k x4).bind fun bt177 => (some (bt177.1, bt177.2, 0)))
def turnoutref01_Of.f (k : Nat) (a0 : ByteArray) : Option (Int × Int × Int) := if (a0.size : Int) > 16 then (some (0, 0, 5)) else (turnoutref01_Of.l0 k a0 ([] : List Int) 0)
theorem turnoutref01_Of.mono_l : ∀ k, (∀ y0 y1 y2, LeO (turnoutref01_Of.l0 k y0 y1 y2) (turnoutref01_Of.l0 (k + 1) y0 y1 y2))
  | 0 => fun _ _ _ r h => by simp [turnoutref01_Of.l0] at h
  | k + 1 => by
   have ih0 := turnoutref01_Of.mono_l k
   ·
    intro y0 y1 y2
    unfold turnoutref01_Of.l0
    repeat' first
    | (with_reducible exact ih0 _ _ _)
    | (with_reducible exact turnoutref01_Word.mono _ _)
    | (with_reducible exact LeO.refl _)
    | (with_reducible exact LeO.none _)
    | (with_reducible refine LeO.ite ?_ ?_)
    | (with_reducible refine LeO.bind ?_ (fun _ => ?_))
    | exact ih0 _ _ _
    | exact turnoutref01_Word.mono _ _
    | exact LeO.none _
    | refine LeO.ite ?_ ?_
    | refine LeO.bind ?_ (fun _ => ?_)
theorem turnoutref01_Of.mono : ∀ a0 k, LeO (turnoutref01_Of.f k a0) (turnoutref01_Of.f (k + 1) a0) := by
  intro a0 k
  have ih0 := turnoutref01_Of.mono_l k
  unfold turnoutref01_Of.f
  repeat' first
    | (with_reducible exact ih0 _ _ _)
    | (with_reducible exact turnoutref01_Word.mono _ _)
    | (with_reducible exact LeO.refl _)
    | (with_reducible exact LeO.none _)
    | (with_reducible refine LeO.ite ?_ ?_)
    | (with_reducible refine LeO.bind ?_ (fun _ => ?_))
    | exact ih0 _ _ _
    | exact turnoutref01_Word.mono _ _
    | exact LeO.none _
    | refine LeO.ite ?_ ?_
    | refine LeO.bind ?_ (fun _ => ?_)
set_option maxHeartbeats 8000000 in
set_option maxRecDepth 100000 in
theorem turnoutref01_Of.calls (k : Nat) (a0 : ByteArray) (r1 : Int) (r2 : Int) (r3 : Int) (w : World) (h : turnoutref01_Of.f k a0 = some (r1, r2, r3)) :
   Calls Try.prog 36 #[.string a0] w fun e w' => e = .returned (.tuple #[.agg #[.int .u64 r1, .int .u64 r2], .int .i64 r3]) ∧ Below w.heap.size w w' := by
  have hu24 := Try.underlying24
  have HB := Aside0.mk (Below.refl w.heap.size w)
  have H : (if (a0.size : Int) > 16 then (some (0, 0, 5)) else (turnoutref01_Of.l0 k a0 ([] : List Int) 0)) = some (r1, r2, r3) := h
  clear h
  by_cases c2 : (a0.size : Int) > 16
  ·
   rw [if_pos c2] at H
   have c2b0 : decide (16 < (a0.size : Int)) = true := decide_eq_true c2
   have c2b1 : decide (16 < a0.size) = true := decide_eq_true (by omega)
   clear c2
   simp only [Option.some.injEq, Prod.mk.injEq] at H
   obtain ⟨rfl, rfl, rfl⟩ := H
   go_enter Try.func36, Try.ntmps36
   go_wp2_with (first | ((with_reducible refine gate_dst (N := 2) rfl ?_); refine box_event ?hg (N := 2) ?hd (cs := #[.int .u64 0, .int .u64 0]) (t := 24) ?hr ?_; (case hd => rfl); (case hg => rfl); (case hr => first | (go_simp; done) | (go_simp; rfl)); intro gb173 hg w3 hbox hb; have BK173 := Aside0.mk (hbox); have GW173 := Aside0.mk ((by rw [hg]; exact (below_size (by repeat (first | (with_reducible first | exact HB.out | apply below_alloc | apply pw_below_drewN | apply below_drew1) | exact HB.out))) : w.heap.size ≤ gb173)); have GE173 := Aside0.mk ((by rw [hg]; exact (below_size (by repeat (first | (with_reducible first | exact HB.out | apply below_alloc | apply pw_below_drewN | apply below_drew1) | exact HB.out))) : w.heap.size ≤ gb173)); replace HB := Aside0.mk (below_step (by repeat (first | (with_reducible first | exact HB.out | apply below_alloc | apply pw_below_drewN | apply below_drew1) | exact HB.out)) hb); clear hb hbox hg; have hcz4_0 : w3.cell? ⟨gb173, 0, none⟩ = some (.int .u64 0) := (blk_cell BK173.out 0).trans rfl; have hcz4_1 : w3.cell? ⟨gb173, 1, none⟩ = some (.int .u64 0) := (blk_cell BK173.out 1).trans rfl; have hfz4_0 := blk_frozen BK173.out 0; have hfz4_1 := blk_frozen BK173.out 1))
   refine bodyPost_ret (results_ct rfl _ _ gb173 24 #[.int .u64 0, .int .u64 0] (0, 0) _ rfl (by (with_reducible repeat (first | refine blk_drewN ?_ _ | refine blk_drew ?_ | refine blk_alloc ?_ _)); refine blk_put (cs := #[.int .u64 0, .int .u64 0]) ?_ 1 _ rfl; (with_reducible repeat (first | refine blk_drewN ?_ _ | refine blk_drew ?_ | refine blk_alloc ?_ _)); refine blk_put (cs := #[.int .u64 0, .int .u64 0]) ?_ 0 _ rfl; (with_reducible repeat (first | refine blk_drewN ?_ _ | refine blk_drew ?_ | refine blk_alloc ?_ _)); exact BK173.out) Try.underlying24 rfl (by kernel_rfl)) rfl ?_
   exact ⟨by first | rfl | (simp [errW_none, errW_some] <;> rfl) | (simp [*, errW_none, errW_some] <;> rfl), by repeat (first | (with_reducible first | exact HB.out | apply below_alloc | apply pw_below_drewN | apply below_drew1 | refine below_set ?_ GE173.out) | exact HB.out)⟩
  ·
   rw [if_neg c2] at H
   have c2b0 : decide (16 < (a0.size : Int)) = false := decide_eq_false c2
   have c2b1 : decide (16 < a0.size) = false := decide_eq_false (by omega)
   clear c2
   have H' := Aside0.mk H
   clear H
   go_enter Try.func36, Try.ntmps36
   go_wp2_with (first | ((with_reducible refine gate_dst (N := 2) rfl ?_); refine box_event ?hg (N := 2) ?hd (cs := #[.int .u64 0, .int .u64 0]) (t := 24) ?hr ?_; (case hd => rfl); (case hg => rfl); (case hr => first | (go_simp; done) | (go_simp; rfl)); intro gb173 hg w5 hbox hb; have BK173 := Aside0.mk (hbox); have GW173 := Aside0.mk ((by rw [hg]; exact (below_size (by repeat (first | (with_reducible first | exact HB.out | apply below_alloc | apply pw_below_drewN | apply below_drew1) | exact HB.out))) : w.heap.size ≤ gb173)); have GE173 := Aside0.mk ((by rw [hg]; exact (below_size (by repeat (first | (with_reducible first | exact HB.out | apply below_alloc | apply pw_below_drewN | apply below_drew1) | exact HB.out))) : w.heap.size ≤ gb173)); replace HB := Aside0.mk (below_step (by repeat (first | (with_reducible first | exact HB.out | apply below_alloc | apply pw_below_drewN | apply below_drew1) | exact HB.out)) hb); clear hb hbox hg))
   go_loopg [4, 5] k (fun kq v4 v5 w' => ∃ (x4_1 : List Int) (x5_1 : Int), v5 = .int .i64 x5_1 ∧ Aside0 (turnoutref01_Of.l0 kq a0 x4_1 x5_1 = some (r1, r2, r3)) ∧ Aside0 (kq ≤ k) ∧ Aside0 (Kd.R (Kd.int .u8) 5 w' w.heap.size (fun _ => True) v4 x4_1) ∧ Aside0 (w'.heap[gb173]? = some (.cells #[.int .u64 0, .int .u64 0] 24 (0, 0))) ∧ Aside0 (Below w.heap.size w w'))
   case atStart => exact ⟨(([] : List Int)), (0), (by first | rfl | (simp; done) | (simp [*]; done)), H', ⟨Nat.le_refl _⟩, ⟨by first | exact Kd.R_nil _ _ _ _ _ | exact Kd.N_nil _ _ _ _ _ | exact Kd.V_nil _ _ _ _ _ | exact Kd.Q_nil _ _ _ _ _ | exact Kd.S_nil _ _ _ _ _⟩, ⟨by (with_reducible repeat (first | refine blk_drewN ?_ _ | refine blk_drew ?_ | refine blk_alloc ?_ _)); exact BK173.out⟩, ⟨by repeat (first | (with_reducible first | exact HB.out | apply below_alloc | apply pw_below_drewN | apply below_drew1 | refine below_set ?_ GE173.out) | exact HB.out)⟩⟩
   case round =>
    clear H'
    try clear c2
    try clear c2b0
    try clear c2b1
    try clear p2
    try clear c3
    try clear hcz4_0
    try clear hcz4_1
    try clear hfz4_0
    try clear hfz4_1
    obtain ⟨x4_1, x5_1, rfl, HA, HK1, HO_4, BK173, HB⟩ := hrel
    cases gk with
    | zero => exact absurd HA.out (by simp [turnoutref01_Of.l0])
    | succ k1 =>
     have H := HA.out
     clear HA
     simp only [turnoutref01_Of.l0] at H
     by_cases c6 : x5_1 < (wrap64 (8 * (a0.size : Int)))
     ·
      rw [if_pos c6] at H
      have c6b0 : decide (x5_1 < (wrap64 (8 * (a0.size : Int)))) = true := decide_eq_true c6
      clear c6
      obtain ⟨ji7, hji7⟩ : ∃ j_ : Int, (wrap64 (Int.tdiv x5_1 8)) = j_ := ⟨_, rfl⟩
      replace H : (if 0 ≤ (ji7) then (if (ji7) < (a0.size : Int) then (if 0 ≤ (IntKind.u64.wrap (wrap64 (7 - (Int.tmod x5_1 8)))) then (if x4_1.length < 140737488355328 then (turnoutref01_Of.l0 k1 a0 (x4_1 ++ [Int.tmod (shr .u8 (bt a0 (ji7)) (IntKind.u64.wrap (wrap64 (7 - (Int.tmod x5_1 8))))) 2]) (wrap64 (x5_1 + 1))) else (none)) else (none)) else (none)) else (none)) = some (r1, r2, r3) := by first | (rw [hji7] at H; exact H) | (simp only [hji7] at H ⊢; exact H)
      have hji7w : (IntKind.i64.wrap (Int.tdiv x5_1 8)) = ji7 := (i64_w _).trans hji7
      by_cases c8 : 0 ≤ (ji7)
      ·
       rw [if_pos c8] at H
       have c8b0 : decide (0 ≤ (ji7)) = true := decide_eq_true c8
       clear c8
       by_cases c9 : (ji7) < (a0.size : Int)
       ·
        rw [if_pos c9] at H
        have c9b0 : decide ((ji7) < (a0.size : Int)) = true := decide_eq_true c9
        clear c9
        obtain ⟨ji11, hji11⟩ : ∃ j_ : Int, (IntKind.u64.wrap (wrap64 (7 - (Int.tmod x5_1 8)))) = j_ := ⟨_, rfl⟩
        replace H : (if 0 ≤ (ji11) then (if x4_1.length < 140737488355328 then (turnoutref01_Of.l0 k1 a0 (x4_1 ++ [Int.tmod (shr .u8 (bt a0 (ji7)) (ji11)) 2]) (wrap64 (x5_1 + 1))) else (none)) else (none)) = some (r1, r2, r3) := by first | (rw [hji11] at H; exact H) | (simp only [hji11] at H ⊢; exact H)
        by_cases c12 : 0 ≤ (ji11)
        ·
         rw [if_pos c12] at H
         have c12b0 := eq_true c12
         have c12b1 : decide (0 ≤ (ji11)) = true := decide_eq_true c12
         clear c12
         obtain ⟨ji13, hji13⟩ : ∃ j_ : Int, (shr .u8 (bt a0 (ji7)) (ji11)) = j_ := ⟨_, rfl⟩
         replace H : (if x4_1.length < 140737488355328 then (turnoutref01_Of.l0 k1 a0 (x4_1 ++ [Int.tmod (ji13) 2]) (wrap64 (x5_1 + 1))) else (none)) = some (r1, r2, r3) := by first | (rw [hji13] at H; exact H) | (simp only [hji13] at H ⊢; exact H)
         have hji13_ : ((bt a0 (ji7)) / 2 ^ min (ji11).toNat 8) = ji13 := hji13
         have hji13z : (ji11) ≤ 8 → ((bt a0 (ji7)) / 2 ^ (ji11).toNat) = ji13 := shr_small hji13
         by_cases c14 : x4_1.length < 140737488355328
         ·
          rw [if_pos c14] at H
          have LMc14 := Aside0.mk c14
          clear c14
          obtain ⟨y174, hy174⟩ : ∃ y_ : List Int, y_ = (x4_1 ++ [Int.tmod (ji13) 2]) := ⟨_, rfl⟩
          replace H : (turnoutref01_Of.l0 k1 a0 y174 (wrap64 (x5_1 + 1))) = some (r1, r2, r3) := by first | (rw [hy174]; with_reducible exact H) | (have H2_ := (Option.bind_some _ _).symm.trans H; rw [hy174]; with_reducible exact H2_) | (have H2_ := (Option.bind_some _ _).symm.trans H; with_reducible exact H2_) | with_reducible exact H | (rw [hy174]; exact H) | exact H
          have Ny174 := Aside0.mk hy174
          clear hy174
          have H' := Aside0.mk H
          clear H
          have p10 : 0 ≤ ((ji7) : Int) := of_decide_eq_true (by first | (with_reducible assumption) | assumption)
          have q10 : (ji7) < (a0.size : Int) := of_decide_eq_true (by first | (with_reducible assumption) | assumption)
          have hx10 := bt_at a0 (ji7)
          replace p10 := eq_true p10
          replace q10 := eq_true q10
          go_wp2_with (first | ((with_reducible refine gate_builtin (b := .append) (xs := #[.tmp 17, .tmp 28]) rfl ?_); at_builtin; refine Kd.R_append (Kd.int .u8) (w0 := w) w.heap.size rfl (.tmp 17) (.tmp 28) 48 5 (.int .u8 0) 1 rfl Try.underlying48 info5 rfl (by decide) (by omega) u4 x4_1 (Int.tmod (ji13) 2) [.int .u8 (Int.tmod (ji13) 2)] (fun _ => True) (fun _ => False) rfl rfl ?aP (fun _ hk => hk.elim) ?aF ?aO ?aB ?aS ?aL ?_; (case aP => exact rfl); (case aB => exact (by repeat (first | (with_reducible first | exact HB.out | apply below_alloc | apply pw_below_drewN | apply below_drew1 | refine below_set ?_ GE173.out) | exact HB.out))); (case aF => exact (fun _ _ => trivial)); (case aO => exact (by (with_reducible repeat (first | apply Kd.R_alloc | apply Kd.R_drewN | apply Kd.R_drew)); exact HO_4.out)); (case aS => exact (below_size (by repeat (first | (with_reducible first | exact HB.out | apply below_alloc | apply pw_below_drewN | apply below_drew1 | refine below_set ?_ GE173.out) | exact HB.out)))); (case aL => have := LMc14.out; omega); intro v175 w15 ho hb hg hat; rw [← Ny174.out] at ho; replace BK173 := Aside0.mk (blk_grown (bkA BK173.out) hg (Kd.R_ne HO_4.out BK173.out (by decide))); replace HB := Aside0.mk (hb); have HO176 := Aside0.mk (ho); clear HO_4; clear ho hb hg hat))
          go_roundg k1
          case measure => have := HK1.out; omega
          case rel => exact ⟨(y174), (wrap64 (x5_1 + 1)), (by first | rfl | (simp; done) | (simp [*]; done)), H', ⟨by have := HK1.out; omega⟩, ⟨by (with_reducible repeat (first | apply Kd.R_alloc | apply Kd.R_drewN | apply Kd.R_drew)); exact HO176.out⟩, ⟨by (with_reducible repeat (first | refine blk_drewN ?_ _ | refine blk_drew ?_ | refine blk_alloc ?_ _)); exact BK173.out⟩, ⟨by repeat (first | (with_reducible first | exact HB.out | apply below_alloc | apply pw_below_drewN | apply below_drew1 | refine below_set ?_ GE173.out) | exact HB.out)⟩⟩
         ·
          rw [if_neg c14] at H
          exact absurd H (by simp)
        ·
         rw [if_neg c12] at H
         exact absurd H (by simp)
       ·
        rw [if_neg c9] at H
        exact absurd H (by simp)
      ·
       rw [if_neg c8] at H
       exact absurd H (by simp)
     ·
      rw [if_neg c6] at H
      have c6b0 : decide (x5_1 < (wrap64 (8 * (a0.size : Int)))) = false := decide_eq_false c6
      clear c6
      replace H := Option.bind_eq_some_iff.mp H
      obtain ⟨⟨t177, t178⟩, A160, H⟩ := H
      replace H : (some (t177, t178, 0)) = some (r1, r2, r3) := H
      have A16 := Aside0.mk A160
      clear A160
      simp only [Option.some.injEq, Prod.mk.injEq] at H
      obtain ⟨rfl, rfl, rfl⟩ := H
      obtain ⟨Ao17, co17, eo17⟩ := Kd.R_slice HO_4.out
      subst eo17
      go_wp2_with (first | ((with_reducible refine gate_callee (f := 47) rfl ?_); refine goesL_ (some 31) rfl rfl Try.func47 (by kernel_rfl) rfl #[.slice Ao17 x4_1.length co17] rfl (by (try simp only [List.map_toArray, List.map_cons, List.map_nil]); first | done | rfl | (simp only [List.length_drop, List.length_take]; rfl)) ?_; (with_reducible refine (turnoutref01_Word.calls k1 _ _ x4_1 t177 t178 _ ?side1 ?side2 A16.out).mono ?_); (case side1 => repeat (first | exact (Kd.R_reads' HO_4.out).2.2 | (with_reducible refine Kd.C_alloc ?_ _) | (with_reducible refine Kd.C_drewN ?_ _) | (with_reducible refine Kd.C_drew ?_))); (case side2 => exact (Kd.R_reads' HO_4.out).2.1); rintro e w18 ⟨rfl, hb⟩; refine ⟨_, rfl, ?_⟩; replace HO_4 := Aside0.mk (Kd.R_below (by (with_reducible repeat (first | apply Kd.R_alloc | apply Kd.R_drewN | apply Kd.R_drew)); exact HO_4.out) hb); replace BK173 := Aside0.mk (blk_below (bkA BK173.out) hb); replace HB := Aside0.mk (below_step (by repeat (first | (with_reducible first | exact HB.out | apply below_alloc | apply pw_below_drewN | apply below_drew1 | refine below_set ?_ GE173.out) | exact HB.out)) hb); (try clear hb); (try clear hb2); (try clear hk); (try clear hi); have hcz19_0 : w18.cell? ⟨gb173, 0, none⟩ = some (.int .u64 0) := (blk_cell BK173.out 0).trans rfl; have hcz19_1 : w18.cell? ⟨gb173, 1, none⟩ = some (.int .u64 0) := (blk_cell BK173.out 1).trans rfl; have hfz19_0 := blk_frozen BK173.out 0; have hfz19_1 := blk_frozen BK173.out 1))
      refine bodyPost_ret (results_ct rfl _ _ gb173 24 #[.int .u64 t177, .int .u64 t178] (0, 0) _ rfl (by (with_reducible repeat (first | refine blk_drewN ?_ _ | refine blk_drew ?_ | refine blk_alloc ?_ _)); refine blk_put (cs := #[.int .u64 t177, .int .u64 0]) ?_ 1 _ rfl; (with_reducible repeat (first | refine blk_drewN ?_ _ | refine blk_drew ?_ | refine blk_alloc ?_ _)); refine blk_put (cs := #[.int .u64 0, .int .u64 0]) ?_ 0 _ rfl; (with_reducible repeat (first | refine blk_drewN ?_ _ | refine blk_drew ?_ | refine blk_alloc ?_ _)); exact BK173.out) Try.underlying24 rfl (by kernel_rfl)) rfl ?_
      exact ⟨by first | rfl | (simp [errW_none, errW_some] <;> rfl) | (simp [*, errW_none, errW_some] <;> rfl), by repeat (first | (with_reducible first | exact HB.out | apply below_alloc | apply pw_below_drewN | apply below_drew1 | refine below_set ?_ GE173.out) | exact HB.out)⟩

/-! ### word_Text: function 37 -/
def word_Text.row (a b : Int) : Nat → Option (List Int)
  | 0 => some []
  | n + 1 => (word_Text.row a b n).bind fun l => (word_Right.f a b (128 - 8 * ((n : Int) + 1))).bind fun p => some (l ++ [p.2 % 256])
def word_Text.f (a0_0 : Int) (a0_1 : Int) : Option (ByteArray) := (word_Text.row a0_0 a0_1 16).bind fun l => some (strOfNums l)
def word_Text.cells (l : List Int) : Array Value := (nums .u8 l ++ List.replicate (16 - l.length) (Value.int .u8 0)).toArray
structure word_Text.At (a b : Int) (w wr : World) (i : Nat) (l : List Int) : Prop where
  row : word_Text.row a b i = some l
  len : l.length = i
  box : wr.heap[w.heap.size]? = some (.cells #[.int .u64 a, .int .u64 b] 24 (0, 0))
  arr : wr.heap[w.heap.size + 1]? = some (.cells (word_Text.cells l) 53 (0, 0))
  bel : Below w.heap.size w wr
theorem word_Text.row_len (a b : Int) : ∀ (n : Nat) (l : List Int), word_Text.row a b n = some l → l.length = n := by
  intro n
  induction n with
  | zero => intro l h; obtain rfl := Option.some.inj h; rfl
  | succ n ih =>
    intro l h
    obtain ⟨l0, h0, h⟩ := Option.bind_eq_some_iff.mp h
    obtain ⟨p, hp, h⟩ := Option.bind_eq_some_iff.mp h
    obtain rfl := Option.some.inj h
    rw [List.length_append, ih l0 h0]; rfl
theorem word_Text.row_le (a b : Int) (n : Nat) : ∀ (d : Nat) (l : List Int), word_Text.row a b (n + d) = some l → ∃ l0, word_Text.row a b n = some l0 := by
  intro d
  induction d with
  | zero => intro l h; exact ⟨l, h⟩
  | succ d ih =>
    intro l h
    obtain ⟨l0, h0, _⟩ := Option.bind_eq_some_iff.mp h
    exact ih l0 h0
theorem word_Text.row_next {a b : Int} {n : Nat} {l0 l : List Int} (h0 : word_Text.row a b n = some l0) (h : word_Text.row a b (n + 1) = some l) :
    ∃ p1 p2, word_Right.f a b (128 - 8 * ((n : Int) + 1)) = some (p1, p2) ∧ l = l0 ++ [p2 % 256] := by
  obtain ⟨l1, h1, h⟩ := Option.bind_eq_some_iff.mp h
  obtain rfl := Option.some.inj (h0.symm.trans h1)
  obtain ⟨p, hp, h⟩ := Option.bind_eq_some_iff.mp h
  exact ⟨p.1, p.2, hp, (Option.some.inj h).symm⟩
theorem word_Text.cells_size (l : List Int) (h : l.length ≤ 16) : (word_Text.cells l).size = 16 := by
  unfold word_Text.cells; simp [nums_length]; omega
theorem word_Text.cells_at (l : List Int) (h : l.length < 16) : (word_Text.cells l)[l.length]? = some (Value.int .u8 0) := by
  unfold word_Text.cells
  rw [List.getElem?_toArray, List.getElem?_append_right (by rw [nums_length]; exact Nat.le_refl _), nums_length, Nat.sub_self, List.getElem?_replicate, if_pos (by omega)]
theorem word_Text.cells_set (l : List Int) (v : Int) (h : l.length < 16) : (word_Text.cells l).setIfInBounds l.length (Value.int .u8 v) = word_Text.cells (l ++ [v]) := by
  unfold word_Text.cells
  rw [List.setIfInBounds_toArray]
  congr 1
  rw [List.set_append_right _ _ (by rw [nums_length]; exact Nat.le_refl _), nums_length, Nat.sub_self, nums_append]
  have e : 16 - l.length = (16 - (l ++ [v]).length) + 1 := by rw [List.length_append]; simp; omega
  rw [e, List.replicate_succ, List.set_cons_zero, List.append_assoc]
  rfl
theorem word_Text.fld (p1 p2 : Int) (W : World) : (Instr.field 24 (Value.agg #[.int .u64 p1, .int .u64 p2]) 1).run Try.prog W = .ok (.int .u64 p2) W := by kernel_rfl
theorem word_Text.calls (a0_0 : Int) (a0_1 : Int) (r : ByteArray) (w : World) (h : word_Text.f a0_0 a0_1 = some r) :
    Calls Try.prog 37 #[.agg #[.int .u64 a0_0, .int .u64 a0_1]] w fun e w' => e = .returned (.string r) ∧ Below w.heap.size w w' := by
  obtain ⟨lz, hz, h⟩ := Option.bind_eq_some_iff.mp h
  obtain rfl := Option.some.inj h
  have HZ := Aside0.mk hz
  clear h hz
  have huW_ := Try.underlying24
  go_enter Try.func37, Try.ntmps37
  go_wp2
  go_loopg [5] 16 (fun d v5 wr => ∃ (i : Nat) (l : List Int), v5 = .int .i64 i ∧ Aside0 (i + d = 16) ∧ word_Text.At a0_0 a0_1 w wr i l)
  case atStart =>
    refine ⟨0, [], rfl, ⟨rfl⟩, ⟨rfl, rfl, blk_alloc (blk_new w _) _, ?_, ((Below.refl _ _).alloc (Nat.le_refl _) _).alloc (by simp) _⟩⟩
    have e := blk_new (w.alloc (Obj.cells #[Value.int .u64 a0_0, Value.int .u64 a0_1] 24)) (Obj.cells (word_Text.cells []) 53)
    have hs : (w.alloc (Obj.cells #[Value.int .u64 a0_0, Value.int .u64 a0_1] 24)).heap.size = w.heap.size + 1 := by simp
    rw [hs] at e
    exact e
  case round =>
    obtain ⟨i, l, rfl, HD, hA⟩ := hrel
    have HA := Aside0.mk hA
    have hb0 : wr.cell? ⟨w.heap.size, 0, none⟩ = some (.int .u64 a0_0) := by
      have := hA.box; simp [World.cell?, this]
    have hb1 : wr.cell? ⟨w.heap.size, 1, none⟩ = some (.int .u64 a0_1) := by
      have := hA.box; simp [World.cell?, this]
    by_cases hi : i < 16
    · have hlt : decide ((i : Int) < 16) = true := decide_eq_true (by omega)
      obtain ⟨l1, hl1⟩ : ∃ l1, word_Text.row a0_0 a0_1 (i + 1) = some l1 := word_Text.row_le _ _ (i + 1) (15 - i) lz (by rw [show i + 1 + (15 - i) = 16 by omega]; exact HZ.out)
      obtain ⟨p1, p2, hp, rfl⟩ := word_Text.row_next hA.row hl1
      have HL1 := Aside0.mk hl1
      have HP := Aside0.mk hp
      clear hl1 hp hA
      have hlen : l.length = i := HA.out.len
      subst hlen
      have hfld := fun W => word_Text.fld p1 p2 W
      go_wp2_with (go_at_call 32; (with_reducible refine (word_Right.calls _ _ _ p1 p2 _ HP.out).mono ?_); rintro e w1 ⟨rfl, hb⟩; have HB1 := Aside0.mk hb; clear hb; have hc1 := (blk_cell (blk_below HA.out.arr HB1.out) l.length).trans (word_Text.cells_at l hi); have hf1 := blk_frozen (blk_below HA.out.arr HB1.out) l.length)
      go_roundg (15 - l.length)
      case measure => have := HD.out; omega
      case rel =>
        refine ⟨l.length + 1, l ++ [p2 % 256], by go_num, ⟨by have := HD.out; omega⟩, HL1.out, by simp, ?_, ?_, ?_⟩
        · exact blk_far (blk_below HA.out.box HB1.out) (by show w.heap.size ≠ w.heap.size + 1; omega) _
        · exact blk_put (blk_below HA.out.arr HB1.out) _ _ (word_Text.cells_set l _ hi)
        · exact below_set (HA.out.bel.trans (HB1.out.mono (HA.out.bel.size))) (by omega)
    · have hlt : decide ((i : Int) < 16) = false := decide_eq_false (by omega)
      obtain rfl : i = 16 := by have := HD.out; omega
      obtain rfl := Option.some.inj (hA.row.symm.trans HZ.out)
      have hlen := hA.len
      have hcv := own_string (P := Try.prog) (w := wr) (base := 0) (n := 16) (e' := 53) (v := .slice (some ⟨w.heap.size + 1, 0, none⟩) 16 16) (xs := l) Try.underlying48 Try.underlying5 Try.underlying9
        ⟨by rw [nums_length, hlen], .inr ⟨w.heap.size + 1, 16, word_Text.cells l, rfl, Nat.zero_le _, hA.arr, Nat.le_refl _, by decide, word_Text.cells_size l (by omega), by
          unfold word_Text.cells
          rw [List.take_append_of_le_length (by rw [nums_length]; omega), List.take_of_length_le (by rw [nums_length]; omega)]⟩⟩
      have HBel := Aside0.mk hA.bel
      clear hA hlen
      go_wp2
      go_ret
      exact ⟨rfl, HBel.out⟩

/-! ### turnoutref01_Bits: function 46 -/
def turnoutref01_Bits.l0 : Nat → List Int → Int → Int → Int → Option (List Int)
  | 0, _, _, _, _ => none
  | k + 1, x3, x4, x180000, x180001 => if x4 < 64 then (if 0 ≤ (IntKind.u64.wrap (x4)) then (if 0 ≤ (wrap64 (63 - x4)) then (if (wrap64 (63 - x4)) < (x3.length : Int) then (if 0 ≤ (wrap64 (127 - x4)) then (if (wrap64 (127 - x4)) < (x3.length : Int) then (turnoutref01_Bits.l0 k ((x3.set ((wrap64 (63 - x4)) : Int).toNat ((Int.tmod (shr .u64 x180000 (IntKind.u64.wrap (x4))) 2) % 256)).set ((wrap64 (127 - x4)) : Int).toNat ((Int.tmod (shr .u64 x180001 (IntKind.u64.wrap (x4))) 2) % 256)) (wrap64 (x4 + 1)) x180000 x180001) else (none)) else (none)) else (none)) else (none)) else (none)) else (some x3)
def turnoutref01_Bits.f (k : Nat) (a0_0 : Int) (a0_1 : Int) : Option (List Int) := if 128 ≤ 281474976710656 then (turnoutref01_Bits.l0 k (List.replicate 128 0) 0 a0_0 a0_1) else (none)
theorem turnoutref01_Bits.mono_l : ∀ k, (∀ y0 y1 y2 y3, LeO (turnoutref01_Bits.l0 k y0 y1 y2 y3) (turnoutref01_Bits.l0 (k + 1) y0 y1 y2 y3))
  | 0 => fun _ _ _ _ r h => by simp [turnoutref01_Bits.l0] at h
  | k + 1 => by
   have ih0 := turnoutref01_Bits.mono_l k
   ·
    intro y0 y1 y2 y3
    unfold turnoutref01_Bits.l0
    repeat' first
    | (with_reducible exact ih0 _ _ _ _)
    | (with_reducible exact LeO.refl _)
    | (with_reducible exact LeO.none _)
    | (with_reducible refine LeO.ite ?_ ?_)
    | (with_reducible refine LeO.bind ?_ (fun _ => ?_))
    | exact ih0 _ _ _ _
    | exact LeO.none _
    | refine LeO.ite ?_ ?_
    | refine LeO.bind ?_ (fun _ => ?_)
theorem turnoutref01_Bits.mono : ∀ a0 a1 k, LeO (turnoutref01_Bits.f k a0 a1) (turnoutref01_Bits.f (k + 1) a0 a1) := by
  intro a0 a1 k
  have ih0 := turnoutref01_Bits.mono_l k
  unfold turnoutref01_Bits.f
  repeat' first
    | (with_reducible exact ih0 _ _ _ _)
    | (with_reducible exact LeO.refl _)
    | (with_reducible exact LeO.none _)
    | (with_reducible refine LeO.ite ?_ ?_)
    | (with_reducible refine LeO.bind ?_ (fun _ => ?_))
    | exact ih0 _ _ _ _
    | exact LeO.none _
    | refine LeO.ite ?_ ?_
    | refine LeO.bind ?_ (fun _ => ?_)
set_option maxHeartbeats 8000000 in
set_option maxRecDepth 100000 in
theorem turnoutref01_Bits.calls (k : Nat) (a0_0 : Int) (a0_1 : Int) (r : List Int) (w : World) (h : turnoutref01_Bits.f k a0_0 a0_1 = some r) :
   Calls Try.prog 46 #[.agg #[.int .u64 a0_0, .int .u64 a0_1]] w fun e w' => ∃ v0_ : Value, e = .returned (v0_) ∧ Kd.R (Kd.int .u8) 5 w' w.heap.size (fun _ => True) v0_ r ∧ Below w.heap.size w w' := by
  have hu24 := Try.underlying24
  have HB := Aside0.mk (Below.refl w.heap.size w)
  have H : (if 128 ≤ 281474976710656 then (turnoutref01_Bits.l0 k (List.replicate 128 0) 0 a0_0 a0_1) else (none)) = some r := h
  clear h
  by_cases c2 : 128 ≤ 281474976710656
  ·
   rw [if_pos c2] at H
   have c2b0 := eq_true c2
   have c2b1 : decide (128 ≤ 281474976710656) = true := decide_eq_true c2
   clear c2
   obtain ⟨y180, hy180⟩ : ∃ y_ : List Int, y_ = (List.replicate 128 0) := ⟨_, rfl⟩
   replace H : (turnoutref01_Bits.l0 k y180 0 a0_0 a0_1) = some r := by first | (rw [hy180]; with_reducible exact H) | (have H2_ := (Option.bind_some _ _).symm.trans H; rw [hy180]; with_reducible exact H2_) | (have H2_ := (Option.bind_some _ _).symm.trans H; with_reducible exact H2_) | with_reducible exact H | (rw [hy180]; exact H) | exact H
   have Ny180 := Aside0.mk hy180
   clear hy180
   have H' := Aside0.mk H
   clear H
   go_enter Try.func46, Try.ntmps46
   go_wp2_with (first | ((with_reducible refine gate_dst (N := 1) rfl ?_); refine box_event ?hg (N := 1) ?hd (cs := #[.int .u64 a0_0, .int .u64 a0_1]) (t := 24) ?hr ?_; (case hd => rfl); (case hg => rfl); (case hr => first | (go_simp; done) | (go_simp; rfl)); intro gb179 hg w3 hbox hb; have BK179 := Aside0.mk (hbox); have GW179 := Aside0.mk ((by rw [hg]; exact (below_size (by repeat (first | (with_reducible first | exact HB.out | apply below_alloc | apply pw_below_drewN | apply below_drew1) | exact HB.out))) : w.heap.size ≤ gb179)); have GE179 := Aside0.mk ((by rw [hg]; exact (below_size (by repeat (first | (with_reducible first | exact HB.out | apply below_alloc | apply pw_below_drewN | apply below_drew1) | exact HB.out))) : w.heap.size ≤ gb179)); replace HB := Aside0.mk (below_step (by repeat (first | (with_reducible first | exact HB.out | apply below_alloc | apply pw_below_drewN | apply below_drew1) | exact HB.out)) hb); clear hb hbox hg) | ((with_reducible refine gate_dst (N := 5) rfl ?_); refine Kd.R_make (Kd.int .u8) _ 5 rfl (N := 5) rfl 48 _ _ rfl 128 rfl rfl Try.underlying48 (.int .u8 0) 1 info5 rfl (by decide) (by omega) 0 (ok := fun _ => True) (okp := fun _ => True) rfl (fun _ hk => hk) trivial (by omega) (by omega) (Below.refl _ _) (Nat.le_refl _) ?_; intro v181 w4 ho5 hb hg_ hnew_; clear hg_ hnew_; (first | rw [← Ny180.out] at ho5 | (simp only [Int.reduceToNat] at ho5; rw [← Ny180.out] at ho5)); have HO182 := Aside0.mk (Kd.R_lower ho5 (below_size (by repeat (first | (with_reducible first | exact HB.out | apply below_alloc | apply pw_below_drewN | apply below_drew1 | refine below_set ?_ GE179.out) | exact HB.out)))); replace BK179 := Aside0.mk (blk_below (bkA BK179.out) hb); replace HB := Aside0.mk (below_step (by repeat (first | (with_reducible first | exact HB.out | apply below_alloc | apply pw_below_drewN | apply below_drew1 | refine below_set ?_ GE179.out) | exact HB.out)) hb); clear hb ho5))
   go_loopg [4] k (fun kq v4 w' => ∃ (x3_1 : List Int) (x4_1 : Int), v4 = .int .i64 x4_1 ∧ Aside0 (turnoutref01_Bits.l0 kq x3_1 x4_1 a0_0 a0_1 = some r) ∧ Aside0 (kq ≤ k) ∧ Aside0 (Kd.R (Kd.int .u8) 5 w' w.heap.size (fun _ => True) v181 x3_1) ∧ Aside0 (w'.heap[gb179]? = some (.cells #[.int .u64 a0_0, .int .u64 a0_1] 24 (0, 0))) ∧ Aside0 (Below w.heap.size w w'))
   case atStart => exact ⟨(y180), (0), (by first | rfl | (simp; done) | (simp [*]; done)), H', ⟨Nat.le_refl _⟩, ⟨by (with_reducible repeat (first | apply Kd.R_alloc | apply Kd.R_drewN | apply Kd.R_drew)); exact HO182.out⟩, ⟨by (with_reducible repeat (first | refine blk_drewN ?_ _ | refine blk_drew ?_ | refine blk_alloc ?_ _)); exact BK179.out⟩, ⟨by repeat (first | (with_reducible first | exact HB.out | apply below_alloc | apply pw_below_drewN | apply below_drew1 | refine below_set ?_ GE179.out) | exact HB.out)⟩⟩
   case round =>
    clear H'
    try clear c2
    try clear c2b0
    try clear c2b1
    try clear p2
    try clear c4
    obtain ⟨x3_1, x4_1, rfl, HA, HK1, HO_3, BK179, HB⟩ := hrel
    cases gk with
    | zero => exact absurd HA.out (by simp [turnoutref01_Bits.l0])
    | succ k1 =>
     have H := HA.out
     clear HA
     simp only [turnoutref01_Bits.l0] at H
     by_cases c6 : x4_1 < 64
     ·
      rw [if_pos c6] at H
      have c6b0 : decide (x4_1 < 64) = true := decide_eq_true c6
      clear c6
      obtain ⟨ji7, hji7⟩ : ∃ j_ : Int, (IntKind.u64.wrap (x4_1)) = j_ := ⟨_, rfl⟩
      replace H : (if 0 ≤ (ji7) then (if 0 ≤ (wrap64 (63 - x4_1)) then (if (wrap64 (63 - x4_1)) < (x3_1.length : Int) then (if 0 ≤ (wrap64 (127 - x4_1)) then (if (wrap64 (127 - x4_1)) < (x3_1.length : Int) then (turnoutref01_Bits.l0 k1 ((x3_1.set ((wrap64 (63 - x4_1)) : Int).toNat ((Int.tmod (shr .u64 a0_0 (ji7)) 2) % 256)).set ((wrap64 (127 - x4_1)) : Int).toNat ((Int.tmod (shr .u64 a0_1 (ji7)) 2) % 256)) (wrap64 (x4_1 + 1)) a0_0 a0_1) else (none)) else (none)) else (none)) else (none)) else (none)) = some r := by first | (rw [hji7] at H; exact H) | (simp only [hji7] at H ⊢; exact H)
      by_cases c8 : 0 ≤ (ji7)
      ·
       rw [if_pos c8] at H
       have c8b0 := eq_true c8
       have c8b1 : decide (0 ≤ (ji7)) = true := decide_eq_true c8
       clear c8
       obtain ⟨ji9, hji9⟩ : ∃ j_ : Int, (shr .u64 a0_0 (ji7)) = j_ := ⟨_, rfl⟩
       replace H : (if 0 ≤ (wrap64 (63 - x4_1)) then (if (wrap64 (63 - x4_1)) < (x3_1.length : Int) then (if 0 ≤ (wrap64 (127 - x4_1)) then (if (wrap64 (127 - x4_1)) < (x3_1.length : Int) then (turnoutref01_Bits.l0 k1 ((x3_1.set ((wrap64 (63 - x4_1)) : Int).toNat ((Int.tmod (ji9) 2) % 256)).set ((wrap64 (127 - x4_1)) : Int).toNat ((Int.tmod (shr .u64 a0_1 (ji7)) 2) % 256)) (wrap64 (x4_1 + 1)) a0_0 a0_1) else (none)) else (none)) else (none)) else (none)) = some r := by first | (rw [hji9] at H; exact H) | (simp only [hji9] at H ⊢; exact H)
       have hji9_ : (a0_0 / 2 ^ min (ji7).toNat 64) = ji9 := hji9
       have hji9z : (ji7) ≤ 64 → (a0_0 / 2 ^ (ji7).toNat) = ji9 := shr_small hji9
       obtain ⟨ji10, hji10⟩ : ∃ j_ : Int, (wrap64 (63 - x4_1)) = j_ := ⟨_, rfl⟩
       replace H : (if 0 ≤ (ji10) then (if (ji10) < (x3_1.length : Int) then (if 0 ≤ (wrap64 (127 - x4_1)) then (if (wrap64 (127 - x4_1)) < (x3_1.length : Int) then (turnoutref01_Bits.l0 k1 ((x3_1.set ((ji10) : Int).toNat ((Int.tmod (ji9) 2) % 256)).set ((wrap64 (127 - x4_1)) : Int).toNat ((Int.tmod (shr .u64 a0_1 (ji7)) 2) % 256)) (wrap64 (x4_1 + 1)) a0_0 a0_1) else (none)) else (none)) else (none)) else (none)) = some r := by first | (rw [hji10] at H; exact H) | (simp only [hji10] at H ⊢; exact H)
       have hji10w : (IntKind.i64.wrap (63 - x4_1)) = ji10 := (i64_w _).trans hji10
       by_cases c11 : 0 ≤ (ji10)
       ·
        rw [if_pos c11] at H
        have c11b0 : decide (0 ≤ (ji10)) = true := decide_eq_true c11
        clear c11
        by_cases c12 : (ji10) < (x3_1.length : Int)
        ·
         rw [if_pos c12] at H
         have c12b0 : decide ((ji10) < (x3_1.length : Int)) = true := decide_eq_true c12
         clear c12
         obtain ⟨y183, hy183⟩ : ∃ y_ : List Int, y_ = (x3_1.set ((ji10) : Int).toNat ((Int.tmod (ji9) 2) % 256)) := ⟨_, rfl⟩
         replace H : (if 0 ≤ (wrap64 (127 - x4_1)) then (if (wrap64 (127 - x4_1)) < (x3_1.length : Int) then (turnoutref01_Bits.l0 k1 (y183.set ((wrap64 (127 - x4_1)) : Int).toNat ((Int.tmod (shr .u64 a0_1 (ji7)) 2) % 256)) (wrap64 (x4_1 + 1)) a0_0 a0_1) else (none)) else (none)) = some r := by first | (rw [hy183]; with_reducible exact H) | (have H2_ := (Option.bind_some _ _).symm.trans H; rw [hy183]; with_reducible exact H2_) | (have H2_ := (Option.bind_some _ _).symm.trans H; with_reducible exact H2_) | with_reducible exact H | (rw [hy183]; exact H) | exact H
         have Ny183 := Aside0.mk hy183
         clear hy183
         have c14b0 := eq_true (of_decide_eq_true (by first | (with_reducible assumption) | assumption) : 0 ≤ (ji7))
         obtain ⟨ji15, hji15⟩ : ∃ j_ : Int, (shr .u64 a0_1 (ji7)) = j_ := ⟨_, rfl⟩
         replace H : (if 0 ≤ (wrap64 (127 - x4_1)) then (if (wrap64 (127 - x4_1)) < (x3_1.length : Int) then (turnoutref01_Bits.l0 k1 (y183.set ((wrap64 (127 - x4_1)) : Int).toNat ((Int.tmod (ji15) 2) % 256)) (wrap64 (x4_1 + 1)) a0_0 a0_1) else (none)) else (none)) = some r := by first | (rw [hji15] at H; exact H) | (simp only [hji15] at H ⊢; exact H)
         have hji15_ : (a0_1 / 2 ^ min (ji7).toNat 64) = ji15 := hji15
         have hji15z : (ji7) ≤ 64 → (a0_1 / 2 ^ (ji7).toNat) = ji15 := shr_small hji15
         obtain ⟨ji16, hji16⟩ : ∃ j_ : Int, (wrap64 (127 - x4_1)) = j_ := ⟨_, rfl⟩
         replace H : (if 0 ≤ (ji16) then (if (ji16) < (x3_1.length : Int) then (turnoutref01_Bits.l0 k1 (y183.set ((ji16) : Int).toNat ((Int.tmod (ji15) 2) % 256)) (wrap64 (x4_1 + 1)) a0_0 a0_1) else (none)) else (none)) = some r := by first | (rw [hji16] at H; exact H) | (simp only [hji16] at H ⊢; exact H)
         have hji16w : (IntKind.i64.wrap (127 - x4_1)) = ji16 := (i64_w _).trans hji16
         by_cases c17 : 0 ≤ (ji16)
         ·
          rw [if_pos c17] at H
          have c17b0 : decide (0 ≤ (ji16)) = true := decide_eq_true c17
          clear c17
          by_cases c18 : (ji16) < (x3_1.length : Int)
          ·
           rw [if_pos c18] at H
           have c18b0 : decide ((ji16) < (x3_1.length : Int)) = true := decide_eq_true c18
           clear c18
           obtain ⟨y184, hy184⟩ : ∃ y_ : List Int, y_ = (y183.set ((ji16) : Int).toNat ((Int.tmod (ji15) 2) % 256)) := ⟨_, rfl⟩
           replace H : (turnoutref01_Bits.l0 k1 y184 (wrap64 (x4_1 + 1)) a0_0 a0_1) = some r := by first | (rw [hy184]; with_reducible exact H) | (have H2_ := (Option.bind_some _ _).symm.trans H; rw [hy184]; with_reducible exact H2_) | (have H2_ := (Option.bind_some _ _).symm.trans H; with_reducible exact H2_) | with_reducible exact H | (rw [hy184]; exact H) | exact H
           have Ny184 := Aside0.mk hy184
           clear hy184
           have H' := Aside0.mk H
           clear H
           have hcz20_0 : wr.cell? ⟨gb179, 0, none⟩ = some (.int .u64 a0_0) := (blk_cell BK179.out 0).trans rfl
           have hcz20_1 : wr.cell? ⟨gb179, 1, none⟩ = some (.int .u64 a0_1) := (blk_cell BK179.out 1).trans rfl
           have hfz20_0 := blk_frozen BK179.out 0
           have hfz20_1 := blk_frozen BK179.out 1
           have p13 : 0 ≤ ((ji10) : Int) := of_decide_eq_true (by first | (with_reducible assumption) | assumption)
           have q13 : ((ji10) : Int) < ((x3_1.length : Int) : Int) := of_decide_eq_true (by first | (with_reducible assumption) | assumption)
           obtain ⟨go13, co13, eo13, gb13, gl13, cl13, HG13⟩ := Kd.R_form HO_3.out (by omega)
           (first | cases eo13 | (injection eo13 with ea_ en_ ec_; (first | subst ea_ | (injection ea_ with ea_; subst ea_)); subst ec_; clear en_))
           have GB13 := Aside0.mk gb13
           have GG13 := Aside0.mk HG13
           clear gb13 gl13 HG13
           obtain ⟨hx13_0, hf13_0⟩ := Kd.R_celln 0 HO_3.out ((ji10) : Int) p13 q13
           replace p13 := eq_true p13
           replace q13 := eq_true q13
           have HP21 := Kd.R_putg HO_3.out ((ji10) : Int) ((Int.tmod (ji9) 2) % 256)
           go_wp2_with (first | ((with_reducible refine gate_store (t := 5) (p := 20) rfl ?_); refine store_event (t := 5) (p := 20) (v := ?vo_w22) (w1 := (wr.setCell ⟨go13, ((ji10) : Int).toNat, none⟩ (.int .u8 ((Int.tmod (ji9) 2) % 256)))) ?hg ?ho ?hn ?hr ?_; (case ho => rfl); (case hg => rfl); (case hn => rfl); (case hr => first | (go_simp; done) | (go_simp; rfl)); intro w22 hw; have hg : wr.grownBy w22 (some go13) := (by rw [hw]; exact HP21.2); have hp_ : Kd.R (Kd.int .u8) 5 w22 w.heap.size (fun _ => True) (.slice (some ⟨go13, 0, none⟩) x3_1.length co13) y183 := (by rw [hw, Ny183.out]; exact HP21.1); clear HP21; replace BK179 := Aside0.mk (blk_grown (bkA BK179.out) hg (Kd.R_ne HO_3.out BK179.out (by decide))); replace HO_3 := Aside0.mk (hp_); replace HB := Aside0.mk ((by rw [hw]; exact below_set (HB.out) GB13.out : Below w.heap.size w w22)); clear hg hw hp_; have hcz23_0 : w22.cell? ⟨gb179, 0, none⟩ = some (.int .u64 a0_0) := (blk_cell BK179.out 0).trans rfl; have hcz23_1 : w22.cell? ⟨gb179, 1, none⟩ = some (.int .u64 a0_1) := (blk_cell BK179.out 1).trans rfl; have hfz23_0 := blk_frozen BK179.out 0; have hfz23_1 := blk_frozen BK179.out 1; have p19 : 0 ≤ ((ji16) : Int) := of_decide_eq_true (by first | (with_reducible assumption) | assumption); have q19 : ((ji16) : Int) < ((x3_1.length : Int) : Int) := of_decide_eq_true (by first | (with_reducible assumption) | assumption); obtain ⟨hx19_0, hf19_0⟩ := Kd.R_celln 0 HO_3.out ((ji16) : Int) p19 q19; replace p19 := eq_true p19; replace q19 := eq_true q19; obtain ⟨hy24_, hz24_⟩ := Kd.R_celln 0 HO_3.out ((ji16) : Int) (of_decide_eq_true (by first | (with_reducible assumption) | assumption)) (of_decide_eq_true (by first | (with_reducible assumption) | assumption)); have HP24 := Kd.R_putg HO_3.out ((ji16) : Int) ((Int.tmod (ji15) 2) % 256)) | ((with_reducible refine gate_store (t := 5) (p := 31) rfl ?_); refine store_event (t := 5) (p := 31) (v := ?vo_w25) (w1 := (w22.setCell ⟨go13, ((ji16) : Int).toNat, none⟩ (.int .u8 ((Int.tmod (ji15) 2) % 256)))) ?hg ?ho ?hn ?hr ?_; (case ho => rfl); (case hg => rfl); (case hn => rfl); (case hr => first | (go_simp; done) | (go_simp; rfl)); intro w25 hw; have hg : w22.grownBy w25 (some go13) := (by rw [hw]; exact HP24.2); have hp_ : Kd.R (Kd.int .u8) 5 w25 w.heap.size (fun _ => True) (.slice (some ⟨go13, 0, none⟩) x3_1.length co13) y184 := (by rw [hw, Ny184.out]; exact HP24.1); clear HP24; replace BK179 := Aside0.mk (blk_grown (bkA BK179.out) hg (Kd.R_ne HO_3.out BK179.out (by decide))); replace HO_3 := Aside0.mk (hp_); replace HB := Aside0.mk ((by rw [hw]; exact below_set (HB.out) GB13.out : Below w.heap.size w w25)); clear hg hw hp_))
           go_roundg k1
           case measure => have := HK1.out; omega
           case rel => exact ⟨(y184), (wrap64 (x4_1 + 1)), (by first | rfl | (simp; done) | (simp [*]; done)), H', ⟨by have := HK1.out; omega⟩, ⟨by (with_reducible repeat (first | apply Kd.R_alloc | apply Kd.R_drewN | apply Kd.R_drew)); exact HO_3.out⟩, ⟨by (with_reducible repeat (first | refine blk_drewN ?_ _ | refine blk_drew ?_ | refine blk_alloc ?_ _)); exact BK179.out⟩, ⟨by repeat (first | (with_reducible first | exact HB.out | apply below_alloc | apply pw_below_drewN | apply below_drew1 | refine below_set ?_ GE179.out) | exact HB.out)⟩⟩
          ·
           rw [if_neg c18] at H
           exact absurd H (by simp)
         ·
          rw [if_neg c17] at H
          exact absurd H (by simp)
        ·
         rw [if_neg c12] at H
         exact absurd H (by simp)
       ·
        rw [if_neg c11] at H
        exact absurd H (by simp)
      ·
       rw [if_neg c8] at H
       exact absurd H (by simp)
     ·
      rw [if_neg c6] at H
      have c6b0 : decide (x4_1 < 64) = false := decide_eq_false c6
      clear c6
      obtain rfl := Option.some.inj H
      go_wp2
      go_ret
      exact ⟨_, by first | rfl | (simp [errW_none, errW_some] <;> rfl) | (simp [*, errW_none, errW_some] <;> rfl), by (with_reducible repeat (first | apply Kd.R_alloc | apply Kd.R_drewN | apply Kd.R_drew)); exact HO_3.out, by repeat (first | (with_reducible first | exact HB.out | apply below_alloc | apply pw_below_drewN | apply below_drew1 | refine below_set ?_ GE179.out) | exact HB.out)⟩
  ·
   rw [if_neg c2] at H
   exact absurd H (by simp)

end Go.Proofs.Ytmplgmlfpfopbaa.PWordT
