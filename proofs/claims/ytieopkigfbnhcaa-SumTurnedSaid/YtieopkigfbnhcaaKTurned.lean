/- The walk of the law SumTurned, by hand over the contracts of what it calls. -/
import Derived.Test.YtieopkigfbnhcaaKRow
import Derived.Test.YtieopkigfbnhcaaMSumU2
import Derived.BigRegion
import Derived.Outline
namespace Go.Proofs.Ytieopkigfbnhcaa.PSum
open Go.RowKit Go.Proofs.YtieopkigfbnhcaaW.PrintWords Go.Proofs.YtieopkigfbnhcaaW.PrintLast Go.Proofs.YtieopkigfbnhcaaW.PrintMore Go.Proofs.Ytieopkigfbnhcaa.KRow
set_option linter.unusedVariables false
set_option linter.unusedSimpArgs false
/-- All pairs of bytes turned about. -/
def tl : List UInt8 → List UInt8
  | a :: b :: l => b :: a :: tl l
  | l => l
theorem tl_snoc : ∀ (n : Nat) (l : List UInt8) (x y : UInt8), l.length = 2 * n → tl (l ++ [x, y]) = tl l ++ [y, x] := by
  intro n
  induction n with
  | zero => intro l x y h; obtain rfl := List.eq_nil_of_length_eq_zero (show l.length = 0 by omega); rfl
  | succ n ih =>
    intro l x y h
    match l, h with
    | a :: b :: l, h =>
      show b :: a :: tl (l ++ [x, y]) = _
      rw [ih l x y (by simp at h; omega)]; rfl
theorem tl_len : ∀ (n : Nat) (l : List UInt8), l.length = n → (tl l).length = n := by
  intro n
  induction n using Nat.strongRecOn with
  | ind n ih =>
    intro l h
    match l, h with
    | [], h => exact h
    | [a], h => exact h
    | a :: b :: l, h =>
      show (b :: a :: tl l).length = n
      have := ih (n - 2) (by simp at h; omega) l (by simp at h; omega)
      simp at h ⊢; omega
def num8 (l : List UInt8) : List Int := l.map fun b => (b.toNat : Int)
/-- The row behind j rounds. -/
def rowT (D : List UInt8) (j : Nat) : List Int := num8 (tl (D.take (2 * j)) ++ D.drop (2 * j))
theorem rowT_len (D : List UInt8) (j : Nat) : (rowT D j).length = D.length := by
  unfold rowT num8
  rw [List.length_map, List.length_append, tl_len _ _ rfl, List.length_take, List.length_drop]; omega
theorem rowT_split (D : List UInt8) (j : Nat) (h : 2 * j + 1 < D.length) : ∃ (A B : List UInt8) (x y : UInt8), A.length = 2 * j ∧ rowT D j = num8 (A ++ x :: y :: B) ∧ rowT D (j + 1) = num8 (A ++ y :: x :: B) := by
  have h0 : 2 * j < D.length := by omega
  have hd : D.drop (2 * j) = D[2 * j] :: D[2 * j + 1] :: D.drop (2 * (j + 1)) := by
    rw [List.drop_eq_getElem_cons h0, List.drop_eq_getElem_cons h]; rfl
  have ht : D.take (2 * (j + 1)) = D.take (2 * j) ++ [D[2 * j], D[2 * j + 1]] := by
    rw [show 2 * (j + 1) = 2 * j + 1 + 1 by omega, List.take_succ_eq_append_getElem h, List.take_succ_eq_append_getElem h0, List.append_assoc]; rfl
  refine ⟨tl (D.take (2 * j)), D.drop (2 * (j + 1)), D[2 * j], D[2 * j + 1], ?_, ?_, ?_⟩
  · rw [tl_len _ _ rfl, List.length_take]; omega
  · unfold rowT; rw [hd]
  · unfold rowT
    rw [ht, tl_snoc j _ _ _ (by rw [List.length_take]; omega), List.append_assoc]; rfl
theorem num8_get (A B : List UInt8) (x y : UInt8) (m : Nat) (h : A.length = m) : (num8 (A ++ x :: y :: B)).getD m 0 = (x.toNat : Int) ∧ (num8 (A ++ x :: y :: B)).getD (m + 1) 0 = (y.toNat : Int) := by
  unfold num8
  subst h
  constructor <;> simp [List.getD_eq_getElem?_getD, List.getElem?_append]
theorem num8_set (A B : List UInt8) (x y : UInt8) (m : Nat) (h : A.length = m) : ((num8 (A ++ x :: y :: B)).set m (y.toNat : Int)).set (m + 1) (x.toNat : Int) = num8 (A ++ y :: x :: B) := by
  unfold num8
  subst h
  rw [List.map_append, List.map_append, List.set_append_right _ _ (by simp), List.set_append_right _ _ (by simp)]
  simp
structure TAt (w wr : World) (g : Nat) (D : List UInt8) (j : Nat) : Prop where
  row : Row wr g (rowT D j)
  bel : Below w.heap.size w wr
  ge : w.heap.size ≤ g
theorem TAt.next {w wr : World} {g : Nat} {D : List UInt8} {j : Nat} (h : TAt w wr g D j) (hl : 2 * j + 1 < D.length) (x y : Int) (e : ((rowT D j).set (2 * j) y).set (2 * j + 1) x = rowT D (j + 1)) :
    TAt w (((wr.setCell ⟨g, 2 * j, none⟩ (.int .u8 y)).setCell ⟨g, 2 * j + 1, none⟩ (.int .u8 x)).drew) g D (j + 1) := by
  have h1 := h.row.set (j := 2 * j) (by rw [rowT_len]; omega) y
  have h2 := h1.set (j := 2 * j + 1) (by rw [List.length_set, rowT_len]; omega) x
  rw [e] at h2
  exact ⟨h2.drew, below_drew1 (below_set (below_set h.bel h.ge) h.ge), h.ge⟩
theorem one_C (w : World) (s : ByteArray) : Kd.C Kd.string (w.alloc (Obj.cells #[.string s] 9)) (some ⟨w.heap.size, 0, none⟩) [s].length [s] :=
  Kd.C_of_reads (d := ByteArray.empty) (h1 := fun _ => rfl) ⟨rfl, (by show 1 ≤ 9223372036854775807; decide), fun _ => ⟨_, rfl, fun j hj => by
    have : j = 0 := by simp at hj; omega
    subst this
    rw [add_plain]
    exact (blk_cell (blk_new w (Obj.cells #[.string s] 9)) 0).trans rfl⟩⟩
theorem long_one (k : Nat) (s : ByteArray) (b : Bool) (w : World) (h : turnoutlaw03_long.f k [s] = some b) :
    Calls Try.prog 18 #[.slice (some ⟨w.heap.size, 0, none⟩) 1 1] (w.alloc (Obj.cells #[.string s] 9)) fun e w' => e = .returned (.bool b) ∧ Below (w.alloc (Obj.cells #[.string s] 9)).heap.size (w.alloc (Obj.cells #[.string s] 9)) w' :=
  turnoutlaw03_long.calls k _ 1 [s] b _ (one_C w s) (Nat.le_refl 1) h
theorem sum_one_calls (k : Nat) (s : ByteArray) (r : Int) (w : World) (h : sum_Sum.f k [s] = some r) :
    Calls Try.prog 13 #[.slice (some ⟨w.heap.size, 0, none⟩) 1 1] (w.alloc (Obj.cells #[.string s] 9)) fun e w' => e = .returned (.int .u16 r) ∧ Drawn0 (w.alloc (Obj.cells #[.string s] 9)) w' :=
  sum_Sum.calls k _ 1 [s] r _ (one_C w s) (Nat.le_refl 1) h
theorem sum_at (k : Nat) (s : ByteArray) (r : Int) (w : World) (g : Nat) (hg : w.heap.size = g) (h : sum_Sum.f k [s] = some r) :
    Calls Try.prog 13 #[.slice (some ⟨g, 0, none⟩) 1 1] (w.alloc (Obj.cells #[.string s] 9)) fun e w' => e = .returned (.int .u16 r) ∧ Drawn0 (w.alloc (Obj.cells #[.string s] 9)) w' := by
  subst hg; exact sum_one_calls k s r w h
set_option maxHeartbeats 8000000 in
set_option maxRecDepth 100000 in
theorem turned_big (k : Nat) (s : ByteArray) (w : World) (hs : s.size ≤ 140737488351232) (HL : Aside0 (turnoutlaw03_long.f k [s] = some true)) (HAW : Aside0 (turnoutlaw03_awake.f k = some true)) :
    Calls Try.prog 10 #[.string s] w fun e w' => e = .returned (.bool true) ∧ Below w.heap.size w w' := by
  go_enter Try.func10, Try.ntmps10
  go_wp2_with fail
  go_at_call 18
  (with_reducible refine (long_one k s _ _ HL.out).mono ?_)
  rintro e u1 ⟨rfl, hb1⟩
  go_wp2_with fail
  go_at_call 12
  (with_reducible refine (turnoutlaw03_awake.calls k true _ HAW.out ⟨rfl⟩).mono ?_)
  rintro e u2 ⟨rfl, hb2⟩
  go_wp2_with fail
  go_ret
  exact ⟨rfl, below_step (below_step (below_alloc (Below.refl _ _) _) hb1) hb2⟩
set_option maxHeartbeats 8000000 in
set_option maxRecDepth 100000 in
theorem turned_small (k : Nat) (s t : ByteArray) (a b : Int) (w : World) (hs : s.size ≤ 140737488351232) (HL : Aside0 (turnoutlaw03_long.f k [s] = some false)) (HAW : Aside0 (turnoutlaw03_awake.f k = some true))
    (HE : Aside0 (turnoutlaw03_even.f s = some t)) (ht : t.size ≤ 140737488351232) (n : Nat) (hn : t.size = 2 * n)
    (HS1 : Aside0 (sum_Sum.f k [strOfNums (rowT t.data.toList n)] = some a)) (HS2 : Aside0 (sum_Sum.f k [t] = some b)) (HT : Aside0 (turnoutlaw03_turned.f b = some a)) :
    Calls Try.prog 10 #[.string s] w fun e w' => e = .returned (.bool true) ∧ Below w.heap.size w w' := by
  have HN := Aside0.mk hn
  have kb := fun W => print_bytes (P := Try.prog) 9 26 5 Try.underlying9 Try.underlying26 Try.underlying5 t W
  clear hn
  go_enter Try.func10, Try.ntmps10
  go_wp2_with fail
  go_at_call 18
  (with_reducible refine (long_one k s _ _ HL.out).mono ?_)
  rintro e u1 ⟨rfl, hb1⟩
  have HB1 := Aside0.mk hb1
  clear hb1
  go_wp2_with fail
  go_at_call 12
  (with_reducible refine (turnoutlaw03_awake.calls k true _ HAW.out ⟨rfl⟩).mono ?_)
  rintro e u2 ⟨rfl, hb2⟩
  have HB2 := Aside0.mk hb2
  clear hb2
  go_wp2_with fail
  go_at_call 25
  (with_reducible refine (turnoutlaw03_even.calls s t _ HE.out).mono ?_)
  rintro e u3 ⟨rfl, ⟨m3, rfl⟩⟩
  go_wp2_with fail
  have hrow0 : rowT t.data.toList 0 = bytesOf t := by unfold rowT num8 bytesOf; rfl
  have hA0 : TAt w (Lib.bytesWorld (u2.drewN m3) 5 t) u2.heap.size t.data.toList 0 := by
    have hr := Row.new (u2.drewN m3) 5 t
    rw [← hrow0] at hr
    have hbel := below_step (pw_below_drewN (below_step (below_step (below_alloc (Below.refl w.heap.size w) _) HB1.out) HB2.out) m3) (Row.newBelow (u2.drewN m3) 5 t)
    exact ⟨hr, hbel, (below_step (below_step (below_alloc (Below.refl w.heap.size w) _) HB1.out) HB2.out).size⟩
  have HA0 := Aside0.mk hA0
  have htl : t.data.toList.length = t.size := data_length t
  have HTL := Aside0.mk htl
  clear hA0 hrow0 htl
  go_loopg [4] n (fun d v4 wr => ∃ (j : Nat), v4 = .int .i64 (2 * j : Nat) ∧ Aside0 (j + d = n) ∧ TAt w wr u2.heap.size t.data.toList j)
  case atStart => exact ⟨0, rfl, ⟨by omega⟩, HA0.out⟩
  case round =>
    obtain ⟨j, hv, HD, hA⟩ := hrel
    obtain ⟨m, hm⟩ : ∃ m : Nat, m = 2 * j := ⟨_, rfl⟩
    rw [← hm] at hv
    subst hv
    have HA := Aside0.mk hA
    have HM := Aside0.mk hm
    clear hA hm
    by_cases hj : j < n
    · have hin : 2 * j + 1 < t.data.toList.length := by rw [HTL.out, HN.out]; omega
      obtain ⟨A, B, x, y, hAl, e1, e2⟩ := rowT_split t.data.toList j hin
      have hl1 : (rowT t.data.toList j).length = t.size := by rw [rowT_len]; exact HTL.out
      have q1 := HA.out.row.cell (2 * j) (by rw [hl1, HN.out]; omega)
      have q2 := HA.out.row.cell (2 * j + 1) (by rw [hl1, HN.out]; omega)
      have f1 := HA.out.row.free (2 * j) (by rw [hl1, HN.out]; omega)
      have f2 := HA.out.row.free (2 * j + 1) (by rw [hl1, HN.out]; omega)
      have hg := num8_get A B x y (2 * j) hAl
      have hs2 := num8_set A B x y (2 * j) hAl
      rw [← e1, ← e2] at hs2
      rw [← e1] at hg
      rw [hg.1] at q1
      rw [hg.2] at q2
      rw [← HM.out] at q1 q2 f1 f2
      have HS := Aside0.mk hs2
      have hb1 : (m : Int) + 1 < (t.size : Int) := by rw [HN.out, HM.out]; omega
      have hb2 : (m : Int) < (t.size : Int) := by rw [HN.out, HM.out]; omega
      have hb3 : (0 : Int) ≤ (m : Int) := Int.natCast_nonneg _
      have hb4 : (0 : Int) ≤ (m : Int) + 1 := by omega
      have hb5 : t.size ≤ 140737488351232 := ht
      have hd : decide ((m : Int) + 1 < (t.size : Int)) = true := decide_eq_true hb1
      have HIN := Aside0.mk hin
      obtain ⟨xi, hxi⟩ : ∃ xi : Int, xi = (x.toNat : Int) := ⟨_, rfl⟩
      obtain ⟨yi, hyi⟩ : ∃ yi : Int, yi = (y.toNat : Int) := ⟨_, rfl⟩
      rw [← hxi, ← hyi] at HS
      rw [← hxi] at q1
      rw [← hyi] at q2
      clear hg hs2 e1 e2 hAl hl1 hin hxi hyi
      go_wp2_with fail
      go_region
      go_wp2_with fail
      go_roundg (n - 1 - j)
      case measure => have := HD.out; omega
      case rel =>
        have hnx := TAt.next HA.out HIN.out xi yi HS.out
        rw [← HM.out] at hnx
        exact ⟨j + 1, by rw [show 2 * (j + 1) = m + 2 by have := HM.out; omega]; go_num, ⟨by have := HD.out; omega⟩, hnx⟩
    · have hd : decide ((m : Int) + 1 < (t.size : Int)) = false := decide_eq_false (by rw [HN.out, HM.out]; have := HD.out; omega)
      obtain rfl : j = n := by have := HD.out; omega
      have hb5 : t.size ≤ 140737488351232 := ht
      have hb6 : (m : Int) ≤ 140737488351232 := by rw [HM.out]; have := HN.out; omega
      have hlen : (rowT t.data.toList j).length = t.size := by rw [rowT_len]; exact HTL.out
      have hcv := fun cap => Kd.C_string (P := Try.prog) (dst := 9) (c := cap) Try.underlying26 Try.underlying5 Try.underlying9 (HA.out.row.C (by rw [hlen]; omega))
      rw [hlen] at hcv
      have hcv' := hcv (grownCap (u2.drewN m3) t.size 0 5)
      clear hcv hlen
      go_wp2_with fail
      go_at_call 13
      (with_reducible refine (sum_one_calls k _ a _ HS1.out).mono ?_)
      rintro e u4 ⟨rfl, ⟨m4, rfl⟩⟩
      go_wp2_with fail
      go_at_call 13
      (with_reducible refine (sum_at k t b _ (wr.heap.size + 1) (by simp) HS2.out).mono ?_)
      rintro e u5 ⟨rfl, ⟨m5, rfl⟩⟩
      go_wp2_with fail
      go_at_call 24
      (with_reducible refine (turnoutlaw03_turned.calls b a _ HT.out).mono ?_)
      rintro e u6 ⟨rfl, ⟨m6, rfl⟩⟩
      go_wp2_with fail
      go_ret
      exact ⟨rfl, by repeat (first | exact HA.out.bel | apply below_alloc | apply pw_below_drewN)⟩
end Go.Proofs.Ytieopkigfbnhcaa.PSum
