/- What the functions of package buf do: Insert at the end of a full row, Delete. -/
import Derived.Test.YtdjdgkjikibgaaaKBuf3
import Derived.Deep.RegionLaw
import Derived.Laws.IdiomCopy
namespace Go.Proofs.Ytdjdgkjikibgaaa.PBuf
open Go.RowKit Go.Proofs.YtdjdgkjikibgaaaW.PrintWords Go.Proofs.YtdjdgkjikibgaaaW.PrintLast Go.Proofs.YtdjdgkjikibgaaaW.PrintMore Go.Proofs.Ytdjdgkjikibgaaa.KBuf
set_option linter.unusedVariables false
set_option linter.unusedSimpArgs false
section
variable {w : World} {p g cap : Nat} {D : List UInt8}
set_option maxHeartbeats 8000000 in
set_option maxRecDepth 100000 in
theorem delete_ok2 (a n : Nat) (h : KBuf.Buf w p g D (a + n)) (ha : a + n ≤ D.length) (hne : 0 < n) :
    Calls Try.prog 16 #[.pointer (some ⟨p, 0, none⟩), .int .i64 a, .int .i64 n] w (Cut w p g (a + n) (D.take a ++ D.drop (a + n))) := by
  have hsm := h.small
  have hle := h.row.le
  have h1 : a ≤ (a + n) := by omega
  have h2 : a + n ≤ (a + n) := by omega
  have h3 : a ≤ D.length := by omega
  have h4 : (a : Int) + (n : Int) ≤ (D.length : Int) := by omega
  have h5 : (0 : Int) ≤ (a : Int) + (n : Int) := by omega
  have h6 : ((a : Int) + (n : Int)).toNat = a + n := by omega
  have h7 : IntKind.i64.wrap ((a : Int) + (n : Int)) = (a : Int) + (n : Int) := by rw [i64_w]; unfold wrap64; omega
  have h8 : ¬ (n = 0) := by omega
  have h12 : ((D.length - n : Nat) : Int) ≤ (a : Int) + (n : Int) := by omega
  have h10 : D.length - n ≤ (a + n) := by omega
  have hdl : (D.drop (a + n)).length = D.length - (a + n) := List.length_drop
  obtain ⟨m, hm⟩ : ∃ m : Nat, m = D.length - (a + n) := ⟨_, rfl⟩
  have h11 : IntKind.i64.wrap ((a : Int) + (m : Int)) = ((D.length - n : Nat) : Int) := by rw [i64_w]; unfold wrap64; omega
  have HR := Aside0.mk (h.row.put (N := D.drop (a + n)) a (by omega) (by rw [hdl]; omega))
  obtain ⟨W1, hW1⟩ : ∃ W1, W1 = w.drew.setCells g a (KBuf.cells8 (D.drop (a + n))) := ⟨_, rfl⟩
  have hcp : ∀ ty, (Builtin.copy_ #[50, 50] ty #[.slice (some ⟨g, a, none⟩) (D.length - a) ((a + n) - a), .slice (some ⟨g, 0, none⟩) (D.length - (a + n)) ((a + n) - (a + n))]).run Try.prog w.drew = .ok (.int .i64 (m : Int)) W1 := by
    intro ty
    have e0 : D.drop (a + n) = [] := List.drop_of_length_le (by omega)
    have em : m = 0 := by omega
    have := run_copy_none (P := Try.prog) w.drew 50 50 ty 5 (some ⟨g, a, none⟩) (some ⟨g, 0, none⟩) (D.length - a) ((a + n) - a) (D.length - (a + n)) ((a + n) - (a + n)) Try.underlying50 size5
      (by have : D.length - (a + n) = 0 := by omega
          rw [this]; exact Nat.zero_min _)
    rw [hW1, e0, em]
    exact this
  have HC := Aside0.mk hcp
  clear hcp
  have hc := h.cell
  have hm1 : KBuf.Mod (fun k => k = g) w W1 := by rw [hW1]; exact (KBuf.Mod.of_below (pw_below_drewN (Below.refl _ _) 1)).trans (KBuf.Mod.setCells w.drew g a _ rfl)
  have hbox : W1.heap[p]? = some (.cells #[.slice (some ⟨g, 0, none⟩) D.length (a + n)] 64 (0, 0)) := (hm1.block p h.plt h.ne).trans h.box
  have hc1 : W1.cell? ⟨p, 0, none⟩ = some (.slice (some ⟨g, 0, none⟩) D.length (a + n)) := (blk_cell hbox 0).trans rfl
  have hf1 : W1.frozen? ⟨p, 0, none⟩ = false := blk_frozen hbox 0
  have hrow : KBuf.Row W1 g (D.take a ++ D.drop (a + n)) (a + n) := by
    have hr := (h.drewN 1).row.put (N := D.drop (a + n)) a (by omega) (by rw [hdl]; omega)
    have hr2 := hr.upto (D.length - n)
    rw [hW1]
    have e : (D.take a ++ D.drop (a + n) ++ D.drop (a + (D.drop (a + n)).length)).take (D.length - n) = D.take a ++ D.drop (a + n) :=
      List.take_left' (by rw [List.length_append, hdl, List.length_take]; omega)
    rw [e] at hr2
    exact hr2
  have hlen : (D.take a ++ D.drop (a + n)).length = D.length - n := by rw [List.length_append, hdl, List.length_take]; omega
  have HM := Aside0.mk hm1
  have HBOX := Aside0.mk hbox
  have HROW := Aside0.mk hrow
  have HLEN := Aside0.mk hlen
  have HA := Aside0.mk h
  clear h hm1 hbox hrow hlen hW1 hdl HR hm
  go_enter Try.func16, Try.ntmps16
  go_wp2_with fail
  go_at_call 29
  (with_reducible refine (off_ok HA.out a n ha).mono ?_)
  rintro e u1 ⟨rfl, rfl⟩
  go_wp2_with fail
  go_region_law (refine step_copy rfl _ _ 50 50 rfl _ _ (by simp [Act.eval, Act.put]; try (intros; omega)) (by simp [Act.eval, Act.put]; try (intros; omega)) (HC.out _) ?_)
  all_goals go_wp2_with fail
  all_goals go_ret
  all_goals refine ⟨rfl, ⟨?_, HROW.out.same (Below.heap_setCell W1 ⟨p, 0, none⟩ _ g (fun e => HA.out.ne e.symm)), HA.out.ne, by rw [HLEN.out]; omega⟩, (HM.out.mono (fun k _ e => .inr e)).trans (KBuf.Mod.setCell W1 p 0 _ (.inl rfl))⟩
  all_goals rw [HLEN.out]; exact blk_put HBOX.out 0 _ rfl
set_option maxHeartbeats 8000000 in
set_option maxRecDepth 100000 in
theorem delete_ok3 (a : Nat) (h : KBuf.Buf w p g D a) (ha : a + 0 ≤ D.length)  :
    Calls Try.prog 16 #[.pointer (some ⟨p, 0, none⟩), .int .i64 a, .int .i64 0] w (Cut w p g a (D.take a ++ D.drop (a + 0))) := by
  have hsm := h.small
  have h13 : IntKind.i64.wrap (a : Int) = (a : Int) := by rw [i64_w]; unfold wrap64; have := h.row.le; omega
  have hle := h.row.le
  have h1 : a ≤ a := by omega
  have h2 : a + 0 ≤ a := by omega
  have h3 : a ≤ D.length := by omega
  have h4 : (a : Int) + ((0 : Nat) : Int) ≤ (D.length : Int) := by omega
  have h5 : (0 : Int) ≤ (a : Int) + ((0 : Nat) : Int) := by omega
  have h6 : ((a : Int) + ((0 : Nat) : Int)).toNat = a + 0 := by omega
  have h7 : IntKind.i64.wrap ((a : Int) + ((0 : Nat) : Int)) = (a : Int) + ((0 : Nat) : Int) := by rw [i64_w]; unfold wrap64; omega

  have h10 : D.length - 0 ≤ a := by omega
  have hdl : (D.drop (a + 0)).length = D.length - (a + 0) := List.length_drop
  obtain ⟨m, hm⟩ : ∃ m : Nat, m = D.length - (a + 0) := ⟨_, rfl⟩
  have h11 : IntKind.i64.wrap ((a : Int) + (m : Int)) = ((D.length - 0 : Nat) : Int) := by rw [i64_w]; unfold wrap64; omega
  have HR := Aside0.mk (h.row.put (N := D.drop (a + 0)) a (by omega) (by rw [hdl]; omega))
  obtain ⟨W1, hW1⟩ : ∃ W1, W1 = w.drew.setCells g a (KBuf.cells8 (D.drop (a + 0))) := ⟨_, rfl⟩
  have hcp : ∀ ty, (Builtin.copy_ #[50, 50] ty #[.slice (some ⟨g, 0, none⟩) (D.length - a) (a - a), .slice (some ⟨g, 0, none⟩) (D.length - (a + 0)) (a - (a + 0))]).run Try.prog w.drew = .ok (.int .i64 (m : Int)) W1 := by
    intro ty
    have e0 : D.drop (a + 0) = [] := List.drop_of_length_le (by omega)
    have em : m = 0 := by omega
    have := run_copy_none (P := Try.prog) w.drew 50 50 ty 5 (some ⟨g, 0, none⟩) (some ⟨g, 0, none⟩) (D.length - a) (a - a) (D.length - (a + 0)) (a - (a + 0)) Try.underlying50 size5
      (by have : D.length - (a + 0) = 0 := by omega
          rw [this]; exact Nat.zero_min _)
    rw [hW1, e0, em]
    exact this
  have HC := Aside0.mk hcp
  clear hcp
  have hc := h.cell
  have hm1 : KBuf.Mod (fun k => k = g) w W1 := by rw [hW1]; exact (KBuf.Mod.of_below (pw_below_drewN (Below.refl _ _) 1)).trans (KBuf.Mod.setCells w.drew g a _ rfl)
  have hbox : W1.heap[p]? = some (.cells #[.slice (some ⟨g, 0, none⟩) D.length a] 64 (0, 0)) := (hm1.block p h.plt h.ne).trans h.box
  have hc1 : W1.cell? ⟨p, 0, none⟩ = some (.slice (some ⟨g, 0, none⟩) D.length a) := (blk_cell hbox 0).trans rfl
  have hf1 : W1.frozen? ⟨p, 0, none⟩ = false := blk_frozen hbox 0
  have hrow : KBuf.Row W1 g (D.take a ++ D.drop (a + 0)) a := by
    have hr := (h.drewN 1).row.put (N := D.drop (a + 0)) a (by omega) (by rw [hdl]; omega)
    have hr2 := hr.upto (D.length - 0)
    rw [hW1]
    have e : (D.take a ++ D.drop (a + 0) ++ D.drop (a + (D.drop (a + 0)).length)).take (D.length - 0) = D.take a ++ D.drop (a + 0) :=
      List.take_left' (by rw [List.length_append, hdl, List.length_take]; omega)
    rw [e] at hr2
    exact hr2
  have hlen : (D.take a ++ D.drop (a + 0)).length = D.length - 0 := by rw [List.length_append, hdl, List.length_take]; omega
  have HM := Aside0.mk hm1
  have HBOX := Aside0.mk hbox
  have HROW := Aside0.mk hrow
  have HLEN := Aside0.mk hlen
  have HA := Aside0.mk h
  clear h hm1 hbox hrow hlen hW1 hdl HR hm
  go_enter Try.func16, Try.ntmps16
  go_wp2_with fail
  go_at_call 29
  (with_reducible refine (off_zero HA.out a (by omega)).mono ?_)
  rintro e u1 ⟨rfl, rfl⟩
  go_wp2_with fail
  go_region_law (refine step_copy rfl _ _ 50 50 rfl _ _ (by simp [Act.eval, Act.put]; try (intros; omega)) (by simp [Act.eval, Act.put]; try (intros; omega)) (HC.out _) ?_)
  all_goals go_wp2_with fail
  all_goals go_ret
  all_goals refine ⟨rfl, ⟨?_, HROW.out.same (Below.heap_setCell W1 ⟨p, 0, none⟩ _ g (fun e => HA.out.ne e.symm)), HA.out.ne, by rw [HLEN.out]; omega⟩, (HM.out.mono (fun k _ e => .inr e)).trans (KBuf.Mod.setCell W1 p 0 _ (.inl rfl))⟩
  all_goals rw [HLEN.out]; exact blk_put HBOX.out 0 _ rfl
theorem delete_ok (h : KBuf.Buf w p g D cap) (a n : Nat) (ha : a + n ≤ D.length) : Calls Try.prog 16 #[.pointer (some ⟨p, 0, none⟩), .int .i64 a, .int .i64 n] w (Cut w p g cap (D.take a ++ D.drop (a + n))) := by
  have hle := h.row.le
  by_cases h1 : a + n < cap
  · exact delete_ok1 h a n ha h1
  · have e : cap = a + n := by omega
    subst e
    by_cases h2 : 0 < n
    · exact delete_ok2 a n h ha h2
    · have e : n = 0 := by omega
      subst e
      exact delete_ok3 a h ha
end
end Go.Proofs.Ytdjdgkjikibgaaa.PBuf
