/- BufStays by hand: all ways. -/
import Derived.Test.YtdjdgkjikibgaaaKOpen
namespace Go.Proofs.Ytdjdgkjikibgaaa.PBuf
open Go.RowKit Go.Proofs.YtdjdgkjikibgaaaW.PrintWords Go.Proofs.YtdjdgkjikibgaaaW.PrintLast Go.Proofs.YtdjdgkjikibgaaaW.PrintMore
set_option linter.unusedVariables false
set_option linter.unusedSimpArgs false
set_option maxHeartbeats 8000000 in
set_option maxRecDepth 100000 in
theorem stays_zero (s : ByteArray) (x : Option Addr) (C : Nat) (w : World) (hs : s.size ≤ 9216) : Calls Try.prog 6 #[.string s, .slice x 0 C] w fun e w' => e = .returned (.bool true) ∧ Below w.heap.size w w' := by
  have h1 : decide ((s.size : Int) > 9216) = false := decide_eq_false (by omega)
  go_enter Try.func6, Try.ntmps6
  go_wp2_with fail
  go_at_call 11
  (with_reducible refine (awake_ok _).mono ?_)
  rintro e u ⟨rfl, hb⟩
  have HB := Aside0.mk hb
  clear hb
  go_wp2_with fail
  go_at_call 13
  (with_reducible refine (of_at s w _ HB.out hs).mono ?_)
  rintro e u1 ⟨p, rfl, h⟩
  have HA := Aside0.mk h
  clear h HB
  go_wp2_with fail
  go_loopg [6] 0 (fun d v6 wr => v6 = .int .i64 0 ∧ Aside0 (Below w.heap.size w wr))
  case atStart => exact ⟨rfl, ⟨HA.out.bel⟩⟩
  case round =>
    obtain ⟨hv, HB⟩ := hrel
    subst hv
    go_wp2_with fail
    go_ret
    exact ⟨rfl, HB.out⟩
theorem bufStays {H : Type} {enc : TypeId × Value → H} {base fuel : Nat} {sp : Nat → Bool} {held : Bool} (s : ByteArray) (a : Option Addr) (N C : Nat) (w : World) (d : DataW H × List MemPlace)
    (hs : s.size ≤ 140737488351232) (hN : N ≤ 140737488351232) (h : DataW.trod enc Try.prog w base sp held fuel 39 [.slice a N C] = some d) :
    Calls Try.prog 6 #[.string s, .slice a N C] w fun e w' => e = .returned (.bool true) ∧ Below w.heap.size w w' := by
  by_cases h1 : s.size ≤ 9216
  · by_cases h2 : N ≤ 80
    · by_cases h3 : N = 0
      · subst h3; exact stays_zero s a C w h1
      · rcases Go.Deep.open_slice Try.underlying39 h with ⟨hcs, _⟩ | ⟨x, l, c, m, n', D, Pl, hcs, hb, hl, hmx, hmm, hx, hall⟩
        · simp at hcs; omega
        · simp only [List.cons.injEq, and_true, Value.slice.injEq] at hcs
          obtain ⟨rfl, rfl, rfl⟩ := hcs
          have hlm : N ≤ m := by rw [hmm]; split <;> omega
          rw [show Try.prog.cellsOf 42 = 5 from by kernel_rfl] at hall
          have hact : ∀ i, i < N → ∃ k a n h l, ActAt w (x.add (i * 5)) k a n h l := fun i hi => by
            obtain ⟨cs', q1, q2⟩ := hall i (by omega)
            exact act_at q1 q2
          have hlt : ∀ j, (x.add j).block < w.heap.size := fun j => by
            obtain ⟨k, a, n, h, l, ha⟩ := hact 0 (by omega)
            have := World.block_lt_of_cell? _ _ ha.c0
            have e1 : ∀ j, (x.add j).block = x.block := fun j => by unfold Addr.add; split <;> rfl
            rw [e1] at this ⊢
            exact this
          exact stays_ok s x N C w h1 h2 hl ⟨⟨hlt, hact⟩⟩
    · exact stays_many s a N C w h1 (by omega) hN
  · exact stays_long s (.bool true) a N C w hs (by omega)
end Go.Proofs.Ytdjdgkjikibgaaa.PBuf
