/- BufStays by hand: the other ways. -/
import Derived.Test.YtdjdgkjikibgaaaKStays
namespace Go.Proofs.Ytdjdgkjikibgaaa.PBuf
open Go.RowKit Go.Proofs.YtdjdgkjikibgaaaW.PrintWords Go.Proofs.YtdjdgkjikibgaaaW.PrintLast Go.Proofs.YtdjdgkjikibgaaaW.PrintMore
set_option linter.unusedVariables false
set_option linter.unusedSimpArgs false
set_option maxHeartbeats 8000000 in
set_option maxRecDepth 100000 in
theorem stays_long (s : ByteArray) (v : Value) (x : Option Addr) (N C : Nat) (w : World) (hs : s.size ≤ 140737488351232) (hbig : 9216 < s.size) : Calls Try.prog 6 #[.string s, .slice x N C] w fun e w' => e = .returned (.bool true) ∧ Below w.heap.size w w' := by
  have h1 : decide ((s.size : Int) > 9216) = true := decide_eq_true (by omega)
  go_enter Try.func6, Try.ntmps6
  go_wp2_with fail
  go_at_call 11
  (with_reducible refine (awake_ok _).mono ?_)
  rintro e u ⟨rfl, hb⟩
  have HB := Aside0.mk hb
  clear hb
  go_wp2_with fail
  go_ret
  exact ⟨rfl, HB.out⟩
set_option maxHeartbeats 8000000 in
set_option maxRecDepth 100000 in
theorem stays_many (s : ByteArray) (x : Option Addr) (N C : Nat) (w : World) (hs : s.size ≤ 9216) (hN : 80 < N) (hN2 : N ≤ 140737488351232) : Calls Try.prog 6 #[.string s, .slice x N C] w fun e w' => e = .returned (.bool true) ∧ Below w.heap.size w w' := by
  have h1 : decide ((s.size : Int) > 9216) = false := decide_eq_false (by omega)
  have h2 : decide ((N : Int) > 80) = true := decide_eq_true (by omega)
  go_enter Try.func6, Try.ntmps6
  go_wp2_with fail
  go_at_call 11
  (with_reducible refine (awake_ok _).mono ?_)
  rintro e u ⟨rfl, hb⟩
  have HB := Aside0.mk hb
  clear hb
  go_wp2_with fail
  go_ret
  exact ⟨rfl, HB.out⟩
set_option maxHeartbeats 8000000 in
set_option maxRecDepth 100000 in
theorem stays_none (s : ByteArray) (w : World) (hs : s.size ≤ 9216) : Calls Try.prog 6 #[.string s, .slice none 0 0] w fun e w' => e = .returned (.bool true) ∧ Below w.heap.size w w' := by
  have h1 : decide ((s.size : Int) > 9216) = false := decide_eq_false (by omega)
  go_enter Try.func6, Try.ntmps6
  go_wp2_with fail
  go_at_call 11
  (with_reducible refine (awake_ok _).mono ?_)
  rintro e u ⟨rfl, hb⟩
  have HB := Aside0.mk hb
  clear hb
  go_wp2_with fail
  go_at_call 13
  (with_reducible refine (of_at s w _ HB.out hs).mono ?_)
  rintro e u1 ⟨p, rfl, h⟩
  have HA := Aside0.mk h
  clear h HB
  go_wp2_with fail
  go_loopg [6] 0 (fun d v6 wr => v6 = .int .i64 0 ∧ Aside0 (Below w.heap.size w wr))
  case atStart => exact ⟨rfl, ⟨HA.out.bel⟩⟩
  case round =>
    obtain ⟨hv, HB⟩ := hrel
    subst hv
    go_wp2_with fail
    go_ret
    exact ⟨rfl, HB.out⟩
end Go.Proofs.Ytdjdgkjikibgaaa.PBuf
