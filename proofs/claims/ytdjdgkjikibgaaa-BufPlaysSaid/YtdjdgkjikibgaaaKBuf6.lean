/- What the functions of package buf do: Insert refused, Delete refused. -/
import Derived.Test.YtdjdgkjikibgaaaKBuf4
namespace Go.Proofs.Ytdjdgkjikibgaaa.PBuf
open Go.RowKit Go.Proofs.YtdjdgkjikibgaaaW.PrintWords Go.Proofs.YtdjdgkjikibgaaaW.PrintLast Go.Proofs.YtdjdgkjikibgaaaW.PrintMore Go.Proofs.Ytdjdgkjikibgaaa.KBuf
set_option linter.unusedVariables false
set_option linter.unusedSimpArgs false
section
variable {w : World} {p g cap : Nat} {D : List UInt8}
set_option maxHeartbeats 8000000 in
set_option maxRecDepth 100000 in
theorem delete_bad (h : KBuf.Buf w p g D cap) (a n : Int) (x : Int) (hx : offE D.length a n = x) (hne : x ≠ 0) :
    Calls Try.prog 16 #[.pointer (some ⟨p, 0, none⟩), .int .i64 a, .int .i64 n] w fun e w' => e = .returned (.int .i64 x) ∧ w = w' := by
  have HA := Aside0.mk h
  clear h
  go_enter Try.func16, Try.ntmps16
  go_wp2_with fail
  go_at_call 29
  (with_reducible refine (off_any HA.out a n).mono ?_)
  rintro e u1 ⟨rfl, rfl⟩
  rw [hx]
  clear hx
  go_wp2_with fail
  go_ret
  exact ⟨rfl, rfl⟩
set_option maxHeartbeats 8000000 in
set_option maxRecDepth 100000 in
theorem insert_bad (h : KBuf.Buf w p g D cap) (a n m : Int) (hm : Builtin.min_ #[3, 3] 3 #[.int .i64 n, .int .i64 0] = pure (.int .i64 m)) (x : Int) (hx : offE D.length a m = x) (hne : x ≠ 0) :
    Calls Try.prog 14 #[.pointer (some ⟨p, 0, none⟩), .int .i64 a, .int .i64 n] w fun e w' => e = .returned (.int .i64 x) ∧ w = w' := by
  have HA := Aside0.mk h
  clear h
  go_enter Try.func14, Try.ntmps14
  go_wp2_with fail
  go_at_call 29
  (with_reducible refine (off_any HA.out a m).mono ?_)
  rintro e u1 ⟨rfl, rfl⟩
  rw [hx]
  clear hx
  go_wp2_with fail
  go_ret
  exact ⟨rfl, rfl⟩
set_option maxHeartbeats 8000000 in
set_option maxRecDepth 100000 in
theorem insert_long (h : KBuf.Buf w p g D cap) (a : Nat) (n : Int) (ha : a ≤ D.length) (hn : 9216 - (D.length : Int) < n) (hn2 : n ≤ 9223372036854775807) :
    Calls Try.prog 14 #[.pointer (some ⟨p, 0, none⟩), .int .i64 a, .int .i64 n] w fun e w' => e = .returned (.int .i64 5) ∧ w = w' := by
  have hsm := h.small
  obtain ⟨b, rfl⟩ := Int.eq_ofNat_of_zero_le (show 0 ≤ n by omega)
  have hmin := min_zero b
  have h1 : decide ((b : Int) > 9216 - (D.length : Int)) = true := decide_eq_true (by omega)
  have hc := h.cell
  have HA := Aside0.mk h
  clear h
  go_enter Try.func14, Try.ntmps14
  go_wp2_with fail
  go_at_call 29
  (with_reducible refine (off_zero HA.out a ha).mono ?_)
  rintro e u1 ⟨rfl, rfl⟩
  go_wp2_with fail
  go_ret
  exact ⟨rfl, rfl⟩
end
end Go.Proofs.Ytdjdgkjikibgaaa.PBuf
