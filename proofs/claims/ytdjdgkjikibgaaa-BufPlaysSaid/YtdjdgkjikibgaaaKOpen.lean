/- A slice of acts, as it is handed in: its cells. -/
import Derived.Test.YtdjdgkjikibgaaaKStays2
import Derived.Deep.Slices
namespace Go.Proofs.Ytdjdgkjikibgaaa.PBuf
open Go.RowKit Go.ChangeShapes
set_option linter.unusedVariables false
set_option linter.unusedSimpArgs false
section
variable {H : Type} {enc : TypeId × Value → H} {w : World} {base : Nat} {sp : Nat → Bool} {held : Bool}
theorem act_of {n : Nat} {cs : List Value} {x : DataW H × List MemPlace} (h : DataW.trod enc Try.prog w base sp held n 42 cs = some x) :
    ∃ k a m hh ll : Int, cs = [.int .u8 k, .int .i64 a, .int .i64 m, .int .u64 hh, .int .u64 ll] ∧ (Lit.int .u8 k).wf = true ∧ (Lit.int .i64 a).wf = true ∧ (Lit.int .i64 m).wf = true ∧ (Lit.int .u64 hh).wf = true ∧ (Lit.int .u64 ll).wf = true := by
  obtain ⟨xs, n', _, _, hl, hlen, hf⟩ := DataW.trod_struct Try.underlying42 h
  have hl5 : cs.length = 5 := hl.trans (by kernel_rfl)
  match cs, hl5 with
  | [c0, c1, c2, c3, c4], _ =>
    have hx4 : xs.length = 4 := hlen
    match xs, hx4 with
    | [y0, y1, y2, y3], _ =>
      have g0 : DataW.trod enc Try.prog w base sp held n' 5 (([c0, c1, c2, c3, c4].drop 0).take (Try.prog.cellsOf 5)) = [y0, y1, y2, y3][0]? := hf 0 _ rfl
      have g1 : DataW.trod enc Try.prog w base sp held n' 3 (([c0, c1, c2, c3, c4].drop 1).take (Try.prog.cellsOf 3)) = [y0, y1, y2, y3][1]? := hf 1 _ rfl
      have g2 : DataW.trod enc Try.prog w base sp held n' 3 (([c0, c1, c2, c3, c4].drop 2).take (Try.prog.cellsOf 3)) = [y0, y1, y2, y3][2]? := hf 2 _ rfl
      have g3 : DataW.trod enc Try.prog w base sp held n' 32 (([c0, c1, c2, c3, c4].drop 3).take (Try.prog.cellsOf 32)) = [y0, y1, y2, y3][3]? := hf 3 _ rfl
      rw [show Try.prog.cellsOf 5 = 1 from by kernel_rfl] at g0
      rw [show Try.prog.cellsOf 3 = 1 from by kernel_rfl] at g1 g2
      rw [show Try.prog.cellsOf 32 = 2 from by kernel_rfl] at g3
      have k0 : DataW.trod enc Try.prog w base sp held n' 5 [c0] = some y0 := g0
      have k1 : DataW.trod enc Try.prog w base sp held n' 3 [c1] = some y1 := g1
      have k2 : DataW.trod enc Try.prog w base sp held n' 3 [c2] = some y2 := g2
      have k3 : DataW.trod enc Try.prog w base sp held n' 32 [c3, c4] = some y3 := g3
      obtain ⟨zs, n'', _, _, ml, mlen, mf⟩ := DataW.trod_struct Try.underlying32 k3
      have hz2 : zs.length = 2 := mlen
      match zs, hz2 with
      | [z0, z1], _ =>
        have m0 : DataW.trod enc Try.prog w base sp held n'' 30 (([c3, c4].drop 0).take (Try.prog.cellsOf 30)) = [z0, z1][0]? := mf 0 _ rfl
        have m1 : DataW.trod enc Try.prog w base sp held n'' 30 (([c3, c4].drop 1).take (Try.prog.cellsOf 30)) = [z0, z1][1]? := mf 1 _ rfl
        rw [show Try.prog.cellsOf 30 = 1 from by kernel_rfl] at m0 m1
        have p0 : DataW.trod enc Try.prog w base sp held n'' 30 [c3] = some z0 := m0
        have p1 : DataW.trod enc Try.prog w base sp held n'' 30 [c4] = some z1 := m1
        obtain ⟨v0, e0, _, w0⟩ := DataW.trod_int Try.underlying5 k0
        obtain ⟨v1, e1, _, w1⟩ := DataW.trod_int Try.underlying3 k1
        obtain ⟨v2, e2, _, w2⟩ := DataW.trod_int Try.underlying3 k2
        obtain ⟨v3, e3, _, w3⟩ := DataW.trod_int Try.underlying30 p0
        obtain ⟨v4, e4, _, w4⟩ := DataW.trod_int Try.underlying30 p1
        simp only [List.cons.injEq, and_true] at e0 e1 e2 e3 e4
        subst e0 e1 e2 e3 e4
        exact ⟨v0, v1, v2, v3, v4, rfl, w0, w1, w2, w3, w4⟩
theorem act_at {n : Nat} {cs : List Value} {d : DataW H × List MemPlace} {y : Addr} (hc : w.cells? base y 5 = some cs) (h : DataW.trod enc Try.prog w base sp held n 42 cs = some d) : ∃ k a m hh ll, ActAt w y k a m hh ll := by
  obtain ⟨k, a, m, hh, ll, rfl, w0, w1, w2, w3, w4⟩ := act_of h
  obtain ⟨_, _, hcell⟩ := World.cells?_some hc
  have q0 := hcell 0 (by omega)
  have q1 := hcell 1 (by omega)
  have q2 := hcell 2 (by omega)
  have q3 := hcell 3 (by omega)
  have q4 := hcell 4 (by omega)
  have hsp : y.spot = none := by simpa [Addr.add] using World.cell?_spot q0
  obtain ⟨b, o, t⟩ := y
  subst hsp
  rw [Addr.add_lit] at q0 q1 q2 q3 q4
  have b0 : 0 ≤ k ∧ k < 256 := by simp [Lit.wf, IntKind.min, IntKind.max, IntKind.signed, IntKind.bits] at w0; omega
  have b1 := MSum.bounds_i64 w1
  have b2 := MSum.bounds_i64 w2
  have b3 : 0 ≤ hh ∧ hh < 18446744073709551616 := by simp [Lit.wf, IntKind.min, IntKind.max, IntKind.signed, IntKind.bits] at w3; omega
  have b4 : 0 ≤ ll ∧ ll < 18446744073709551616 := by simp [Lit.wf, IntKind.min, IntKind.max, IntKind.signed, IntKind.bits] at w4; omega
  exact ⟨k, a, m, hh, ll, q0, q1, q2, q3, q4, b0, b1, b2, b3, b4⟩
end
end Go.Proofs.Ytdjdgkjikibgaaa.PBuf
