/- Tries: rows of acts, long, grown. -/
import Derived.Test.YtpchlnbnpgaocaaKTrie10
import Derived.Deep.Slices
namespace Go.Proofs.Ytpchlnbnpgaocaa.PTrie
open Go.Proofs.Ytpchlnbnpgaocaa.KTree Go.Proofs.Ytpchlnbnpgaocaa.KReg Go.Proofs.Ytpchlnbnpgaocaa.KBits Go.RowKit Go.Proofs.YtpchlnbnpgaocaaW.PrintWords Go.Proofs.YtpchlnbnpgaocaaW.PrintLast Go.Proofs.YtpchlnbnpgaocaaW.PrintMore
set_option linter.unusedVariables false
set_option linter.unusedSimpArgs false
open Go.ChangeShapes
section
variable {H : Type} {enc : TypeId × Value → H} {w : World} {base : Nat} {sp : Nat → Bool} {held : Bool}
theorem act_of {n : Nat} {cs : List Value} {x : DataW H × List MemPlace} (h : DataW.trod enc Try.prog w base sp held n 49 cs = some x) :
    ∃ y : S49, cs = [.int .u8 y.f0, .string y.f1, .int .i64 y.f2, .int .i64 y.f3] ∧ (Lit.int .u8 y.f0).wf = true := by
  obtain ⟨xs, n', _, _, hl, hlen, hf⟩ := DataW.trod_struct Try.underlying49 h
  have hl5 : cs.length = 4 := hl.trans (by kernel_rfl)
  match cs, hl5 with
  | [c0, c1, c2, c3], _ =>
    have hx4 : xs.length = 4 := hlen
    match xs, hx4 with
    | [y0, y1, y2, y3], _ =>
      have g0 : DataW.trod enc Try.prog w base sp held n' 5 (([c0, c1, c2, c3].drop 0).take (Try.prog.cellsOf 5)) = [y0, y1, y2, y3][0]? := hf 0 _ rfl
      have g1 : DataW.trod enc Try.prog w base sp held n' 9 (([c0, c1, c2, c3].drop 1).take (Try.prog.cellsOf 9)) = [y0, y1, y2, y3][1]? := hf 1 _ rfl
      have g2 : DataW.trod enc Try.prog w base sp held n' 3 (([c0, c1, c2, c3].drop 2).take (Try.prog.cellsOf 3)) = [y0, y1, y2, y3][2]? := hf 2 _ rfl
      have g3 : DataW.trod enc Try.prog w base sp held n' 3 (([c0, c1, c2, c3].drop 3).take (Try.prog.cellsOf 3)) = [y0, y1, y2, y3][3]? := hf 3 _ rfl
      rw [show Try.prog.cellsOf 5 = 1 from by kernel_rfl] at g0
      rw [show Try.prog.cellsOf 9 = 1 from by kernel_rfl] at g1
      rw [show Try.prog.cellsOf 3 = 1 from by kernel_rfl] at g2 g3
      have k0 : DataW.trod enc Try.prog w base sp held n' 5 [c0] = some y0 := g0
      have k1 : DataW.trod enc Try.prog w base sp held n' 9 [c1] = some y1 := g1
      have k2 : DataW.trod enc Try.prog w base sp held n' 3 [c2] = some y2 := g2
      have k3 : DataW.trod enc Try.prog w base sp held n' 3 [c3] = some y3 := g3
      obtain ⟨v0, e0, _, w0⟩ := DataW.trod_int Try.underlying5 k0
      obtain ⟨v1, e1, _⟩ := DataW.trod_string Try.underlying9 k1
      obtain ⟨v2, e2, _, w2⟩ := DataW.trod_int Try.underlying3 k2
      obtain ⟨v3, e3, _, w3⟩ := DataW.trod_int Try.underlying3 k3
      simp only [List.cons.injEq, and_true] at e0 e1 e2 e3
      subst e0 e1 e2 e3
      exact ⟨⟨v0, v1, v2, v3⟩, rfl, w0⟩
end
/-- The acts, as they lie. -/
def Acts (w : World) (a : Option Addr) (xs : List S49) : Prop := Kd.C k49 w a xs.length xs ∧ ∀ x, x ∈ xs → 0 ≤ x.f0 ∧ x.f0 < 256
theorem acts_of {H : Type} {enc : TypeId × Value → H} {base fuel : Nat} {sp : Nat → Bool} {held : Bool} (a : Option Addr) (N C : Nat) (w : World) (d : DataW H × List MemPlace)
    (h : DataW.trod enc Try.prog w base sp held fuel 22 [.slice a N C] = some d) : N ≤ C ∧ ∃ xs, xs.length = N ∧ Acts w a xs := by
  rcases Go.Deep.open_slice Try.underlying22 h with ⟨hcs, _⟩ | ⟨x, l, c, m, n', D, Pl, hcs, hb, hl, hmx, hmm, hx, hall⟩
  · simp only [List.cons.injEq, and_true, Value.slice.injEq] at hcs
    obtain ⟨rfl, rfl, rfl⟩ := hcs
    exact ⟨Nat.le_refl _, [], rfl, Kd.C_nil _ _, fun x hx => absurd hx List.not_mem_nil⟩
  · simp only [List.cons.injEq, and_true, Value.slice.injEq] at hcs
    obtain ⟨rfl, rfl, rfl⟩ := hcs
    have hlm : N ≤ m := by rw [hmm]; split <;> omega
    rw [show Try.prog.cellsOf 49 = 4 from by kernel_rfl] at hall
    have hact : ∀ i, i < N → ∃ y : S49, w.cells? base (x.add (i * 4)) 4 = some [.int .u8 y.f0, .string y.f1, .int .i64 y.f2, .int .i64 y.f3] ∧ (Lit.int .u8 y.f0).wf = true := fun i hi => by
      obtain ⟨cs', q1, q2⟩ := hall i (by omega)
      obtain ⟨y, rfl, hw⟩ := act_of q2
      exact ⟨y, q1, hw⟩
    refine ⟨hl, (List.range N).map (fun i => if hi : i < N then Classical.choose (hact i hi) else z49), by simp, ?_, ?_⟩
    · refine ⟨by simp, by unfold maxLen at hmx; simp; omega, fun h0 => ⟨x, rfl, fun j p hp => ?_⟩⟩
      obtain ⟨hj, hp2⟩ := List.getElem?_eq_some_iff.1 hp
      have hj2 : j < N := by simpa using hj
      rw [List.getElem_map, List.getElem_range, dif_pos hj2] at hp2
      have hq := (Classical.choose_spec (hact j hj2)).1
      rw [hp2] at hq
      obtain ⟨_, _, hcell⟩ := World.cells?_some hq
      refine ⟨_, rfl, k49_mk w p, fun i u hu => ?_⟩
      have hi : i < 4 := by
        have := (List.getElem?_eq_some_iff.1 hu).1
        simpa using this
      have := hcell i hi
      rw [Addr.add_add] at this
      exact this.trans hu
    · intro y hy
      obtain ⟨i, hi, rfl⟩ := List.mem_map.1 hy
      have hi2 := List.mem_range.1 hi
      rw [dif_pos hi2]
      have hw := (Classical.choose_spec (hact i hi2)).2
      generalize Classical.choose (hact i hi2) = y at hw ⊢
      simp [Lit.wf, IntKind.min, IntKind.max, IntKind.signed, IntKind.bits] at hw
      omega
def lsum : List S49 → Nat
  | [] => 0
  | x :: xs => 20 + min 4000 x.f1.size + lsum xs
theorem lsum_len : ∀ xs : List S49, 20 * xs.length ≤ lsum xs
  | [] => by simp [lsum]
  | x :: xs => by have := lsum_len xs; simp only [lsum, List.length_cons]; omega
theorem lsum_mem : ∀ (xs : List S49) (x : S49), x ∈ xs → min 4000 x.f1.size ≤ lsum xs
  | [], x, h => absurd h List.not_mem_nil
  | y :: xs, x, h => by
    rcases List.mem_cons.1 h with rfl | h
    · simp only [lsum]; omega
    · have := lsum_mem xs x h; simp only [lsum]; omega
theorem long_ev (xs : List S49) (hx : xs.length ≤ 140737488351232) : ∃ r, Ev (fun k => turnoutlaw11_long.f k xs) r ∧ (r = false → xs.length ≤ 200 ∧ ∀ x, x ∈ xs → x.f1.size ≤ 4000) := by
  have key : ∀ (ys : List S49) (i n : Nat), xs.drop i = ys → n ≤ 8020 → ∃ r, Ev (fun k => turnoutlaw11_long.l0 k xs n i) r ∧ (r = false → n + lsum ys < 4000) := by
    intro ys
    induction ys with
    | nil =>
      intro i n hd hn
      have hl := List.drop_eq_nil_iff.1 hd
      refine ⟨decide ((n : Int) ≥ 4000), Ev.step (f := fun _ => some (decide ((n : Int) ≥ 4000))) (fun k => by rw [turnoutlaw11_long.l0, if_neg (by omega)]) (Ev.now _), fun h => ?_⟩
      have := of_decide_eq_false h
      simp only [lsum]; omega
    | cons y ys ih =>
      intro i n hd hn
      have hl : i < xs.length := by
        rcases Nat.lt_or_ge i xs.length with h | h
        · exact h
        · rw [List.drop_of_length_le h] at hd; cases hd
      have hy : xs[i] = y := by
        rw [List.drop_eq_getElem_cons hl] at hd
        exact (List.cons.inj hd).1
      have hd2 : xs.drop (i + 1) = ys := by
        rw [List.drop_eq_getElem_cons hl] at hd
        exact (List.cons.inj hd).2
      by_cases h4 : n < 4000
      · obtain ⟨r, h1, h2⟩ := ih (i + 1) (n + 20 + min 4000 y.f1.size) hd2 (by omega)
        have e1 : rd_T49 xs (i : Int) = y := by unfold rd_T49; rw [Int.toNat_natCast, List.getD_eq_getElem?_getD, List.getElem?_eq_getElem hl]; exact hy
        have e2 : mn 4000 (y.f1.size : Int) = ((min 4000 y.f1.size : Nat) : Int) := by unfold mn; split <;> omega
        have e3 : wrap64 ((wrap64 ((n : Int) + 20)) + mn 4000 (y.f1.size : Int)) = ((n + 20 + min 4000 y.f1.size : Nat) : Int) := by
          rw [e2, MBits.w64 (n := (n : Int) + 20) (by omega) (by omega), MBits.w64 (by omega) (by omega)]; omega
        have e4 : wrap64 ((i : Int) + 1) = ((i + 1 : Nat) : Int) := by rw [MBits.w64 (by omega) (by omega)]; omega
        refine ⟨r, Ev.step (fun k => ?_) h1, fun h => ?_⟩
        · rw [turnoutlaw11_long.l0, if_pos (by omega), if_pos (by omega), if_pos (by omega), e1, e3, e4]
        · have := h2 h
          simp only [lsum]; omega
      · refine ⟨true, Ev.step (f := fun _ => some true) (fun k => by rw [turnoutlaw11_long.l0, if_pos (by omega), if_neg (by omega), decide_eq_true (by omega)]) (Ev.now _), fun h => absurd h (by decide)⟩
  obtain ⟨r, h1, h2⟩ := key xs 0 0 rfl (by omega)
  refine ⟨r, h1, fun h => ?_⟩
  have h3 := h2 h
  have h4 := lsum_len xs
  refine ⟨by omega, fun x hx => ?_⟩
  have := lsum_mem xs x hx
  omega
theorem long_c (a : Option Addr) (C : Nat) (xs : List S49) (w u : World) (hb : Below w.heap.size w u) (hA : Acts w a xs) (hC : xs.length ≤ C) (hx : xs.length ≤ 140737488351232) :
    Calls Try.prog 8 #[.slice a xs.length C] u fun e u' => ∃ r, e = .returned (.bool r) ∧ Below w.heap.size w u' ∧ (r = false → xs.length ≤ 200 ∧ ∀ x, x ∈ xs → x.f1.size ≤ 4000) := by
  obtain ⟨r, h1, h2⟩ := long_ev xs hx
  obtain ⟨k, hk⟩ := Ev.at h1
  exact (turnoutlaw11_long.calls k a C xs r u (Kd.C_below hA.1 hb) hC hk).mono fun e u' hd => ⟨r, hd.1, below_step hb hd.2, h2⟩
/-- What an act makes of a tree. -/
noncomputable def gstep (t : Tri) (a : S49) : Tri := if a.f0 % 4 = 1 then tdel a.f1 a.f2 t else tput a.f1 a.f2 a.f3 t
noncomputable def grow (xs : List S49) : Tri := xs.foldl gstep aw0
theorem Sm.step {N : Nat} {t : Tri} (h : Sm N t) (a : S49) : Sm (N + 1) (gstep t a) := by
  unfold gstep
  split
  · exact (h.del _ _).up (Nat.le_succ _)
  · exact h.put _ _ _
theorem sm_take : ∀ (xs : List S49) (t : Tri) (N : Nat), Sm N t → Sm (N + xs.length) (xs.foldl gstep t)
  | [], t, N, h => h
  | x :: xs, t, N, h => by
    have := sm_take xs (gstep t x) (N + 1) (h.step x)
    rw [List.length_cons, show N + (xs.length + 1) = N + 1 + xs.length by omega]
    exact this
theorem aw0_sm : Sm 0 aw0 := ⟨by decide, by decide⟩
theorem grow_sm (xs : List S49) : Sm xs.length (grow xs) := by have := sm_take xs aw0 0 aw0_sm; rwa [Nat.zero_add] at this
theorem grow_take (xs : List S49) (i : Nat) (h : i < xs.length) : grow (xs.take (i + 1)) = gstep (grow (xs.take i)) xs[i] := by
  unfold grow
  rw [List.take_succ_eq_append_getElem h, List.foldl_append]; rfl
/-- An act's cells. -/
theorem act_cells {w u : World} {a : Option Addr} {xs : List S49} (h : Acts w a xs) (hb : Below w.heap.size w u) (i : Nat) (hi : i < xs.length) : ∃ B O, a = some ⟨B, O, none⟩ ∧
    u.cell? ⟨B, O + i * 4, none⟩ = some (.int .u8 (xs[i]).f0) ∧ u.cell? ⟨B, O + i * 4 + 1, none⟩ = some (.string (xs[i]).f1) ∧ u.cell? ⟨B, O + i * 4 + 2, none⟩ = some (.int .i64 (xs[i]).f2) ∧ u.cell? ⟨B, O + i * 4 + 3, none⟩ = some (.int .i64 (xs[i]).f3) := by
  have hC := Kd.C_below h.1 hb
  obtain ⟨ad, ha, c0, c1, c2, c3⟩ := at_T49 hC (i : Int) (by omega) (by omega)
  obtain ⟨ad2, ha2, z0, _⟩ := at_T49 hC 0 (by omega) (by omega)
  obtain rfl : ad = ad2 := by rw [ha] at ha2; exact Option.some.inj ha2
  have hsp : ad.spot = none := by simpa [Addr.add] using World.cell?_spot z0
  have e : rd_T49 xs (i : Int) = xs[i] := by unfold rd_T49; rw [Int.toNat_natCast, List.getD_eq_getElem?_getD, List.getElem?_eq_getElem hi]; rfl
  obtain ⟨B, O, sp⟩ := ad
  dsimp only at hsp
  subst hsp
  rw [e, Int.toNat_natCast, Addr.add_lit] at c0 c1 c2 c3
  exact ⟨B, O, ha, c0, c1, c2, c3⟩
end Go.Proofs.Ytpchlnbnpgaocaa.PTrie
