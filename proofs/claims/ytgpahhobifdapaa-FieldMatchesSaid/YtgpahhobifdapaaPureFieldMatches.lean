/- FieldMatches: a field matches just if it is alike wherever the mask has a bit, and the value has no other bits. -/
import Derived.Test.YtgpahhobifdapaaMTell
import Derived.Test.YtgpahhobifdapaaPFieldx13
set_option linter.unusedVariables false
set_option linter.unusedSimpArgs false
namespace Go.Proofs.Ytgpahhobifdapaa.Pure
open Go.RowKit Go.Proofs.Ytgpahhobifdapaa.PField Go.Proofs.Ytgpahhobifdapaa.MBits Go.Proofs.Ytgpahhobifdapaa.MWord Go.Proofs.Ytgpahhobifdapaa.MField Go.Proofs.Ytgpahhobifdapaa.MPut Go.Proofs.Ytgpahhobifdapaa.MTell Go.Proofs.YtgpahhobifdapaaW.PrintWords Go.Proofs.YtgpahhobifdapaaW.PrintLast

theorem xor_ev (x y : W) : word_Xor.f (hi x) (lo x) (hi y) (lo y) = some (hi (x ^^^ y), lo (x ^^^ y)) := by
  unfold word_Xor.f; rw [xor_hi, xor_lo]
theorem not_xor (w b : W) (i : Nat) (hi : i < 128) (hb : b = 1#128 <<< i) : ((w &&& b) == ((w &&& b) ^^^ b)) = false := by
  rw [beq_eq_false_iff_ne]
  intro h
  have h1 := congrArg (fun x : W => x.getLsbD i) h
  simp only [BitVec.getLsbD_xor, BitVec.getLsbD_and] at h1
  have h2 : b.getLsbD i = true := by rw [hb, BitVec.getLsbD_shiftLeft]; simp [hi]
  rw [h2] at h1
  cases hw : w.getLsbD i <;> rw [hw] at h1 <;> simp at h1
theorem match_l (s : ByteArray) (o n : Nat) (h1 : 1 ≤ n) (h2 : n ≤ 128) (h3 : o + n ≤ 8 * s.size) (hs : s.size ≤ 140737488351232) : ∀ d i : Nat, i + d = n →
    Ev (fun k => turnoutlaw02_FieldMatches.l0 k s o n i (hi (BitVec.ofNat 128 (num s o n))) (lo (BitVec.ofNat 128 (num s o n)))) true := by
  intro d
  induction d with
  | zero =>
    intro i h
    refine Ev.step (f := _) (fun k => by rw [turnoutlaw02_FieldMatches.l0]) ?_
    exact Ev.in (by omega) (Ev.now _)
  | succ d ih =>
    intro i h
    refine Ev.step (f := _) (fun k => by rw [turnoutlaw02_FieldMatches.l0]) ?_
    refine Ev.ip (by omega) ?_
    have hl : turnoutlaw02_low.f 1 = some (hi 1#128, lo 1#128) := by rw [one_hi, one_lo]; rfl
    have e : wrap64 ((i : Int) + 1) = ((i + 1 : Nat) : Int) := by rw [w64 (by omega) (by omega)]; omega
    rw [e]
    refine Ev.pb hl ?_
    have hleft := left_ev 1#128 (i : Int) (by omega) (by omega)
    rw [Int.toNat_natCast] at hleft
    refine Ev.pb hleft ?_
    obtain ⟨b, hb⟩ : ∃ b : W, b = 1#128 <<< i := ⟨_, rfl⟩
    rw [← hb]
    refine Ev.pb (and_ev _ b) ?_
    refine Ev.bind (match_ok s o n _ b h1 h2 h3 hs) ?_
    refine Ev.pb (and_ev _ b) ?_
    refine Ev.pb (xor_ev _ b) ?_
    refine Ev.bind (match_ok s o n _ b h1 h2 h3 hs) ?_
    refine Ev.ip (beq_self_eq_true _) ?_
    refine Ev.in (by rw [not_xor _ b i (by omega) hb]; decide) ?_
    exact ih (i + 1) (by omega)
theorem FieldMatches : turnoutlaw02_FieldMatches.Pure := by
  refine ⟨fun s o n v0 v1 m0 m1 hs ho hn h0 h1 h2 h3 => ?_, awake_only⟩
  apply Ev.rounds
  unfold turnoutlaw02_FieldMatches.f
  obtain ⟨v, rfl, rfl⟩ := halves v0 v1 (bounds_u64 h0) (bounds_u64 h1)
  obtain ⟨m, rfl, rfl⟩ := halves m0 m1 (bounds_u64 h2) (bounds_u64 h3)
  by_cases h : (s.size : Int) > 3000
  · refine Ev.ip h ?_
    refine Ev.step (f := _) (fun k => by rw [turnoutlaw02_FieldMatches.j0]) ?_
    exact Ev.ip rfl (Ev.bind awake_ev (Ev.now _))
  · refine Ev.in h ?_
    refine Ev.bind awake_ev ?_
    refine Ev.step (f := _) (fun k => by rw [turnoutlaw02_FieldMatches.j0]) ?_
    refine Ev.in (by decide) ?_
    by_cases hm : may s o n = 0
    · obtain ⟨o, n, rfl, rfl, h1, h2, h3⟩ := may_zero hm
      obtain ⟨w, hw⟩ : ∃ w : W, w = BitVec.ofNat 128 (num s o n) := ⟨_, rfl⟩
      have hmt := fun v m => match_ok s o n v m h1 h2 h3 hs
      have hgt := get_ok s o n h1 h2 h3 hs
      have hl := match_l s o n h1 h2 h3 hs n 0 (by omega)
      rw [← hw] at hgt hl
      simp only [← hw] at hmt
      refine Ev.bind (hmt v m) ?_
      refine Ev.bind hgt ?_
      refine Ev.ip rfl ?_
      refine Ev.step (f := _) (fun k => by rw [turnoutlaw02_FieldMatches.j1]) ?_
      refine Ev.in (by show ¬ (((0 : Int) != 0) = true); decide) ?_
      refine Ev.pb (and_ev w m) ?_
      refine Ev.bind (hmt (w &&& m) m) ?_
      refine Ev.ip rfl ?_
      refine Ev.ip (beq_self_eq_true _) ?_
      refine Ev.pb (and_ev w m) ?_
      refine Ev.step (f := _) (fun k => by rw [turnoutlaw02_FieldMatches.j2]) ?_
      have e : (((w &&& m) == v) != (hi v == hi (w &&& m) && (lo v == lo (w &&& m)))) = false := by
        rw [beq2, BEq.comm]; simp
      refine Ev.in ?_ hl
      show ¬ ((((w &&& m) == v) != (hi v == hi (w &&& m) && (lo v == lo (w &&& m)))) = true)
      rw [e]; decide
    · refine Ev.bind (match_bad s o n _ _ _ _ hs hm) ?_
      refine Ev.bind (get_bad s o n hs hm) ?_
      refine Ev.ip rfl ?_
      refine Ev.step (f := _) (fun k => by rw [turnoutlaw02_FieldMatches.j1]) ?_
      refine Ev.ip (by show (may s o n != 0) = true; simpa using hm) ?_
      exact Ev.ip rfl (Ev.now _)

end Go.Proofs.Ytgpahhobifdapaa.Pure
