/- SumRing: for every three numbers of 16 bits: Add does not hang on the row, nor on which are put together first; 0 of two 0s alone; 0 and 65535 change nothing. No condition. -/
import Derived.Test.YtieopkigfbnhcaaMSum
namespace Go.Proofs.Ytieopkigfbnhcaa.Pure
open Go.RowKit Go.Proofs.Ytieopkigfbnhcaa.PSum Go.Proofs.Ytieopkigfbnhcaa.MSum Go.Proofs.YtieopkigfbnhcaaW.PrintWords Go.Proofs.YtieopkigfbnhcaaW.PrintLast

theorem SumRing : turnoutlaw03_SumRing.Pure := by
  intro a b c ha hb hc
  have ha := bounds_u16 ha
  have hb := bounds_u16 hb
  have hc := bounds_u16 hc
  apply Ev.rounds
  unfold turnoutlaw03_SumRing.f
  have h1 := rep_range (n := a + b) (by omega)
  have h2 := rep_range (n := b + c) (by omega)
  refine Ev.bind (sum_add ha.1 (by omega) hb.1 (by omega)) ?_
  refine Ev.bind awake_ev ?_
  simp only [if_true]
  refine Ev.bind (ev_add (r := rep (a + b)) hb.1 (by omega) ha.1 (by omega) (by rw [Int.add_comm])) ?_
  simp only [if_true]
  refine Ev.bind (ev_add (r := rep (a + b + c)) h1.1 h1.2 hc.1 (by omega) (rep_add (by omega) hc.1)) ?_
  refine Ev.bind (sum_add hb.1 (by omega) hc.1 (by omega)) ?_
  refine Ev.bind (ev_add (r := rep (a + b + c)) ha.1 (by omega) h2.1 h2.2 (by rw [rep_add' ha.1 (by omega), Int.add_assoc])) ?_
  simp only [if_true]
  have hz := rep_eq_zero (n := a + b) (by omega)
  have hn : bits .xor .u16 65535 a = 65535 - a := not16 ha.1 (by omega)
  have e0 : rep (a + 0) = a := by rw [Int.add_zero, rep_small ha.1 (by omega)]
  have eN : rep (a + (65535 - a)) = 65535 := by
    have : a + (65535 - a) = 65535 := by omega
    rw [this]; rfl
  by_cases h : a = 0
  · have e : ((rep (a + b) == 0) == (b == 0)) = true := by
      have : (rep (a + b) == 0) = (b == 0) := by rw [Bool.eq_iff_iff]; simp only [beq_iff_eq]; rw [hz]; omega
      rw [this]; cases (b == 0) <;> rfl
    simp only [if_pos h, if_pos e]
    refine Ev.bind (ev_add (r := a) ha.1 (by omega) (by omega) (by omega) e0) ?_
    simp only [if_true]
    rw [hn]
    exact Ev.bind (ev_add (r := 65535) ha.1 (by omega) (by omega) (by omega) eN) (Ev.now _)
  · have e : ((rep (a + b) == 0) == false) = true := by
      have : (rep (a + b) == 0) = false := by rw [beq_eq_false_iff_ne]; intro h'; have := hz.1 h'; omega
      rw [this]; rfl
    simp only [if_neg h, if_pos e]
    refine Ev.bind (ev_add (r := a) ha.1 (by omega) (by omega) (by omega) e0) ?_
    simp only [if_true]
    refine Ev.bind (ev_add (r := a) ha.1 (by omega) (by omega) (by omega) (by unfold rep; split <;> omega)) ?_
    simp only [if_true]
    rw [hn]
    exact Ev.bind (ev_add (r := 65535) ha.1 (by omega) (by omega) (by omega) eN) (Ev.now _)
end Go.Proofs.Ytieopkigfbnhcaa.Pure
