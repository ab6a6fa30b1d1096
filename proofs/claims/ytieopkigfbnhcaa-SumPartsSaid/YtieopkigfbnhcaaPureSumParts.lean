/- SumParts: for every two texts: the sum of both is that of the sums of the parts. No condition. -/
import Derived.Test.YtieopkigfbnhcaaMSum2
namespace Go.Proofs.Ytieopkigfbnhcaa.Pure
open Go.RowKit Go.Proofs.Ytieopkigfbnhcaa.PSum Go.Proofs.Ytieopkigfbnhcaa.MSum Go.Proofs.YtieopkigfbnhcaaW.PrintWords Go.Proofs.YtieopkigfbnhcaaW.PrintLast

theorem parts_j1 (s t : ByteArray) (hs : s.size ≤ 140737488351232) (ht : t.size ≤ 140737488351232) (h : Bool) (hh : h = hi true s.data.toList) :
    Ev (fun k => turnoutlaw03_SumParts.j1 k s t (rep (W h t.data.toList))) true := by
  subst hh
  have r1 := W_range s.data.toList true
  have r2 := W_range t.data.toList (hi true s.data.toList)
  have h1 := rep_range r1.1
  have h2 := rep_range r2.1
  have e : ∀ L : List ByteArray, cat L = s.data.toList ++ t.data.toList → rep (W true (cat L)) = rep (W true s.data.toList + W (hi true s.data.toList) t.data.toList) := by
    intro L hL; rw [hL, W_append]
  have hw : ∀ L : List ByteArray, (∀ x ∈ L, x.size ≤ 281474976710656) → L.length ≤ 4611686018427387904 → cat L = s.data.toList ++ t.data.toList → Ev (fun k => sum_Sum.f k L) (rep (W true s.data.toList + W (hi true s.data.toList) t.data.toList)) := by
    intro L h1 h2 h3; rw [← e L h3]; exact sum_ev L h1 h2
  refine Ev.step (f := _) (fun k => by rw [turnoutlaw03_SumParts.j1]) ?_
  refine Ev.bind (sum_one s (by omega)) ?_
  refine Ev.bind (ev_add (r := rep (W true s.data.toList + W (hi true s.data.toList) t.data.toList)) h1.1 h1.2 h2.1 h2.2 (by rw [rep_add r1.1 h2.1, rep_add' r1.1 r2.1])) ?_
  simp only [if_pos (show s.size + t.size ≤ 9223372036854775807 by omega)]
  refine Ev.bind (hw [s ++ t] (by intro x hx; simp only [List.mem_singleton] at hx; rw [hx, size_app]; omega) (by simp) (by rw [cat_one, data_app])) ?_
  simp only [if_true]
  refine Ev.bind (hw [s, t] (by intro x hx; simp only [List.mem_cons, List.not_mem_nil, or_false] at hx; rcases hx with rfl | rfl <;> omega) (by simp) (by simp [cat])) ?_
  simp only [if_true]
  refine Ev.bind (hw [⟨#[]⟩, s, ⟨#[]⟩, t, ⟨#[]⟩] (by intro x hx; simp only [List.mem_cons, List.not_mem_nil, or_false] at hx; rcases hx with rfl | rfl | rfl | rfl | rfl <;> first | omega | decide) (by simp) (by simp [cat])) ?_
  simp only [if_true]
  refine Ev.bind (sum_of [s, t] (by intro x hx; simp only [List.mem_cons, List.not_mem_nil, or_false] at hx; rcases hx with rfl | rfl <;> omega) (by simp)) ?_
  rw [e [s, t] (by simp [cat])]
  have h3 := rep_range (n := W true s.data.toList + W (hi true s.data.toList) t.data.toList) (by omega)
  rw [not16 h3.1 h3.2, beq_self_eq_true]
  exact Ev.now _

theorem SumParts : turnoutlaw03_SumParts.Pure := by
  intro s t hs ht
  apply Ev.rounds
  unfold turnoutlaw03_SumParts.f
  obtain ⟨b, hb, hf⟩ := long_ev [s, t] (by simp)
  have hawake : Ev (fun k => turnoutlaw03_SumParts.j0 k s t true) true := by
    refine Ev.step (f := _) (fun k => by rw [turnoutlaw03_SumParts.j0]) ?_
    simp only [if_true]
    exact Ev.bind awake_ev (Ev.now _)
  refine Ev.bind hb ?_
  cases b with
  | true => simp only [if_true]; exact hawake
  | false =>
    simp only [Bool.false_eq_true, if_false]
    refine Ev.bind awake_ev ?_
    refine Ev.step (f := _) (fun k => by rw [turnoutlaw03_SumParts.j0]) ?_
    simp only [Bool.not_true, Bool.false_eq_true, if_false]
    refine Ev.bind (sum_one t (by omega)) ?_
    by_cases h : ((s.size : Int) % 2) = 1
    · simp only [if_pos h]
      rw [turned_rep]
      simp only [Option.bind_some]
      refine parts_j1 s t hs ht false ?_
      rw [hi_even, len_data, if_neg (by omega)]; rfl
    · simp only [if_neg h]
      refine parts_j1 s t hs ht true ?_
      rw [hi_even, len_data, if_pos (by omega)]
end Go.Proofs.Ytieopkigfbnhcaa.Pure
