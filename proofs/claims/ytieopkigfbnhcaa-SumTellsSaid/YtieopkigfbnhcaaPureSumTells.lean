/- SumTells: for every list of texts: the sum, the checksum, and whether the text is good, are the document's. No condition. -/
import Derived.Test.YtieopkigfbnhcaaMSumT
set_option linter.unusedVariables false
set_option linter.unusedSimpArgs false
namespace Go.Proofs.Ytieopkigfbnhcaa.Pure
open Go.RowKit Go.Proofs.Ytieopkigfbnhcaa.PSumT Go.Proofs.Ytieopkigfbnhcaa.MSumT Go.Proofs.YtieopkigfbnhcaaW.PrintWords Go.Proofs.YtieopkigfbnhcaaW.PrintLast

theorem Ev.ip {β : Type} {c : Prop} [Decidable c] (h : c) {f g : Nat → Option β} {r : β} (k : Ev f r) : Ev (fun n => if c then f n else g n) r := by
  simpa only [if_pos h] using k
theorem Ev.in {β : Type} {c : Prop} [Decidable c] (h : ¬ c) {f g : Nat → Option β} {r : β} (k : Ev g r) : Ev (fun n => if c then f n else g n) r := by
  simpa only [if_neg h] using k

theorem cat_size (L : List ByteArray) : (cat L).length ≤ tot L := by
  induction L with
  | nil => simp [cat]
  | cons s L ih => rw [cat_cons, List.length_append, len_data]; simp only [tot, List.map_cons, List.sum_cons] at ih ⊢; omega
theorem cat_app (L M : List ByteArray) : cat (L ++ M) = cat L ++ cat M := by
  simp only [cat, List.map_append, List.flatten_append]
theorem tot_mem (L : List ByteArray) : ∀ s ∈ L, s.size ≤ tot L := by
  induction L with
  | nil => simp
  | cons s L ih =>
    intro x hx
    simp only [tot, List.map_cons, List.sum_cons] at ih ⊢
    rcases List.mem_cons.1 hx with rfl | h
    · omega
    · have := ih x h; omega

theorem joined_l0 (L : List ByteArray) (hl : L.length ≤ 4611686018427387904) (ht : tot L < 40000) (d : Nat) : ∀ (j : Nat) (s : ByteArray), j ≤ L.length → L.length - j = d → s.data.toList = cat (L.take j) →
    ∃ t : ByteArray, t.data.toList = cat L ∧ Ev (fun k => turnoutref03_Joined.l0 k L s (j : Int)) t := by
  induction d with
  | zero =>
    intro j s h1 hd hs
    obtain rfl : j = L.length := by omega
    rw [List.take_of_length_le (Nat.le_refl _)] at hs
    refine ⟨s, hs, ?_⟩
    refine Ev.step (f := _) (fun k => by rw [turnoutref03_Joined.l0]) ?_
    exact Ev.in (by omega) (Ev.now _)
  | succ d ih =>
    intro j s h1 hd hs
    have hj : j < L.length := by omega
    have hc : ∀ i, (cat (L.take i)).length ≤ 40000 := by
      intro i
      have e := List.take_append_drop i L
      have h2 : cat L = cat (L.take i) ++ cat (L.drop i) := by
        rw [← cat_app, e]
      have := cat_size L
      rw [h2, List.length_append] at this
      omega
    have hsz : s.size ≤ 40000 := by rw [← len_data, hs]; exact hc j
    have hx := tot_mem L L[j] (List.getElem_mem hj)
    obtain ⟨t, ht', he⟩ := ih (j + 1) (s ++ L[j]) (by omega) (by omega) (by
      rw [List.take_succ_eq_append_getElem hj]
      rw [cat_app, cat_one, ← hs]
      simp)
    refine ⟨t, ht', ?_⟩
    refine Ev.step (f := _) (fun k => by rw [turnoutref03_Joined.l0]) ?_
    refine Ev.ip (by omega) ?_
    refine Ev.ip (by omega) ?_
    rw [rdOf_nat _ _ _ hj]
    refine Ev.ip (by omega) ?_
    rw [w64 (by omega) (by omega)]
    exact he

theorem SumTells : turnoutlaw03_SumTells.Pure := by
  intro L hl hs
  apply Ev.rounds
  unfold turnoutlaw03_SumTells.f
  obtain ⟨b, hb, hf⟩ := long_ev L (by omega)
  refine Ev.bind hb ?_
  cases b with
  | true => exact Ev.ip rfl (Ev.bind awake_ev (Ev.now _))
  | false =>
    refine Ev.in (by decide) ?_
    have ht := hf rfl
    obtain ⟨t, htd, hj⟩ := joined_l0 L (by omega) ht L.length 0 ⟨#[]⟩ (by omega) (by omega) rfl
    have htz : t.size < 40000 := by
      have := cat_size L
      rw [← htd, len_data] at this; omega
    have hm := tot_mem L
    have e1 : Ev (fun k => sum_Sum.f k L) (rep (W true t.data.toList)) := by
      rw [htd]; exact sum_ev L (fun s h => by have := hm s h; omega) (by omega)
    have e2 : Ev (fun k => sum_Of.f k L) (65535 - rep (W true t.data.toList)) := by
      rw [htd]; exact sum_of L (fun s h => by have := hm s h; omega) (by omega)
    have r1 := ref_sum t (by omega)
    refine Ev.bind hj ?_
    refine Ev.bind e1 ?_
    refine Ev.bind r1 ?_
    refine Ev.ip rfl ?_
    refine Ev.bind e2 ?_
    refine Ev.bind (ref_of t (by omega)) ?_
    refine Ev.ip rfl ?_
    refine Ev.bind (sum_one t (by omega)) ?_
    refine Ev.bind r1 ?_
    refine Ev.ip rfl ?_
    refine Ev.bind (sum_good t (by omega)) ?_
    refine Ev.bind r1 ?_
    refine Ev.ip (beq_self_eq_true _) ?_
    exact Ev.bind awake_ev (Ev.now _)
end Go.Proofs.Ytieopkigfbnhcaa.Pure
