/- SumNames: the examples; what goes round at both ends; long texts. A closed statement. -/
import Derived.Test.YtieopkigfbnhcaaMSumN
set_option linter.unusedVariables false
set_option linter.unusedSimpArgs false
namespace Go.Proofs.Ytieopkigfbnhcaa.Pure
open Go.RowKit Go.Proofs.Ytieopkigfbnhcaa.PSumN Go.Proofs.Ytieopkigfbnhcaa.MSumN Go.Proofs.YtieopkigfbnhcaaW.PrintWords Go.Proofs.YtieopkigfbnhcaaW.PrintLast

theorem Ev.ip {β : Type} {c : Prop} [Decidable c] (h : c) {f g : Nat → Option β} {r : β} (k : Ev f r) : Ev (fun n => if c then f n else g n) r := by
  simpa only [if_pos h] using k
theorem Ev.in {β : Type} {c : Prop} [Decidable c] (h : ¬ c) {f g : Nat → Option β} {r : β} (k : Ev g r) : Ev (fun n => if c then f n else g n) r := by
  simpa only [if_neg h] using k

theorem W_rep (m : Nat) : W true (List.replicate (2 * m) (255 : UInt8)) = 65535 * m := by
  induction m with
  | zero => rfl
  | succ m ih =>
    have e : 2 * (m + 1) = 2 * m + 1 + 1 := by omega
    rw [e, List.replicate_succ, List.replicate_succ]
    simp only [W, ih]
    have : (255 : UInt8).toNat = 255 := rfl
    rw [this]; omega
theorem str_data (n : Nat) : (strOfNums (List.replicate n 255)).data.toList = List.replicate n 255 := by
  unfold strOfNums
  rw [List.map_replicate]
  simp
theorem str_size (n : Nat) : (strOfNums (List.replicate n 255)).size = n := by
  rw [← len_data, str_data, List.length_replicate]

theorem names_end (m : Nat) (hm : 0 < m) (hm' : 2 * m ≤ 281474976710656) : Ev (fun k => turnoutlaw03_SumNames.l0 k (List.replicate (2 * m) 255) ((2 * m : Nat) : Int)) true := by
  have hlen : (List.replicate (2 * m) (255 : Int)).length = 2 * m := List.length_replicate
  refine Ev.step (f := _) (fun k => by rw [turnoutlaw03_SumNames.l0]) ?_
  refine Ev.in (by rw [hlen]; omega) ?_
  generalize hs : strOfNums (List.replicate (2 * m) 255) = s
  have hd : s.data.toList = List.replicate (2 * m) 255 := by rw [← hs, str_data]
  have hz : s.size = 2 * m := by rw [← hs, str_size]
  have hW : W true s.data.toList = 65535 * m := by rw [hd, W_rep]
  have htop : rep (65535 * (m : Int)) = 65535 := by unfold rep; rw [if_neg (by omega)]; omega
  refine Ev.bind (a := 65535) (by have := sum_one s (by omega); rwa [hW, htop] at this) ?_
  refine Ev.ip rfl ?_
  have h2 : Ev (fun k => sum_Sum.f k [s, (⟨#[0, 1]⟩ : ByteArray)]) 1 := by
    have := sum_ev [s, (⟨#[0, 1]⟩ : ByteArray)] (by intro x hx; simp only [List.mem_cons, List.not_mem_nil, or_false] at hx; rcases hx with rfl | rfl; omega; decide) (by simp)
    rw [cat_cons, W_append, hW, hi_even, if_pos (by rw [len_data]; omega)] at this
    have e : W true (cat [(⟨#[0, 1]⟩ : ByteArray)]) = 1 := by decide
    rw [e] at this
    have e2 : rep (65535 * (m : Int) + 1) = 1 := by unfold rep; rw [if_neg (by omega)]; omega
    rwa [e2] at this
  refine Ev.bind h2 ?_
  refine Ev.ip rfl ?_
  refine Ev.bind (ev_good (r := true) (by omega) (by rw [hW, htop]; rfl)) ?_
  refine Ev.ip rfl ?_
  refine Ev.bind (ev_good (r := false) (by decide) (by decide)) ?_
  refine Ev.in (by decide) ?_
  refine Ev.bind (ev_good (r := false) (by decide) (by decide)) ?_
  refine Ev.in (by decide) ?_
  refine Ev.bind (ev_good (r := true) (by decide) (by decide)) ?_
  refine Ev.ip rfl ?_
  refine Ev.bind (ev_upd (r := 0) (by decide) (by decide) (by decide) (by decide) (by decide) (by decide) (by decide)) ?_
  refine Ev.ip rfl ?_
  refine Ev.bind (ev_upd (r := 0) (by decide) (by decide) (by decide) (by decide) (by decide) (by decide) (by decide)) ?_
  refine Ev.ip rfl ?_
  exact Ev.bind (ev_upd (r := 65535) (by decide) (by decide) (by decide) (by decide) (by decide) (by decide) (by decide)) (Ev.now _)

theorem names_l0 (m : Nat) (hm : 0 < m) (hm' : 2 * m ≤ 281474976710656) (d : Nat) : ∀ (i : Nat), i + d = 2 * m → Ev (fun k => turnoutlaw03_SumNames.l0 k (List.replicate i 255 ++ List.replicate d 0) (i : Int)) true := by
  induction d with
  | zero =>
    intro i h
    obtain rfl : i = 2 * m := by omega
    rw [List.replicate_zero, List.append_nil]
    exact names_end m hm hm'
  | succ d ih =>
    intro i h
    refine Ev.step (f := _) (fun k => by rw [turnoutlaw03_SumNames.l0]) ?_
    have hl : (List.replicate i (255 : Int) ++ List.replicate (d + 1) 0).length = 2 * m := by rw [List.length_append, List.length_replicate, List.length_replicate, h]
    refine Ev.ip (by rw [hl]; omega) ?_
    refine Ev.ip (by omega) ?_
    have e1 : wrap64 ((i : Int) + 1) = ((i + 1 : Nat) : Int) := by rw [w64 (by omega) (by omega)]; omega
    have e2 : (List.replicate i (255 : Int) ++ List.replicate (d + 1) 0).set (i : Int).toNat 255 = List.replicate (i + 1) 255 ++ List.replicate d 0 := by
      rw [Int.toNat_natCast, List.set_append_right _ _ (by rw [List.length_replicate]; omega), List.length_replicate, Nat.sub_self, List.replicate_succ, List.set_cons_zero, List.replicate_succ', List.append_assoc]
      rfl
    rw [e1, e2]
    exact ih (i + 1) (by omega)

theorem names_j0 : Ev (fun k => turnoutlaw03_SumNames.j0 k false) true := by
  refine Ev.step (f := _) (fun k => by rw [turnoutlaw03_SumNames.j0]) ?_
  refine Ev.in (by decide) ?_
  refine Ev.ip (by omega) ?_
  have := names_l0 150000 (by omega) (by omega) 300000 0 (by omega)
  rw [List.replicate_zero, List.nil_append] at this
  exact this

theorem SumNames : turnoutlaw03_SumNames.Pure := by
  apply Ev.rounds
  unfold turnoutlaw03_SumNames.f
  refine Ev.bind awake_ev ?_
  refine Ev.ip rfl ?_
  refine Ev.bind (ev_sum (r := 0) (by decide) (by decide) (by decide)) ?_
  refine Ev.ip rfl ?_
  refine Ev.bind (ev_of (r := 65535) (by decide) (by decide) (by decide)) ?_
  refine Ev.ip rfl ?_
  refine Ev.bind (ev_add (r := 0) (by decide) (by decide) (by decide) (by decide) (by decide)) ?_
  refine Ev.ip rfl ?_
  refine Ev.bind (ev_add (r := 65535) (by decide) (by decide) (by decide) (by decide) (by decide)) ?_
  refine Ev.ip rfl ?_
  refine Ev.bind (ev_add (r := 1) (by decide) (by decide) (by decide) (by decide) (by decide)) ?_
  refine Ev.ip rfl ?_
  refine Ev.bind (ev_add (r := 65535) (by decide) (by decide) (by decide) (by decide) (by decide)) ?_
  refine Ev.ip rfl ?_
  refine Ev.bind (ev_sum (r := 65280) (by decide) (by decide) (by decide)) ?_
  refine Ev.ip rfl ?_
  refine Ev.bind (ev_sum (r := 65535) (by decide) (by decide) (by decide)) ?_
  refine Ev.ip rfl ?_
  refine Ev.bind (ev_sum (r := 1) (by decide) (by decide) (by decide)) ?_
  exact names_j0
end Go.Proofs.Ytieopkigfbnhcaa.Pure
