/- SumNothing: for every text, place and number: bytes 0 behind, or two of them at an even place, change nothing; the sum is 0 of bytes 0 alone. No condition. -/
import Derived.Test.YtieopkigfbnhcaaMSum2
import Derived.Test.YtieopkigfbnhcaaPSumx6
set_option linter.unusedVariables false
set_option linter.unusedSimpArgs false
namespace Go.Proofs.Ytieopkigfbnhcaa.Pure
open Go.RowKit Go.Proofs.Ytieopkigfbnhcaa.PSum Go.Proofs.Ytieopkigfbnhcaa.MSum Go.Proofs.YtieopkigfbnhcaaW.PrintWords Go.Proofs.YtieopkigfbnhcaaW.PrintLast

theorem none_data (n : Nat) : (strOfNums (List.replicate n 0)).data.toList = List.replicate n 0 := by
  unfold strOfNums
  simp
theorem W_none (n : Nat) (h : Bool) : W h (List.replicate n 0) = 0 := (W_zero _ h).2 fun x hx => List.eq_of_mem_replicate hx

theorem nothing_l0 (s t : ByteArray) (hs : s.size ≤ 140737488351232) (n : Nat) (hn : n < 50) (ht : t.data.toList = List.replicate n 0) (q : Nat) (hq : 2 * q ≤ s.size) (d : Nat) : ∀ (i : Nat) (zero : Bool), i ≤ s.size → s.size - i = d → (zero = true ↔ ∀ x ∈ s.data.toList.take i, x = 0) →
    Ev (fun k => turnoutlaw03_SumNothing.l0 k s ((2 * q : Nat) : Int) t zero (i : Int)) true := by
  have htz : t.size = n := by rw [← len_data, ht, List.length_replicate]
  induction d with
  | zero =>
    intro i zero h1 hd hz
    obtain rfl : i = s.size := by omega
    rw [List.take_of_length_le (by rw [len_data]; omega)] at hz
    have r1 := W_range s.data.toList true
    have h1 := rep_range r1.1
    have hrz := rep_eq_zero r1.1
    refine Ev.step (f := _) (fun k => by rw [turnoutlaw03_SumNothing.l0]) ?_
    simp only [if_neg (show ¬ (s.size : Int) < (s.size : Int) by omega)]
    refine Ev.bind (sum_one s (by omega)) ?_
    have hev : ∀ L : List ByteArray, (∀ x ∈ L, x.size ≤ 281474976710656) → L.length ≤ 4611686018427387904 → W true (cat L) = W true s.data.toList → Ev (fun k => sum_Sum.f k L) (rep (W true s.data.toList)) := by
      intro L h1 h2 h3; rw [← h3]; exact sum_ev L h1 h2
    refine Ev.bind (hev [s, t] (by intro x hx; simp only [List.mem_cons, List.not_mem_nil, or_false] at hx; rcases hx with rfl | rfl <;> omega) (by simp) (by rw [cat_cons, cat_one, W_append, ht, W_none, Int.add_zero])) ?_
    simp only [if_true, if_pos (show (0 : Int) ≤ ((2 * q : Nat) : Int) by omega), if_pos (show ((2 * q : Nat) : Int) ≤ (s.size : Int) by omega), Int.toNat_natCast, Option.bind_some,
      if_pos (show (s.extract 0 (2 * q)).size + 2 ≤ 9223372036854775807 by rw [size_take _ _ hq]; omega), if_pos (show (s.extract 0 (2 * q) ++ (⟨#[0, 0]⟩ : ByteArray)).size + (s.extract (2 * q) s.size).size ≤ 9223372036854775807 by rw [size_app, size_take _ _ hq, size_drop]; show 2 * q + 2 + _ ≤ _; omega)]
    generalize hu : s.extract 0 (2 * q) ++ (⟨#[0, 0]⟩ : ByteArray) ++ s.extract (2 * q) s.size = u
    have hud : u.data.toList = s.data.toList.take (2 * q) ++ [0, 0] ++ s.data.toList.drop (2 * q) := by
      rw [← hu, data_app, data_app, data_take _ _ hq, data_drop]
    have huz : u.size = s.size + 2 := by rw [← hu, size_app, size_app, size_take _ _ hq, size_drop]; show 2 * q + 2 + _ = _; omega
    have hlen2 : (s.data.toList.take (2 * q)).length % 2 = 0 := by rw [List.length_take, len_data]; omega
    have hWu : W true u.data.toList = W true s.data.toList := by
      have e1 : W true s.data.toList = W true (s.data.toList.take (2 * q)) + W true (s.data.toList.drop (2 * q)) := by
        rw [← W_even _ _ hlen2, List.take_append_drop]
      rw [hud, W_mid _ _ _ _ hlen2, e1]; simp
    refine Ev.bind (hev [u] (by intro x hx; simp only [List.mem_singleton] at hx; rw [hx]; omega) (by simp) (by rw [cat_one, hWu])) ?_
    simp only [if_true]
    have e3 : W true (cat [t, t, s]) = W true s.data.toList := by
      rw [cat_cons, cat_cons, cat_one, W_append, W_append, ht, W_none, W_none, ← hi_append, hi_even, if_pos (by rw [List.length_append]; omega)]; omega
    refine Ev.bind (hev [t, t, s] (by intro x hx; simp only [List.mem_cons, List.not_mem_nil, or_false] at hx; rcases hx with rfl | rfl | rfl <;> omega) (by simp) e3) ?_
    simp only [if_true]
    have e4 : (rep (W true s.data.toList) == 0) = zero := by
      rw [Bool.eq_iff_iff, beq_iff_eq, hrz, W_zero]; exact hz.symm
    rw [e4, beq_self_eq_true]; exact Ev.now _
  | succ d ih =>
    intro i zero h1 hd hz
    have hi' : i < s.size := by omega
    have e1 : wrap64 ((i : Int) + 1) = ((i + 1 : Nat) : Int) := by rw [w64 (by omega) (by omega)]; omega
    have etake : s.data.toList.take (i + 1) = s.data.toList.take i ++ [s[i]] := by
      rw [List.take_succ_eq_append_getElem (by rw [len_data]; omega)]; rfl
    refine Ev.step (f := _) (fun k => by rw [turnoutlaw03_SumNothing.l0]) ?_
    simp only [if_pos (show (i : Int) < (s.size : Int) by omega), if_pos (show (0 : Int) ≤ (i : Int) by omega), e1]
    cases zero with
    | true =>
      simp only [if_true]
      refine ih (i + 1) _ (by omega) (by omega) ?_
      rw [bt_nat s i hi', etake]
      have hz' := hz.1 rfl
      rw [beq_iff_eq]
      constructor
      · intro h x hx
        rcases List.mem_append.1 hx with h' | h'
        · exact hz' x h'
        · rw [List.mem_singleton.1 h']; exact UInt8.toNat_inj.1 (by simpa using h)
      · intro h
        rw [h s[i] (by simp)]; rfl
    | false =>
      simp only [Bool.false_eq_true, if_false]
      refine ih (i + 1) false (by omega) (by omega) ?_
      constructor
      · intro h; cases h
      · intro h
        exact absurd (hz.2 fun x hx => h x (by rw [etake]; exact List.mem_append_left _ hx)) (by simp)

theorem SumNothing : turnoutlaw03_SumNothing.Pure := by
  intro s a1 a2 hs h1 h2
  apply Ev.rounds
  unfold turnoutlaw03_SumNothing.f
  obtain ⟨b, hb, hf⟩ := long_ev [s] (by simp)
  refine Ev.bind hb ?_
  cases b with
  | true =>
    simp only [if_true]
    refine Ev.step (f := _) (fun k => by rw [turnoutlaw03_SumNothing.j0]) ?_
    simp only [if_true]
    exact Ev.bind awake_ev (Ev.now _)
  | false =>
    simp only [Bool.false_eq_true, if_false]
    refine Ev.bind awake_ev ?_
    refine Ev.step (f := _) (fun k => by rw [turnoutlaw03_SumNothing.j0]) ?_
    simp only [Bool.not_true, Bool.false_eq_true, if_false]
    obtain ⟨q, hq, hp⟩ := place_ev s (by omega) a1
    rw [hp]; simp only [Option.bind_some]
    have e : wrap64 (Int.tmod (IntKind.u64.wrap a2) 50) = (((a2 % 18446744073709551616 % 50).toNat : Nat) : Int) := by
      rw [IntKind.wrap_u64, Int.tmod_eq_emod_of_nonneg (by omega), w64 (by omega) (by omega)]; omega
    rw [e]
    simp only [if_pos (show (0 : Int) ≤ (((a2 % 18446744073709551616 % 50).toNat : Nat) : Int) by omega), Int.toNat_natCast, if_pos (show (a2 % 18446744073709551616 % 50).toNat ≤ 281474976710656 by omega)]
    exact nothing_l0 s _ hs _ (by omega) (none_data _) q hq s.size 0 true (by omega) (by omega) (by simp)
end Go.Proofs.Ytieopkigfbnhcaa.Pure
