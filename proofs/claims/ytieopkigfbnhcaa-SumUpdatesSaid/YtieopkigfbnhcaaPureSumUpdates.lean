/- SumUpdates: for every text, place and number: where a word at an even place becomes another one, and the text is not 0 then, Update of its checksum is the checksum of the text as it is then. No condition. -/
import Derived.Test.YtieopkigfbnhcaaMSum2
import Derived.Test.YtieopkigfbnhcaaPSumx5
set_option linter.unusedVariables false
set_option linter.unusedSimpArgs false
namespace Go.Proofs.Ytieopkigfbnhcaa.Pure
open Go.RowKit Go.Proofs.Ytieopkigfbnhcaa.PSum Go.Proofs.Ytieopkigfbnhcaa.MSum Go.Proofs.YtieopkigfbnhcaaW.PrintWords Go.Proofs.YtieopkigfbnhcaaW.PrintLast

theorem updates_l0 (s t : ByteArray) (w was : Int) (hs : s.size ≤ 281474976710656) (ht : t.size ≤ 281474976710656) (hw : 0 ≤ w ∧ w ≤ 65535) (hwas : 0 ≤ was ∧ was ≤ 65535)
    (hWs : was ≤ W true s.data.toList) (hWt : W true t.data.toList = W true s.data.toList - was + w) (d : Nat) : ∀ (i : Nat) (any : Bool), i ≤ t.size → t.size - i = d → (any = true → W true t.data.toList ≠ 0) →
    Ev (fun k => turnoutlaw03_SumUpdates.l0 k s w was t any (i : Int)) true := by
  induction d with
  | zero =>
    intro i any h1 hd ha
    obtain rfl : i = t.size := by omega
    refine Ev.step (f := _) (fun k => by rw [turnoutlaw03_SumUpdates.l0]) ?_
    simp only [if_neg (show ¬ (t.size : Int) < (t.size : Int) by omega)]
    cases any with
    | false => simp only [Bool.false_eq_true, if_false]; exact Ev.now _
    | true =>
      simp only [if_true]
      have r1 := W_range s.data.toList true
      have r2 := W_range t.data.toList true
      have h1 := rep_range r1.1
      have h2 := rep_range r2.1
      refine Ev.bind (sum_of [s] (by simpa using hs) (by simp)) ?_
      rw [cat_one]
      refine Ev.bind (sum_upd (by omega) (by omega) hwas.1 hwas.2 hw.1 hw.2) ?_
      refine Ev.bind (sum_of [t] (by simpa using ht) (by simp)) ?_
      rw [cat_one]
      have e : upd (65535 - rep (W true s.data.toList)) was w = 65535 - rep (W true t.data.toList) := by
        unfold upd
        congr 1
        have hm := rep_mod r1.1
        have hz := rep_eq_zero r1.1
        have hne := ha rfl
        apply rep_congr
        · omega
        · omega
      rw [e, beq_self_eq_true]; exact Ev.now _
  | succ d ih =>
    intro i any h1 hd ha
    have hi' : i < t.size := by omega
    have e1 : wrap64 ((i : Int) + 1) = ((i + 1 : Nat) : Int) := by rw [w64 (by omega) (by omega)]; omega
    refine Ev.step (f := _) (fun k => by rw [turnoutlaw03_SumUpdates.l0]) ?_
    simp only [if_pos (show (i : Int) < (t.size : Int) by omega), if_pos (show (0 : Int) ≤ (i : Int) by omega), e1]
    cases any with
    | true => simp only [if_true]; exact ih (i + 1) true (by omega) (by omega) ha
    | false =>
      simp only [Bool.false_eq_true, if_false]
      refine ih (i + 1) _ (by omega) (by omega) fun h hz => ?_
      rw [bt_nat t i hi'] at h
      have := (W_zero t.data.toList true).1 hz t[i] (by have := List.getElem_mem (l := t.data.toList) (n := i) (by rw [len_data]; omega); exact this)
      rw [this] at h
      simp at h

theorem updates_j0 (s : ByteArray) (hs : s.size ≤ 140737488351232) (h2 : 2 ≤ s.size) (a1 w : Int) (hw : 0 ≤ w ∧ w ≤ 65535) : Ev (fun k => turnoutlaw03_SumUpdates.j0 k s a1 w false) true := by
  refine Ev.step (f := _) (fun k => by rw [turnoutlaw03_SumUpdates.j0]) ?_
  simp only [Bool.false_eq_true, if_false]
  rw [half (by omega)]
  simp only [if_neg (show ¬ ((s.size / 2 : Nat) : Int) = 0 by omega)]
  obtain ⟨m, hm, e2⟩ := ix a1 (s.size / 2) (by omega) (by omega)
  have em1 : wrap64 (((2 * m : Nat) : Int) + 1) = ((2 * m + 1 : Nat) : Int) := by rw [w64 (by omega) (by omega)]; omega
  have em2 : wrap64 (((2 * m : Nat) : Int) + 2) = ((2 * m + 2 : Nat) : Int) := by rw [w64 (by omega) (by omega)]; omega
  have hm0 : 2 * m < s.size := by omega
  have hm1 : 2 * m + 1 < s.size := by omega
  have b0 := (s[2 * m]).toNat_lt
  have b1 := (s[2 * m + 1]).toNat_lt
  rw [e2, em1, em2]
  simp only [if_pos (show (0 : Int) ≤ ((2 * m : Nat) : Int) by omega), if_pos (show ((2 * m : Nat) : Int) < (s.size : Int) by omega), if_pos (show (0 : Int) ≤ ((2 * m + 1 : Nat) : Int) by omega), if_pos (show ((2 * m + 1 : Nat) : Int) < (s.size : Int) by omega),
    if_pos (show ((2 * m : Nat) : Int) ≤ (s.size : Int) by omega), if_pos (show (0 : Int) ≤ ((2 * m + 2 : Nat) : Int) by omega), if_pos (show ((2 * m + 2 : Nat) : Int) ≤ (s.size : Int) by omega), Int.toNat_natCast, Option.bind_some]
  rw [bt_nat s (2 * m) hm0, bt_nat s (2 * m + 1) hm1, u16w (n := ((s[2 * m]).toNat : Int)) (by omega) (by omega), u16w (n := ((s[2 * m]).toNat : Int) * 256) (by omega) (by omega), u16w (n := ((s[2 * m + 1]).toNat : Int)) (by omega) (by omega), join16 (by omega) (by omega) (by omega) (by omega)]
  obtain ⟨t3, ht3, hsz3, x3, y3, hxy3, hv3⟩ := two_ev (w := w) hw.1 hw.2
  rw [ht3]; simp only [Option.bind_some]
  simp only [if_pos (show (s.extract 0 (2 * m)).size + t3.size ≤ 9223372036854775807 by rw [size_take _ _ (by omega)]; omega), if_pos (show (s.extract 0 (2 * m) ++ t3).size + (s.extract (2 * m + 2) s.size).size ≤ 9223372036854775807 by rw [size_app, size_take _ _ (by omega), size_drop]; omega), Option.bind_some]
  generalize hu : s.extract 0 (2 * m) ++ t3 ++ s.extract (2 * m + 2) s.size = u
  have hud : u.data.toList = s.data.toList.take (2 * m) ++ [x3, y3] ++ s.data.toList.drop (2 * m + 2) := by
    rw [← hu, data_app, data_app, data_take _ _ (by omega), data_drop, hxy3]
  have huz : u.size = s.size := by rw [← hu, size_app, size_app, size_take _ _ (by omega), size_drop, hsz3]; omega
  have hlen2 : (s.data.toList.take (2 * m)).length % 2 = 0 := by rw [List.length_take, len_data]; omega
  have hWt : W true s.data.toList = W true (s.data.toList.take (2 * m)) + (256 * ((s[2 * m]).toNat : Int) + ((s[2 * m + 1]).toNat : Int)) + W true (s.data.toList.drop (2 * m + 2)) := by
    have := take_two s (2 * m) hm1
    rw [← W_mid _ _ _ _ hlen2, ← this]
  have hWu : W true u.data.toList = W true (s.data.toList.take (2 * m)) + w + W true (s.data.toList.drop (2 * m + 2)) := by
    rw [hud, W_mid _ _ _ _ hlen2, hv3]
  have r1 := W_range (s.data.toList.take (2 * m)) true
  have r2 := W_range (s.data.toList.drop (2 * m + 2)) true
  exact updates_l0 s u w _ (by omega) (by omega) hw (by omega) (by omega) (by omega) u.size 0 false (by omega) (by omega) (fun h => by cases h)

theorem SumUpdates : turnoutlaw03_SumUpdates.Pure := by
  intro s a1 w hs h1 hw
  apply Ev.rounds
  unfold turnoutlaw03_SumUpdates.f
  obtain ⟨b, hb, hf⟩ := long_ev [s] (by simp)
  have hawake : Ev (fun k => turnoutlaw03_SumUpdates.j0 k s a1 w true) true := by
    refine Ev.step (f := _) (fun k => by rw [turnoutlaw03_SumUpdates.j0]) ?_
    simp only [if_true]
    exact Ev.bind awake_ev (Ev.now _)
  refine Ev.bind hb ?_
  cases b with
  | true => simp only [if_true]; exact hawake
  | false =>
    simp only [Bool.false_eq_true, if_false]
    by_cases h2 : (s.size : Int) < 2
    · simp only [if_pos h2]; exact hawake
    · simp only [if_neg h2]
      refine Ev.bind awake_ev ?_
      exact updates_j0 s hs (by omega) a1 w (bounds_u16 hw)
end Go.Proofs.Ytieopkigfbnhcaa.Pure
