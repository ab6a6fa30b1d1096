/- SumGood: for every text, two places and number: a text of an even length with its checksum at an even place is good; with one word of it another one, but for 0 and 65535, it is not. No condition. -/
import Derived.Test.YtieopkigfbnhcaaMSum2
import Derived.Test.YtieopkigfbnhcaaPSumx4
set_option linter.unusedVariables false
set_option linter.unusedSimpArgs false
namespace Go.Proofs.Ytieopkigfbnhcaa.Pure
open Go.RowKit Go.Proofs.Ytieopkigfbnhcaa.PSum Go.Proofs.Ytieopkigfbnhcaa.MSum Go.Proofs.YtieopkigfbnhcaaW.PrintWords Go.Proofs.YtieopkigfbnhcaaW.PrintLast

theorem Ev.pb {α β : Type} {x : Option α} {a : α} (h : x = some a) {f : Nat → α → Option β} {r : β} (k : Ev (fun n => f n a) r) : Ev (fun n => x.bind (f n)) r := by subst h; exact k
theorem Ev.ip {β : Type} {c : Prop} [Decidable c] (h : c) {f g : Nat → Option β} {r : β} (k : Ev f r) : Ev (fun n => if c then f n else g n) r := by
  simpa only [if_pos h] using k
theorem Ev.in {β : Type} {c : Prop} [Decidable c] (h : ¬ c) {f g : Nat → Option β} {r : β} (k : Ev g r) : Ev (fun n => if c then f n else g n) r := by
  simpa only [if_neg h] using k

theorem good_j0 (s : ByteArray) (hs : s.size ≤ 140737488351232) (a1 a2 w : Int) (hw : 0 ≤ w ∧ w ≤ 65535) : Ev (fun k => turnoutlaw03_SumGood.j0 k s a1 a2 w false) true := by
  obtain ⟨e, he, he2, hes⟩ := even_ev s (by omega)
  obtain ⟨q, hq, hp⟩ := place_ev e (by omega) a1
  have r1 := W_range e.data.toList true
  have h1 := rep_range r1.1
  obtain ⟨t2, ht2, hsz, x, y, hxy, hv⟩ := two_ev (w := 65535 - rep (W true e.data.toList)) (by omega) (by omega)
  have hof : Ev (fun k => sum_Of.f k [e]) (65535 - rep (W true e.data.toList)) := by
    have := sum_of [e] (by simp; omega) (by simp)
    rwa [cat_one] at this
  refine Ev.step (f := _) (fun k => by rw [turnoutlaw03_SumGood.j0]) ?_
  refine Ev.in (by decide) ?_
  refine Ev.pb he ?_
  refine Ev.pb hp ?_
  refine Ev.ip (by omega) ?_
  refine Ev.ip (by omega) ?_
  refine Ev.pb (a := e.extract 0 (2 * q)) (by rw [Int.toNat_natCast]) ?_
  refine Ev.bind hof ?_
  refine Ev.pb ht2 ?_
  refine Ev.ip (by rw [size_take _ _ hq]; omega) ?_
  refine Ev.pb rfl ?_
  refine Ev.pb (a := e.extract (2 * q) e.size) (by rw [Int.toNat_natCast]) ?_
  refine Ev.ip (by rw [size_app, size_take _ _ hq, size_drop]; omega) ?_
  refine Ev.pb rfl ?_
  -- the text with its checksum
  generalize ht : e.extract 0 (2 * q) ++ t2 ++ e.extract (2 * q) e.size = t
  have hd : t.data.toList = e.data.toList.take (2 * q) ++ [x, y] ++ e.data.toList.drop (2 * q) := by
    rw [← ht, data_app, data_app, data_take _ _ hq, data_drop, hxy]
  have hz : t.size = e.size + 2 := by rw [← ht, size_app, size_app, size_take _ _ hq, size_drop, hsz]; omega
  have hlen : (e.data.toList.take (2 * q)).length % 2 = 0 := by rw [List.length_take, len_data]; omega
  have hW : W true t.data.toList = W true e.data.toList + (65535 - rep (W true e.data.toList)) := by
    have e1 : W true e.data.toList = W true (e.data.toList.take (2 * q)) + W true (e.data.toList.drop (2 * q)) := by
      rw [← W_even _ _ hlen, List.take_append_drop]
    rw [hd, W_mid _ _ _ _ hlen, hv]; omega
  have hrm := rep_mod r1.1
  have hrz := rep_eq_zero r1.1
  have htop : rep (W true t.data.toList) = 65535 := by
    rw [rep_top (by omega), hW]; omega
  have r2 := W_range t.data.toList true
  have hzero := (rep_top r2.1).1 htop
  refine Ev.bind (ev_good (r := true) (by omega) (by rw [htop]; rfl)) ?_
  refine Ev.ip rfl ?_
  rw [half (by omega)]
  refine Ev.in (by omega) ?_
  obtain ⟨m, hm, e2⟩ := ix a2 (t.size / 2) (by omega) (by omega)
  have em1 : wrap64 (((2 * m : Nat) : Int) + 1) = ((2 * m + 1 : Nat) : Int) := by rw [w64 (by omega) (by omega)]; omega
  have em2 : wrap64 (((2 * m : Nat) : Int) + 2) = ((2 * m + 2 : Nat) : Int) := by rw [w64 (by omega) (by omega)]; omega
  have hm0 : 2 * m < t.size := by omega
  have hm1 : 2 * m + 1 < t.size := by omega
  have b0 := (t[2 * m]).toNat_lt
  have b1 := (t[2 * m + 1]).toNat_lt
  rw [e2, em1, em2]
  refine Ev.ip (by omega) ?_
  refine Ev.ip (by omega) ?_
  refine Ev.ip (by omega) ?_
  refine Ev.ip (by omega) ?_
  rw [bt_nat t (2 * m) hm0, bt_nat t (2 * m + 1) hm1, u16w (n := ((t[2 * m]).toNat : Int)) (by omega) (by omega), u16w (n := ((t[2 * m]).toNat : Int) * 256) (by omega) (by omega), u16w (n := ((t[2 * m + 1]).toNat : Int)) (by omega) (by omega), join16 (by omega) (by omega) (by omega) (by omega)]
  rw [Int.tmod_eq_emod_of_nonneg (by omega), Int.tmod_eq_emod_of_nonneg hw.1]
  by_cases hsame : (((t[2 * m]).toNat : Int) * 256 + ((t[2 * m + 1]).toNat : Int)) % 65535 = w % 65535
  · exact Ev.ip hsame (Ev.now _)
  · obtain ⟨t3, ht3, hsz3, x3, y3, hxy3, hv3⟩ := two_ev (w := w) hw.1 hw.2
    refine Ev.in hsame ?_
    refine Ev.ip (by omega) ?_
    refine Ev.pb (a := t.extract 0 (2 * m)) (by rw [Int.toNat_natCast]) ?_
    refine Ev.pb ht3 ?_
    refine Ev.ip (by rw [size_take _ _ (by omega)]; omega) ?_
    refine Ev.pb rfl ?_
    refine Ev.ip (by omega) ?_
    refine Ev.ip (by omega) ?_
    refine Ev.pb (a := t.extract (2 * m + 2) t.size) (by rw [Int.toNat_natCast]) ?_
    refine Ev.ip (by rw [size_app, size_take _ _ (by omega), size_drop]; omega) ?_
    generalize hu : t.extract 0 (2 * m) ++ t3 ++ t.extract (2 * m + 2) t.size = u
    have hud : u.data.toList = t.data.toList.take (2 * m) ++ [x3, y3] ++ t.data.toList.drop (2 * m + 2) := by
      rw [← hu, data_app, data_app, data_take _ _ (by omega), data_drop, hxy3]
    have huz : u.size = t.size := by rw [← hu, size_app, size_app, size_take _ _ (by omega), size_drop, hsz3]; omega
    have hlen2 : (t.data.toList.take (2 * m)).length % 2 = 0 := by rw [List.length_take, len_data]; omega
    have hWt : W true t.data.toList = W true (t.data.toList.take (2 * m)) + (256 * ((t[2 * m]).toNat : Int) + ((t[2 * m + 1]).toNat : Int)) + W true (t.data.toList.drop (2 * m + 2)) := by
      have := take_two t (2 * m) hm1
      rw [← W_mid _ _ _ _ hlen2, ← this]
    have hWu : W true u.data.toList = W true (t.data.toList.take (2 * m)) + w + W true (t.data.toList.drop (2 * m + 2)) := by
      rw [hud, W_mid _ _ _ _ hlen2, hv3]
    have r3 := W_range u.data.toList true
    have hbad : (rep (W true u.data.toList) == 65535) = false := by
      rw [beq_eq_false_iff_ne]; intro h
      have := (rep_top r3.1).1 h
      omega
    exact Ev.bind (ev_good (r := false) (by omega) hbad) (Ev.now _)

theorem SumGood : turnoutlaw03_SumGood.Pure := by
  intro s a1 a2 w hs h1 h2 hw
  apply Ev.rounds
  unfold turnoutlaw03_SumGood.f
  obtain ⟨b, hb, hf⟩ := long_ev [s] (by simp)
  refine Ev.bind hb ?_
  cases b with
  | true =>
    simp only [if_true]
    refine Ev.step (f := _) (fun k => by rw [turnoutlaw03_SumGood.j0]) ?_
    simp only [if_true]
    exact Ev.bind awake_ev (Ev.now _)
  | false =>
    simp only [Bool.false_eq_true, if_false]
    refine Ev.bind awake_ev ?_
    exact good_j0 s hs a1 a2 w (bounds_u16 hw)
end Go.Proofs.Ytieopkigfbnhcaa.Pure
