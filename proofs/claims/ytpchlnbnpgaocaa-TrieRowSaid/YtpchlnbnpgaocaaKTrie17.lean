/- Tries, plain: the items of a tree, each taken out once. -/
import Derived.Test.YtpchlnbnpgaocaaKTrie13
import Derived.Test.YtpchlnbnpgaocaaKTrie15
namespace Go.Proofs.Ytpchlnbnpgaocaa.PTrie
open Go.Proofs.Ytpchlnbnpgaocaa.KTree Go.Proofs.Ytpchlnbnpgaocaa.KReg Go.Proofs.Ytpchlnbnpgaocaa.KBits Go.RowKit Go.Proofs.YtpchlnbnpgaocaaW.PrintWords Go.Proofs.YtpchlnbnpgaocaaW.PrintLast Go.Proofs.YtpchlnbnpgaocaaW.PrintMore
set_option linter.unusedVariables false
set_option linter.unusedSimpArgs false
theorem all_pre {t : Tri} {pre : List Bool} {a : List Bool × Int} (h : a ∈ Tri.all t pre) : ∃ x, a.1 = pre ++ x := by
  obtain ⟨bs, v⟩ := a
  obtain ⟨x, hx, _⟩ := (Tri.mem_all t pre bs v).1 h
  exact ⟨x, hx⟩
theorem all_nodup : ∀ (t : Tri) (pre : List Bool), (Tri.all t pre).Nodup
  | .nil, _ => List.nodup_nil
  | .node l r o, pre => by
    simp only [Tri.all]
    rw [List.nodup_append, List.nodup_append]
    refine ⟨by cases o <;> simp, ⟨all_nodup l _, all_nodup r _, fun a ha b hb hab => ?_⟩, fun a ha b hb hab => ?_⟩
    · subst hab
      obtain ⟨x, hx⟩ := all_pre ha
      obtain ⟨y, hy⟩ := all_pre hb
      rw [hx] at hy
      rw [List.append_assoc, List.append_assoc] at hy
      have := List.append_cancel_left hy
      simp at this
    · subst hab
      have h1 : a.1 = pre := by
        cases o with
        | none => exact absurd ha List.not_mem_nil
        | some v => simp at ha; rw [ha]
      rcases List.mem_append.1 hb with hb | hb
      · obtain ⟨x, hx⟩ := all_pre hb
        rw [h1] at hx
        have := congrArg List.length hx
        simp at this
      · obtain ⟨x, hx⟩ := all_pre hb
        rw [h1] at hx
        have := congrArg List.length hx
        simp at this
theorem item_at {t : Tri} (hd : depth t ≤ 257) {i : Nat} (hi : i < (items t []).length) : ∃ hj : i < (Tri.all t []).length, It t (yAt (items t []) i) ((Tri.all t [])[i]).1 ∧ (yAt (items t []) i).f2 = ((Tri.all t [])[i]).2 := by
  have hl : (items t []).length = (Tri.all t []).length := by unfold items; rw [List.length_map]
  have hj : i < (Tri.all t []).length := by omega
  have e : yAt (items t []) i = ⟨strOf (pack ((Tri.all t [])[i]).1), ((Tri.all t [])[i]).1.length, ((Tri.all t [])[i]).2⟩ := by
    unfold yAt items; rw [List.getD_eq_getElem?_getD, List.getElem?_map, List.getElem?_eq_getElem hj]; rfl
  have hm := List.getElem_mem hj
  have h1 := (Tri.mem_all t [] ((Tri.all t [])[i]).1 ((Tri.all t [])[i]).2).1 hm
  obtain ⟨z, hz, hg⟩ := h1
  rw [List.nil_append] at hz
  rw [← hz] at hg
  have := all_depth t [] _ _ hm
  rw [e]
  exact ⟨hj, ⟨rfl, rfl, hg, by simp at this; omega⟩, rfl⟩
theorem it_inj {t : Tri} (hd : depth t ≤ 257) {i j : Nat} (hi : i < (items t []).length) (hj : j < (items t []).length) {x : List Bool} (h1 : It t (yAt (items t []) i) x) (h2 : It t (yAt (items t []) j) x) : i = j := by
  obtain ⟨k1, a1, v1⟩ := item_at hd hi
  obtain ⟨k2, a2, v2⟩ := item_at hd hj
  have e1 := it_uniq h1 a1
  have e2 := it_uniq h2 a2
  have e3 : (Tri.all t [])[i] = (Tri.all t [])[j] := by
    apply Prod.ext
    · rw [← e1, ← e2]
    · rw [← v1, ← v2]
      exact Option.some.inj (h1.get.symm.trans h2.get)
  exact (List.getElem_inj (all_nodup t [])).1 e3
/-- The first i items taken out. -/
noncomputable def rdel (ys : List S32) (t : Tri) : Nat → Tri
  | 0 => t
  | i + 1 => tdel (yAt ys i).f0 (yAt ys i).f1 (rdel ys t i)
theorem It.dget {t t' : Tri} {y : S32} {bs : List Bool} (h : It t y bs) : tget y.f0 y.f1 t' = Tri.get bs t' := by rw [tget_of h.ok, h.key, h.len, kb_pack]
theorem It.ddel {t t' : Tri} {y : S32} {bs : List Bool} (h : It t y bs) {v : Int} (hg : Tri.get bs t' = some v) : tdel y.f0 y.f1 t' = Tri.del bs t' := by
  have hk : kb y.f0 y.f1 = bs := by rw [h.key, h.len, kb_pack]
  rw [tdel_of h.ok (v := v) (by rw [hk]; exact hg), hk]
theorem rdel_get {t : Tri} (hd : depth t ≤ 257) : ∀ i, i ≤ (items t []).length → ∀ x, ((∃ j, j < i ∧ It t (yAt (items t []) j) x) → Tri.get x (rdel (items t []) t i) = none) ∧ ((∀ j, j < i → ¬ It t (yAt (items t []) j) x) → Tri.get x (rdel (items t []) t i) = Tri.get x t)
  | 0, _, x => ⟨fun h => by obtain ⟨j, hj, _⟩ := h; omega, fun _ => rfl⟩
  | i + 1, hi, x => by
    have ih := rdel_get hd i (by omega)
    obtain ⟨bs, hb⟩ := item_of hd (yAt_mem (show i < (items t []).length by omega))
    have hg : Tri.get bs (rdel (items t []) t i) = some (yAt (items t []) i).f2 := by
      rw [(ih bs).2 (fun j hj hI => by have := it_inj hd (by omega) (by omega) hI hb; omega), hb.get]
    have e : Tri.get x (rdel (items t []) t (i + 1)) = if x = bs then none else Tri.get x (rdel (items t []) t i) := by
      rw [rdel, hb.ddel hg, Tri.get_del]
    rw [e]
    by_cases hx : x = bs
    · subst hx
      rw [if_pos rfl]
      exact ⟨fun _ => rfl, fun h => absurd hb (h i (Nat.lt_succ_self i))⟩
    · rw [if_neg hx]
      refine ⟨fun h => ?_, fun h => (ih x).2 (fun j hj => h j (by omega))⟩
      obtain ⟨j, hj, hI⟩ := h
      rcases Nat.lt_succ_iff_lt_or_eq.1 hj with hj | rfl
      · exact (ih x).1 ⟨j, hj, hI⟩
      · exact absurd (it_uniq hI hb) hx
theorem rdel_is {t : Tri} (hd : depth t ≤ 257) {i : Nat} (hi : i < (items t []).length) : (tget (yAt (items t []) i).f0 (yAt (items t []) i).f1 (rdel (items t []) t i)).isSome = true := by
  obtain ⟨bs, hb⟩ := item_of hd (yAt_mem hi)
  rw [hb.dget, (rdel_get hd i (by omega) bs).2 (fun j hj hI => by have := it_inj hd (by omega) (by omega) hI hb; omega), hb.get]; rfl
theorem rdel_none {t : Tri} (hd : depth t ≤ 257) : Same (rdel (items t []) t (items t []).length) aw0 := fun x => by
  rw [aw0_get]
  have h := rdel_get hd _ (Nat.le_refl _) x
  cases hg : Tri.get x t with
  | none =>
    rw [h.2 (fun j hj hI => by rw [hI.get] at hg; cases hg), hg]
  | some v =>
    obtain ⟨j, hj, ej⟩ := items_mem hg
    refine h.1 ⟨j, hj, ?_⟩
    have hx : (x, v) ∈ Tri.all t [] := (Tri.mem_all t [] x v).2 ⟨x, rfl, hg⟩
    have := all_depth t [] _ _ hx
    rw [← yAt_eq hj, ej]
    exact ⟨rfl, rfl, hg, by simp at this; omega⟩
theorem rdel_sm {ys : List S32} {t : Tri} {N : Nat} (h : Sm N t) : ∀ i, Sm N (rdel ys t i)
  | 0 => h
  | i + 1 => (rdel_sm h i).del _ _
theorem same_lon {t : Tri} (h : Same t aw0) (s : ByteArray) : tlon s t = none := by
  rcases tlon_cases s t with ⟨n, v, _, _, g, _⟩ | ⟨g, _⟩
  · rw [h, aw0_get] at g; cases g
  · exact g
theorem aw0_items : items aw0 [] = [] := rfl
theorem aw0_cnt : Tri.cnt aw0 = 0 := rfl
/-- Acts, all put. -/
noncomputable def puts (xs : List S49) (t : Tri) : Tri := xs.foldl (fun t a => tput a.f1 a.f2 a.f3 t) t
theorem puts_take (xs : List S49) (t : Tri) (i : Nat) (h : i < xs.length) : puts (xs.take (i + 1)) t = tput (xs[i]).f1 (xs[i]).f2 (xs[i]).f3 (puts (xs.take i) t) := by
  unfold puts
  rw [List.take_succ_eq_append_getElem h, List.foldl_append]; rfl
theorem puts_sm : ∀ (xs : List S49) (t : Tri) (N : Nat), Sm N t → Sm (N + xs.length) (puts xs t)
  | [], t, N, h => h
  | x :: xs, t, N, h => by
    have := puts_sm xs (tput x.f1 x.f2 x.f3 t) (N + 1) (h.put _ _ _)
    rw [List.length_cons, show N + (xs.length + 1) = N + 1 + xs.length by omega]
    exact this
end Go.Proofs.Ytpchlnbnpgaocaa.PTrie
