/- Tries, plain: the items of a tree, put in whatever row. -/
import Derived.Test.YtpchlnbnpgaocaaKTrie12
namespace Go.Proofs.Ytpchlnbnpgaocaa.PTrie
open Go.Proofs.Ytpchlnbnpgaocaa.KTree Go.Proofs.Ytpchlnbnpgaocaa.KReg Go.Proofs.Ytpchlnbnpgaocaa.KBits Go.RowKit Go.Proofs.YtpchlnbnpgaocaaW.PrintWords Go.Proofs.YtpchlnbnpgaocaaW.PrintLast Go.Proofs.YtpchlnbnpgaocaaW.PrintMore
set_option linter.unusedVariables false
set_option linter.unusedSimpArgs false
theorem all_depth : ∀ (t : Tri) (pre bs : List Bool) (v : Int), (bs, v) ∈ Tri.all t pre → bs.length + 1 ≤ pre.length + depth t
  | .nil, _, _, _, h => absurd h List.not_mem_nil
  | .node l r o, pre, bs, v, h => by
    simp only [Tri.all, List.mem_append] at h
    simp only [depth]
    rcases h with h | h | h
    · cases o with
      | none => exact absurd h List.not_mem_nil
      | some u => simp at h; rw [h.1]; omega
    · have := all_depth l _ _ _ h; rw [List.length_append] at this; simp at this; omega
    · have := all_depth r _ _ _ h; rw [List.length_append] at this; simp at this; omega
theorem key_ok {bs : List Bool} (h : bs.length ≤ 256) : OkPre (strOf (pack bs)) (bs.length : Int) := by
  have hk := pack_key bs
  have hl := hk.len
  have hs : (strOf (pack bs)).size = (pack bs).length := rfl
  refine ⟨by omega, by omega, by rw [hs]; omega, fun i hi hi2 => ?_⟩
  have := hk.on i (by rw [← hs]; exact hi2)
  show bitAt (strOf (pack bs)).data.toList i = false
  rw [show (strOf (pack bs)).data.toList = pack bs from rfl, this, List.getD_eq_getElem?_getD, List.getElem?_eq_none (by omega)]; rfl
theorem kb_pack (bs : List Bool) : kb (strOf (pack bs)) (bs.length : Int) = bs := by
  show kbits (pack bs) ((bs.length : Int).toNat) = bs
  rw [Int.toNat_natCast]
  exact (pack_key bs).all_bits
/-- An item of a tree, as it is told. -/
structure It (t : Tri) (y : S32) (bs : List Bool) : Prop where
  key : y.f0 = strOf (pack bs)
  len : y.f1 = (bs.length : Int)
  get : Tri.get bs t = some y.f2
  short : bs.length ≤ 256
theorem item_of {t : Tri} (hd : depth t ≤ 257) {y : S32} (hy : y ∈ items t []) : ∃ bs, It t y bs := by
  obtain ⟨x, hx, rfl⟩ := List.mem_map.1 hy
  obtain ⟨bs, v⟩ := x
  have h1 := (Tri.mem_all t [] bs v).1 hx
  obtain ⟨z, hz, hg⟩ := h1
  rw [List.nil_append] at hz
  subst hz
  have := all_depth t [] _ _ hx
  exact ⟨bs, rfl, rfl, hg, by simp at this; omega⟩
theorem It.ok {t : Tri} {y : S32} {bs : List Bool} (h : It t y bs) : OkPre y.f0 y.f1 := by rw [h.key, h.len]; exact key_ok h.short
theorem It.put {t t' : Tri} {y : S32} {bs : List Bool} (h : It t y bs) (v : Int) : tput y.f0 y.f1 v t' = Tri.put v bs t' := by rw [tput_of h.ok, h.key, h.len, kb_pack]
theorem It.size {t : Tri} {y : S32} {bs : List Bool} (h : It t y bs) : y.f0.size ≤ 140737488351232 := by
  have := h.ok
  have h1 := this.2.1
  have h2 := this.2.2.1
  omega
theorem pack_inj {x bs : List Bool} (hl : x.length = bs.length) (h : strOf (pack x) = strOf (pack bs)) : x = bs := by
  have e : pack x = pack bs := congrArg (fun s => s.data.toList) h
  have h1 := pack_key x
  rw [e] at h1
  exact h1.same (pack_key bs) hl
theorem it_uniq {t t' : Tri} {y : S32} {x bs : List Bool} (h : It t y x) (h2 : It t' y bs) : x = bs := by
  have e1 := h.len.symm.trans h2.len
  exact pack_inj (by omega) (h.key.symm.trans h2.key)
/-- Two trees of one content. -/
def Same (t t' : Tri) : Prop := ∀ x, Tri.get x t = Tri.get x t'
theorem Same.items {t t' : Tri} (h : Same t t') : items t [] = items t' [] := by unfold PTrie.items; rw [Tri.all_ext t t' [] h]
theorem Same.cnt {t t' : Tri} (h : Same t t') : Tri.cnt t = Tri.cnt t' := by rw [← items_length t [], h.items, items_length]
def yAt (ys : List S32) (i : Nat) : S32 := ys.getD i z32
theorem yAt_mem {ys : List S32} {i : Nat} (h : i < ys.length) : yAt ys i ∈ ys := by
  unfold yAt; rw [List.getD_eq_getElem?_getD, List.getElem?_eq_getElem h]; exact List.getElem_mem h
theorem yAt_eq {ys : List S32} {i : Nat} (h : i < ys.length) : ys[i] = yAt ys i := by
  unfold yAt; rw [List.getD_eq_getElem?_getD, List.getElem?_eq_getElem h]; rfl
/-- The first i puts, in the row f. -/
noncomputable def rput (ys : List S32) (f : Nat → Nat) : Nat → Tri
  | 0 => aw0
  | i + 1 => tput (yAt ys (f i)).f0 (yAt ys (f i)).f1 (yAt ys (f i)).f2 (rput ys f i)
/-- The same, each put twice. -/
noncomputable def rput2 (ys : List S32) (f : Nat → Nat) : Nat → Tri
  | 0 => aw0
  | i + 1 => tput (yAt ys (f i)).f0 (yAt ys (f i)).f1 (yAt ys (f i)).f2 (tput (yAt ys (f i)).f0 (yAt ys (f i)).f1 (-1) (rput2 ys f i))
theorem aw0_get (x : List Bool) : Tri.get x aw0 = none := by
  cases x with
  | nil => rfl
  | cons b x => cases b <;> exact Tri.get_nil x
section
variable {t : Tri} {f : Nat → Nat}
theorem rput_get (hd : depth t ≤ 257) (hf : ∀ j, j < (items t []).length → f j < (items t []).length) : ∀ i, i ≤ (items t []).length → ∀ x,
    ((∃ j, j < i ∧ It t (yAt (items t []) (f j)) x) → Tri.get x (rput (items t []) f i) = Tri.get x t) ∧ ((∀ j, j < i → ¬ It t (yAt (items t []) (f j)) x) → Tri.get x (rput (items t []) f i) = none)
  | 0, _, x => ⟨fun h => by obtain ⟨j, hj, _⟩ := h; omega, fun _ => aw0_get x⟩
  | i + 1, hi, x => by
    have ih := rput_get hd hf i (by omega) x
    obtain ⟨bs, hb⟩ := item_of hd (yAt_mem (hf i (by omega)))
    have e : Tri.get x (rput (items t []) f (i + 1)) = if x = bs then some (yAt (items t []) (f i)).f2 else Tri.get x (rput (items t []) f i) := by
      rw [rput, hb.put, Tri.get_put]
    rw [e]
    by_cases hx : x = bs
    · subst hx
      rw [if_pos rfl]
      exact ⟨fun _ => hb.get.symm, fun h => absurd hb (h i (Nat.lt_succ_self i))⟩
    · rw [if_neg hx]
      refine ⟨fun h => ?_, fun h => ih.2 (fun j hj => h j (by omega))⟩
      obtain ⟨j, hj, hI⟩ := h
      rcases Nat.lt_succ_iff_lt_or_eq.1 hj with hj | rfl
      · exact ih.1 ⟨j, hj, hI⟩
      · exact absurd (it_uniq hI hb) hx
theorem rput2_same (hd : depth t ≤ 257) (hf : ∀ j, j < (items t []).length → f j < (items t []).length) : ∀ i, i ≤ (items t []).length → Same (rput2 (items t []) f i) (rput (items t []) f i)
  | 0, _ => fun x => rfl
  | i + 1, hi => fun x => by
    have ih := rput2_same hd hf i (by omega) x
    obtain ⟨bs, hb⟩ := item_of hd (yAt_mem (hf i (by omega)))
    rw [rput, rput2, hb.put, hb.put, hb.put, Tri.get_put, Tri.get_put, Tri.get_put]
    by_cases hx : x = bs
    · rw [if_pos hx, if_pos hx]
    · rw [if_neg hx, if_neg hx, if_neg hx, ih]
theorem rput_same (hd : depth t ≤ 257) (hf : ∀ j, j < (items t []).length → f j < (items t []).length) (hs : ∀ k, k < (items t []).length → ∃ j, j < (items t []).length ∧ f j = k) : Same (rput (items t []) f (items t []).length) t := fun x => by
  have h := rput_get hd hf _ (Nat.le_refl _) x
  cases hg : Tri.get x t with
  | some v =>
    have hx : (x, v) ∈ Tri.all t [] := (Tri.mem_all t [] x v).2 ⟨x, rfl, hg⟩
    have hm : (⟨strOf (pack x), x.length, v⟩ : S32) ∈ items t [] := List.mem_map.2 ⟨_, hx, rfl⟩
    obtain ⟨k, hk, ek⟩ := List.getElem_of_mem hm
    obtain ⟨j, hj, ej⟩ := hs k hk
    have := all_depth t [] _ _ hx
    rw [h.1 ⟨j, hj, ?_⟩, hg]
    rw [ej, ← yAt_eq hk, ek]
    exact ⟨rfl, rfl, hg, by simp at this; omega⟩
  | none =>
    refine h.2 (fun j hj hI => ?_)
    rw [hI.get] at hg; cases hg
theorem rput_sm (N : Nat) : ∀ i, i ≤ N → Sm i (rput (items t []) f i)
  | 0, _ => aw0_sm
  | i + 1, h => (rput_sm N i (by omega)).put _ _ _
theorem rput2_sm : ∀ i, Sm (i + i) (rput2 (items t []) f i)
  | 0 => aw0_sm
  | i + 1 => by
    have := ((rput2_sm i).put (yAt (items t []) (f i)).f0 (yAt (items t []) (f i)).f1 (-1)).put (yAt (items t []) (f i)).f0 (yAt (items t []) (f i)).f1 (yAt (items t []) (f i)).f2
    exact this.up (by omega)
end
theorem turn_lt {n c j : Nat} (hn : 0 < n) : (j + c) % n < n := Nat.mod_lt _ hn
theorem turn_on {n c : Nat} (hc : c < n) : ∀ k, k < n → ∃ j, j < n ∧ (j + c) % n = k := fun k hk => by
  refine ⟨(k + (n - c)) % n, Nat.mod_lt _ (by omega), ?_⟩
  rw [Nat.mod_add_mod, show k + (n - c) + c = k + n by omega, Nat.add_mod_right, Nat.mod_eq_of_lt hk]
theorem back_on {n : Nat} : ∀ k, k < n → ∃ j, j < n ∧ n - 1 - j = k := fun k hk => ⟨n - 1 - k, by omega, by omega⟩
/-- What is put, and taken out again, and was not there. -/
theorem put_del_same {s : ByteArray} {n : Int} {t : Tri} (v : Int) (h : OkPre s n) (hg : tget s n t = none) : Same (tdel s n (tput s n v t)) t := fun x => by
  rw [tget_of h] at hg
  rw [tput_of h, tdel_of h (v := v) (by rw [Tri.get_put, if_pos rfl]), Tri.get_del, Tri.get_put]
  by_cases hx : x = kb s n
  · rw [if_pos hx, hx, hg]
  · rw [if_neg hx, if_neg hx]
theorem put_get_some {s : ByteArray} {n : Int} {t : Tri} (v : Int) (h : OkPre s n) : tget s n (tput s n v t) = some v := by
  rw [tget_of h, tput_of h, Tri.get_put, if_pos rfl]
end Go.Proofs.Ytpchlnbnpgaocaa.PTrie
