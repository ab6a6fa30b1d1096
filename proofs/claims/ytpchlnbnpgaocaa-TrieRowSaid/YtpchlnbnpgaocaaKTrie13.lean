/- Tries, plain: the longest one of a text's beginnings. -/
import Derived.Test.YtpchlnbnpgaocaaKTrie12
namespace Go.Proofs.Ytpchlnbnpgaocaa.PTrie
open Go.Proofs.Ytpchlnbnpgaocaa.KTree Go.Proofs.Ytpchlnbnpgaocaa.KReg Go.Proofs.Ytpchlnbnpgaocaa.KBits Go.RowKit Go.Proofs.YtpchlnbnpgaocaaW.PrintWords Go.Proofs.YtpchlnbnpgaocaaW.PrintLast Go.Proofs.YtpchlnbnpgaocaaW.PrintMore
set_option linter.unusedVariables false
set_option linter.unusedSimpArgs false
theorem lon_spec : ∀ (bs : List Bool) (i : Nat) (best : Option (Nat × Int)) (t : Tri),
    (∃ n v, n ≤ bs.length ∧ Tri.get (bs.take n) t = some v ∧ (∀ m, n < m → m ≤ bs.length → Tri.get (bs.take m) t = none) ∧ Tri.lon bs i best t = some (i + n, v)) ∨
    ((∀ m, m ≤ bs.length → Tri.get (bs.take m) t = none) ∧ Tri.lon bs i best t = best) := by
  intro bs
  induction bs with
  | nil =>
    intro i best t
    cases t with
    | nil => exact .inr ⟨fun m _ => Tri.get_nil _, rfl⟩
    | node l r o =>
      cases o with
      | none => exact .inr ⟨fun m hm => by rw [List.take_nil]; rfl, rfl⟩
      | some v => exact .inl ⟨0, v, Nat.le_refl _, rfl, fun m h1 h2 => by simp at h2; omega, rfl⟩
  | cons b bs ih =>
    intro i best t
    cases t with
    | nil => exact .inr ⟨fun m _ => Tri.get_nil _, rfl⟩
    | node l r o =>
      have hs : ∀ m, Tri.get ((b :: bs).take (m + 1)) (.node l r o) = Tri.get (bs.take m) (Tri.kid b (.node l r o)) := fun m => rfl
      rcases ih (i + 1) (upd o i best) (Tri.kid b (.node l r o)) with ⟨n, v, h1, h2, h3, h4⟩ | ⟨h1, h2⟩
      · refine .inl ⟨n + 1, v, by simp; omega, by rw [hs]; exact h2, fun m hm hm2 => ?_, ?_⟩
        · obtain ⟨k, rfl⟩ : ∃ k, m = k + 1 := ⟨m - 1, by omega⟩
          rw [hs]; exact h3 k (by omega) (by simp at hm2; omega)
        · rw [lon_step, h4]; congr 2; omega
      · cases o with
        | none =>
          refine .inr ⟨fun m hm => ?_, by rw [lon_step, h2]; rfl⟩
          cases m with
          | zero => rfl
          | succ k => rw [hs]; exact h1 k (by simp at hm; omega)
        | some v =>
          refine .inl ⟨0, v, Nat.zero_le _, rfl, fun m hm hm2 => ?_, by rw [lon_step, h2]; rfl⟩
          obtain ⟨k, rfl⟩ : ∃ k, m = k + 1 := ⟨m - 1, by omega⟩
          rw [hs]; exact h1 k (by simp at hm2; omega)
/-- The first m bits of a text. -/
def hd (s : ByteArray) (m : Nat) : List Bool := kbits s.data.toList m
theorem hd_length (s : ByteArray) (m : Nat) : (hd s m).length = m := bits_length _ _
theorem kbits_take (D : List UInt8) (n m : Nat) (h : m ≤ n) : (kbits D n).take m = kbits D m := by
  unfold kbits
  rw [← List.map_take, List.take_range, Nat.min_eq_left h]
theorem tlon_cases (s : ByteArray) (t : Tri) :
    (∃ n v, tlon s t = some (n, v) ∧ n ≤ 8 * s.size ∧ Tri.get (hd s n) t = some v ∧ ∀ m, n < m → m ≤ 8 * s.size → Tri.get (hd s m) t = none) ∨
    (tlon s t = none ∧ ∀ m, m ≤ 8 * s.size → Tri.get (hd s m) t = none) := by
  have hk : ∀ m, m ≤ 8 * s.size → (kbits s.data.toList (8 * s.size)).take m = hd s m := fun m hm => kbits_take _ _ _ hm
  rcases lon_spec (kbits s.data.toList (8 * s.size)) 0 none t with ⟨n, v, h1, h2, h3, h4⟩ | ⟨h1, h2⟩
  · rw [bits_length] at h1 h3
    refine .inl ⟨n, v, by rw [tlon, h4, Nat.zero_add], h1, by rw [← hk n h1]; exact h2, fun m hm hm2 => by rw [← hk m hm2]; exact h3 m hm hm2⟩
  · rw [bits_length] at h1
    exact .inr ⟨h2, fun m hm => by rw [← hk m hm]; exact h1 m hm⟩
theorem bitAt_app (D E : List UInt8) (i : Nat) (h : i < 8 * D.length) : bitAt (D ++ E) i = bitAt D i := by
  unfold bitAt
  rw [List.getD_eq_getElem?_getD, List.getD_eq_getElem?_getD, List.getElem?_append_left (by omega)]
theorem hd_app (s e : ByteArray) (m : Nat) (h : m ≤ 8 * s.size) : hd (s ++ e) m = hd s m := by
  unfold hd kbits
  have hd : (s ++ e).data.toList = s.data.toList ++ e.data.toList := by rw [ByteArray.data_append, Array.toList_append]
  have hl : s.data.toList.length = s.size := Array.length_toList
  rw [hd]
  apply List.map_congr_left
  intro i hi
  have := List.mem_range.1 hi
  exact bitAt_app _ _ _ (by omega)
theorem items_mem {t : Tri} {bs : List Bool} {v : Int} (h : Tri.get bs t = some v) : ∃ j, ∃ hj : j < (items t []).length, (items t [])[j] = ⟨strOf (pack bs), bs.length, v⟩ := by
  have h1 : (bs, v) ∈ Tri.all t [] := (Tri.mem_all t [] bs v).2 ⟨bs, rfl, h⟩
  have h2 : (⟨strOf (pack bs), bs.length, v⟩ : S32) ∈ items t [] := List.mem_map.2 ⟨_, h1, rfl⟩
  obtain ⟨j, hj, e⟩ := List.getElem_of_mem h2
  exact ⟨j, hj, e⟩
theorem app_size (s e : ByteArray) : (s ++ e).size = s.size + e.size := by simp
/-- TrieMore, plain. -/
theorem more_plain (s e : ByteArray) (t : Tri) : tlon s t = tlon (s ++ e) t ∨
    ∃ m w, tlon (s ++ e) t = some (m, w) ∧ 8 * s.size < m ∧ (tlon s t = none ∨ ∃ n v, tlon s t = some (n, v) ∧ n ≤ 8 * s.size) ∧ ∃ j, ∃ hj : j < (items t []).length, ((items t [])[j]).f1 = (m : Int) := by
  rcases tlon_cases (s ++ e) t with ⟨m, w, h1, h2, h3, h4⟩ | ⟨h1, h2⟩
  · by_cases hm : m ≤ 8 * s.size
    · left
      rw [hd_app s e m hm] at h3
      rcases tlon_cases s t with ⟨n, v, g1, g2, g3, g4⟩ | ⟨g1, g2⟩
      · have hnm : n = m := by
          rcases Nat.lt_trichotomy n m with h | h | h
          · rw [g4 m h hm] at h3; cases h3
          · exact h
          · have := h4 n h (by rw [app_size]; omega)
            rw [hd_app s e n g2, g3] at this; cases this
        subst hnm
        rw [g3] at h3
        cases h3
        rw [g1, h1]
      · rw [g2 m hm] at h3; cases h3
    · right
      obtain ⟨j, hj, ej⟩ := items_mem h3
      refine ⟨m, w, h1, by omega, ?_, j, hj, by rw [ej, hd_length]⟩
      rcases tlon_cases s t with ⟨n, v, g1, g2, _⟩ | ⟨g1, _⟩
      · exact .inr ⟨n, v, g1, g2⟩
      · exact .inl g1
  · left
    rcases tlon_cases s t with ⟨n, v, g1, g2, g3, _⟩ | ⟨g1, _⟩
    · have := h2 n (by rw [app_size]; omega)
      rw [hd_app s e n g2, g3] at this; cases this
    · rw [g1, h1]
end Go.Proofs.Ytpchlnbnpgaocaa.PTrie
