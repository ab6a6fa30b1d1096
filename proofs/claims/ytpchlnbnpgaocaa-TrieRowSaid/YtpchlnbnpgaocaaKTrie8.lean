/- Tries in memory: what each function does, whatever its arguments are, over an inventory of tries and rows of items. -/
import Derived.Test.YtpchlnbnpgaocaaKTrie7
namespace Go.Proofs.Ytpchlnbnpgaocaa.PTrie
open Go.Proofs.Ytpchlnbnpgaocaa.KTree Go.Proofs.Ytpchlnbnpgaocaa.KReg Go.Proofs.Ytpchlnbnpgaocaa.KBits Go.RowKit Go.Proofs.YtpchlnbnpgaocaaW.PrintWords Go.Proofs.YtpchlnbnpgaocaaW.PrintLast Go.Proofs.YtpchlnbnpgaocaaW.PrintMore
set_option linter.unusedVariables false
set_option linter.unusedSimpArgs false
theorem pre_ev2 (s : ByteArray) (n : Int) (hs : s.size ≤ 140737488351232) : ∃ x, Ev (fun k => trie_prefix.f k s n) x ∧ (x = 0 ↔ OkPre s n) ∧ (x = 1 ∧ (n < 0 ∨ 256 < n) ∨ x = 0 ∧ ¬ (n < 0 ∨ 256 < n) ∨ x = 3 ∧ ¬ (n < 0 ∨ 256 < n)) := by
  unfold trie_prefix.f
  have one : ∀ b : Bool, b = true → Ev (fun k => trie_prefix.j0 k s n b) 1 := fun b hb => by
    subst hb
    exact Ev.step (f := fun _ => some 1) (fun k => by rw [trie_prefix.j0]; rfl) (Ev.now _)
  by_cases h1 : n < 0
  · exact ⟨1, MBits.Ev.ip h1 (one _ rfl), ⟨fun h => absurd h (by decide), fun h => absurd h.1 (by omega)⟩, .inl ⟨rfl, .inl h1⟩⟩
  · by_cases h2 : n > 256
    · exact ⟨1, MBits.Ev.in h1 (one _ (decide_eq_true h2)), ⟨fun h => absurd h (by decide), fun h => absurd h.2.1 (by omega)⟩, .inl ⟨rfl, .inr (by omega)⟩⟩
    · obtain ⟨m, rfl⟩ := Int.eq_ofNat_of_zero_le (show 0 ≤ n by omega)
      have e0 : wrap64 ((m : Int) + 7) = (m : Int) + 7 := MBits.w64 (by omega) (by omega)
      have e1 : wrap64 (Int.tdiv ((m : Int) + 7) 8) = ((m : Int) + 7) / 8 := by rw [Int.tdiv_eq_ediv_of_nonneg (by omega), MBits.w64 (by omega) (by omega)]
      have e2 : Int.tmod (m : Int) 8 = ((m % 8 : Nat) : Int) := by rw [Int.tmod_eq_emod_of_nonneg (by omega)]; omega
      have st : ∀ {r : Int}, Ev (fun k => if (s.size : Int) = ((m : Int) + 7) / 8 then (if ((m % 8 : Nat) : Int) > 0 then ((field_Get.f k s m (wrap64 (8 - ((m % 8 : Nat) : Int)))).bind fun bt143 => (if (!(bt143.1 == 0) || (!(bt143.2.1 == 0))) = true then (some 3) else (some 0))) else (some 0)) else (some 3)) r →
          Ev (fun k => if (m : Int) < 0 then trie_prefix.j0 k s m true else trie_prefix.j0 k s m (decide ((m : Int) > 256))) r := fun h => by
        refine MBits.Ev.in h1 ?_
        rw [decide_eq_false h2]
        refine Ev.step (fun k => ?_) h
        rw [trie_prefix.j0, e0, e1, e2, if_neg (by decide)]
      by_cases h3 : (s.size : Int) = ((m : Int) + 7) / 8
      · by_cases h4 : ((m % 8 : Nat) : Int) > 0
        · have e3 : wrap64 (8 - ((m % 8 : Nat) : Int)) = ((8 - m % 8 : Nat) : Int) := by rw [MBits.w64 (by omega) (by omega)]; omega
          have hg := MField.get_ok s m (8 - m % 8) (by omega) (by omega) (by omega) hs
          have hlt : MField.num s m (8 - m % 8) < 2 ^ 64 := Nat.lt_of_lt_of_le (MField.num_lt s m _) (Nat.pow_le_pow_right (by decide) (by omega))
          rw [MField.hi_v _ (by omega), MField.lo_v _ (by omega), Nat.div_eq_of_lt hlt, Nat.mod_eq_of_lt hlt] at hg
          have hz : MField.num s m (8 - m % 8) = 0 ↔ ∀ i : Nat, (m : Int) ≤ i → i < 8 * s.size → tb s i = false := by
            rw [num_zero]
            constructor
            · intro h i hi hi2
              rw [tb_bit s i hi2]
              have := h (i - m) (by omega)
              rw [show m + (i - m) = i by omega] at this
              rw [this]; rfl
            · intro h j hj
              have := h (m + j) (by omega) (by omega)
              rw [tb_bit s _ (by omega)] at this
              have h2 := MField.bitAt_lt s (m + j)
              have h3 : MField.bitAt s (m + j) ≠ 1 := by simpa using this
              omega
          by_cases h5 : MField.num s m (8 - m % 8) = 0
          · refine ⟨0, st (MBits.Ev.ip h3 (MBits.Ev.ip h4 ?_)), ⟨fun _ => ⟨by omega, by omega, h3, hz.1 h5⟩, fun _ => rfl⟩, .inr (.inl ⟨rfl, by omega⟩)⟩
            rw [e3]
            refine Ev.bind hg ?_
            rw [h5]
            exact Ev.now _
          · refine ⟨3, st (MBits.Ev.ip h3 (MBits.Ev.ip h4 ?_)), ⟨fun h => absurd h (by decide), fun h => absurd (hz.2 h.2.2.2) h5⟩, .inr (.inr ⟨rfl, by omega⟩)⟩
            rw [e3]
            refine Ev.bind hg ?_
            exact MBits.Ev.ip (by simp [h5]) (Ev.now _)
        · exact ⟨0, st (MBits.Ev.ip h3 (MBits.Ev.in h4 (Ev.now _))), ⟨fun _ => ⟨by omega, by omega, h3, fun i h5 h6 => absurd h6 (by omega)⟩, fun _ => rfl⟩, .inr (.inl ⟨rfl, by omega⟩)⟩
      · exact ⟨3, st (MBits.Ev.in h3 (Ev.now _)), ⟨fun h => absurd h (by decide), fun h => absurd h.2.2.1 h3⟩, .inr (.inr ⟨rfl, by omega⟩)⟩
open Classical in
/-- What a prefix's error is. -/
noncomputable def pcode (s : ByteArray) (n : Int) : Int := if n < 0 ∨ 256 < n then 1 else if OkPre s n then 0 else 3
theorem pcode_ev (s : ByteArray) (n : Int) (hs : s.size ≤ 140737488351232) : Ev (fun k => trie_prefix.f k s n) (pcode s n) := by
  obtain ⟨x, h1, h2, h3⟩ := pre_ev2 s n hs
  have : pcode s n = x := by
    unfold pcode
    rcases h3 with ⟨rfl, h⟩ | ⟨rfl, h⟩ | ⟨rfl, h⟩
    · rw [if_pos h]
    · rw [if_neg h, if_pos (h2.1 rfl)]
    · rw [if_neg h, if_neg (fun e => absurd (h2.2 e) (by decide))]
  rw [this]; exact h1
theorem pcode_zero (s : ByteArray) (n : Int) : pcode s n = 0 ↔ OkPre s n := by
  unfold pcode
  constructor
  · intro h
    split at h
    · exact absurd h (by decide)
    · split at h
      · assumption
      · exact absurd h (by decide)
  · intro h
    rw [if_neg (by have h1 := h.1; have h2 := h.2.1; omega), if_pos h]
theorem pcode_arg {s : ByteArray} {n : Int} (h : n < 0 ∨ 256 < n) : pcode s n = 1 := by unfold pcode; rw [if_pos h]
theorem pcode_form {s : ByteArray} {n : Int} (h : ¬ (n < 0 ∨ 256 < n)) (h2 : ¬ OkPre s n) : pcode s n = 3 := by unfold pcode; rw [if_neg h, if_neg h2]
theorem Ev.at {α : Type} {f : Nat → Option α} {r : α} (h : Ev f r) : ∃ k, f k = some r := by
  obtain ⟨k, hk⟩ := h
  exact ⟨k, hk k (Nat.le_refl _)⟩
/-- A key's bits. -/
def kb (s : ByteArray) (n : Int) : List Bool := kbits s.data.toList n.toNat
open Classical in
noncomputable def tput (s : ByteArray) (n v : Int) (t : Tri) : Tri := if OkPre s n then Tri.put v (kb s n) t else t
open Classical in
noncomputable def tget (s : ByteArray) (n : Int) (t : Tri) : Option Int := if OkPre s n then Tri.get (kb s n) t else none
open Classical in
noncomputable def tdel (s : ByteArray) (n : Int) (t : Tri) : Tri := if OkPre s n then (if (Tri.get (kb s n) t).isSome then Tri.del (kb s n) t else t) else t
theorem OkPre.nat {s : ByteArray} {n : Int} (h : OkPre s n) : ∃ m : Nat, n = m ∧ m ≤ 8 * s.size := by
  obtain ⟨h1, h2, h3, h4⟩ := h
  exact ⟨n.toNat, by omega, by omega⟩
theorem put_any (b : Nat) (t : Tri) (F : List Nat) (s : ByteArray) (n v : Int) (hs : s.size ≤ 140737488351232) (w : World) (hT : Tr w b t F) (hc : Tri.cnt t ≤ 1000000) :
    Calls Try.prog 14 #[.pointer (some ⟨b, 0, none⟩), .string s, .int .i64 n, .int .i64 v] w fun e w' => e = .returned (.int .i64 (pcode s n)) ∧ Wrote w b F (tput s n v t) w' := by
  by_cases h : OkPre s n
  · have hx := Ev.at (pcode_ev s n hs)
    rw [(pcode_zero s n).2 h] at hx
    obtain ⟨m, rfl, hm⟩ := h.nat
    unfold tput
    rw [if_pos h, (pcode_zero s m).2 h]
    exact put_ok b t F s m v hm hs w hx hT hc
  · have hx := Ev.at (pcode_ev s n hs)
    unfold tput
    rw [if_neg h]
    exact (put_bad b s n v _ hx (fun e => h ((pcode_zero s n).1 e)) w).mono fun e w' hd => ⟨hd.1, Wrote.below hT hd.2⟩
theorem del_any (b : Nat) (t : Tri) (F : List Nat) (s : ByteArray) (n : Int) (hs : s.size ≤ 140737488351232) (w : World) (hT : Tr w b t F) (hc : Tri.cnt t ≤ 1000000) :
    Calls Try.prog 17 #[.pointer (some ⟨b, 0, none⟩), .string s, .int .i64 n] w fun e w' => e = .returned (.bool (tget s n t).isSome) ∧ Wrote w b F (tdel s n t) w' := by
  by_cases h : OkPre s n
  · have hx := Ev.at (pcode_ev s n hs)
    rw [(pcode_zero s n).2 h] at hx
    obtain ⟨m, rfl, hm⟩ := h.nat
    unfold tget tdel
    rw [if_pos h, if_pos h]
    exact del_ok b t F s m hm hs w hx hT hc
  · have hx := Ev.at (pcode_ev s n hs)
    unfold tget tdel
    rw [if_neg h, if_neg h]
    exact (del_bad b s n _ hx (fun e => h ((pcode_zero s n).1 e)) w).mono fun e w' hd => ⟨hd.1, Wrote.below hT hd.2⟩
theorem get_any (b : Nat) (t : Tri) (F : List Nat) (s : ByteArray) (n : Int) (hs : s.size ≤ 140737488351232) (w : World) (hT : Holds w t (some ⟨b, 0, none⟩) F) :
    Calls Try.prog 16 #[.pointer (some ⟨b, 0, none⟩), .string s, .int .i64 n] w fun e w' => e = .returned (.tuple #[.int .i64 ((tget s n t).getD 0), .bool (tget s n t).isSome]) ∧ Below w.heap.size w w' := by
  by_cases h : OkPre s n
  · have hx := Ev.at (pcode_ev s n hs)
    rw [(pcode_zero s n).2 h] at hx
    obtain ⟨m, rfl, hm⟩ := h.nat
    unfold tget
    rw [if_pos h]
    exact get_ok b t F s m hm hs w hx hT
  · have hx := Ev.at (pcode_ev s n hs)
    unfold tget
    rw [if_neg h]
    exact get_bad b s n _ hx (fun e => h ((pcode_zero s n).1 e)) w
/-- A row of items: where it lies, its room, what it reads. -/
structure Rw where
  a : Option Addr
  c : Nat
  xs : List S32
def Rw.v (r : Rw) : Value := .slice r.a r.xs.length r.c
/-- The inventory: tries (at their blocks), each in blocks of its own, and rows of items that lie in none of them. -/
def Inv (w0 u : World) (L : List (Nat × Tri)) (R : List Rw) : Prop :=
  ∃ F : Nat → List Nat, (L.map (·.1)).Nodup ∧ (∀ x, x ∈ L → Tr u x.1 x.2 (F x.1) ∧ ∀ z, z ∈ F x.1 → w0.heap.size ≤ z) ∧ (∀ x, x ∈ L → ∀ y, y ∈ L → x.1 ≠ y.1 → ∀ z, z ∈ F x.1 → z ∉ F y.1) ∧
    (∀ r, r ∈ R → Kd.R k32 32 u w0.heap.size (fun k => ∀ x, x ∈ L → k ∉ F x.1) r.v r.xs) ∧ Below w0.heap.size w0 u
theorem Inv.bel {w0 u : World} {L : List (Nat × Tri)} {R : List Rw} (h : Inv w0 u L R) : Below w0.heap.size w0 u := by
  obtain ⟨F, h1, h2, h3, h4, h5⟩ := h; exact h5
theorem Inv.perm {w0 u : World} {L L' : List (Nat × Tri)} {R R' : List Rw} (h : Inv w0 u L R) (hL : L.Perm L') (hR : ∀ r, r ∈ R' → r ∈ R) : Inv w0 u L' R' := by
  obtain ⟨F, h1, h2, h3, h4, h5⟩ := h
  have hm : ∀ x, x ∈ L' → x ∈ L := fun x hx => hL.mem_iff.2 hx
  exact ⟨F, (hL.map _).nodup_iff.1 h1, fun x hx => h2 x (hm x hx), fun x hx y hy => h3 x (hm x hx) y (hm y hy), fun r hr => Kd.R_mono (h4 r (hR r hr)) (fun k hk x hx => hk x (hm x hx)), h5⟩
theorem Inv.below {w0 u u' : World} {L : List (Nat × Tri)} {R : List Rw} (h : Inv w0 u L R) (hb : Below u.heap.size u u') : Inv w0 u' L R := by
  obtain ⟨F, h1, h2, h3, h4, h5⟩ := h
  exact ⟨F, h1, fun x hx => ⟨(h2 x hx).1.below hb, (h2 x hx).2⟩, h3, fun r hr => Kd.R_below (h4 r hr) hb, below_step h5 hb⟩
theorem Inv.nil (w : World) : Inv w w [] [] := ⟨fun _ => [], List.nodup_nil, fun _ h => absurd h List.not_mem_nil, fun _ h => absurd h List.not_mem_nil, fun _ h => absurd h List.not_mem_nil, Below.refl _ _⟩
/-- The inventory, with the blocks named. -/
def InvF (F : Nat → List Nat) (w0 u : World) (L : List (Nat × Tri)) (R : List Rw) : Prop :=
  (L.map (·.1)).Nodup ∧ (∀ x, x ∈ L → Tr u x.1 x.2 (F x.1) ∧ ∀ z, z ∈ F x.1 → w0.heap.size ≤ z) ∧ (∀ x, x ∈ L → ∀ y, y ∈ L → x.1 ≠ y.1 → ∀ z, z ∈ F x.1 → z ∉ F y.1) ∧
    (∀ r, r ∈ R → Kd.R k32 32 u w0.heap.size (fun k => ∀ x, x ∈ L → k ∉ F x.1) r.v r.xs) ∧ Below w0.heap.size w0 u
theorem Inv.wroteF {w0 u u' : World} {L : List (Nat × Tri)} {R : List Rw} {b : Nat} {t t' : Tri} {F : Nat → List Nat} (h : InvF F w0 u ((b, t) :: L) R) (hw : Wrote u b (F b) t' u') : Inv w0 u' ((b, t') :: L) R := by
  obtain ⟨h1, h2, h3, h4, h5⟩ := h
  have hb := h2 (b, t) List.mem_cons_self
  obtain ⟨md, F', ht', hf⟩ := hw
  have hnb : ∀ x, x ∈ L → x.1 ≠ b := fun x hx e => by
    rw [List.map_cons, List.nodup_cons] at h1
    exact h1.1 (List.mem_map.2 ⟨x, hx, e⟩)
  have hb0 : w0.heap.size ≤ u.heap.size := h5.size
  refine ⟨fun k => if k = b then F' else F k, h1, ?_, ?_, ?_, ?_⟩
  · intro x hx
    rcases List.mem_cons.1 hx with rfl | hx
    · simp only [if_true]
      refine ⟨ht', fun z hz => ?_⟩
      rcases hf z hz with e | e
      · exact hb.2 z e
      · omega
    · have hx2 := h2 x (List.mem_cons_of_mem _ hx)
      simp only [if_neg (hnb x hx)]
      exact ⟨hx2.1.same (fun z hz => md.block z (hx2.1.hold.lt z hz) (h3 x (List.mem_cons_of_mem _ hx) (b, t) List.mem_cons_self (hnb x hx) z hz)), hx2.2⟩
  · have key : ∀ x, x ∈ L → ∀ z, z ∈ F' → z ∉ F x.1 := fun x hx z hz hm => by
      have hx2 := h2 x (List.mem_cons_of_mem _ hx)
      rcases hf z hz with e | e
      · exact h3 x (List.mem_cons_of_mem _ hx) (b, t) List.mem_cons_self (hnb x hx) z hm e
      · have := hx2.1.hold.lt z hm; omega
    intro x hx y hy hne z hz hm
    rcases List.mem_cons.1 hx with rfl | hx
    · rcases List.mem_cons.1 hy with rfl | hy
      · exact hne rfl
      · simp only [if_true, if_neg (hnb y hy)] at hz hm
        exact key y hy z hz hm
    · rcases List.mem_cons.1 hy with rfl | hy
      · simp only [if_true, if_neg (hnb x hx)] at hz hm
        exact key x hx z hm hz
      · simp only [if_neg (hnb x hx), if_neg (hnb y hy)] at hz hm
        exact h3 x (List.mem_cons_of_mem _ hx) y (List.mem_cons_of_mem _ hy) hne z hz hm
  · intro r hr
    refine Kd.R_mono (Kd.R_step (Kd.R_bound (h4 r hr)) (w1 := u') (fun k hk hlt => md.block k hlt (hk.1 (b, t) List.mem_cons_self))) (fun k hk x hx => ?_)
    rcases List.mem_cons.1 hx with rfl | hx
    · simp only [if_true]
      intro hm
      rcases hf k hm with e | e
      · exact hk.1 (b, t) List.mem_cons_self e
      · have := hk.2.2.1; omega
    · simp only [if_neg (hnb x hx)]
      exact hk.1 x (List.mem_cons_of_mem _ hx)
  · refine h5.trans ?_
    exact ⟨md.os, md.tape, md.output, md.size, fun i hi => md.block i (Nat.lt_of_lt_of_le hi h5.size) (fun hm => by have := hb.2 i hm; omega)⟩
end Go.Proofs.Ytpchlnbnpgaocaa.PTrie
