/- What field.Text, Match and Prefix and the document's answers come to. -/
import Derived.Test.YtgpahhobifdapaaMPut
import Derived.Test.YtgpahhobifdapaaPFieldx8
import Derived.Test.YtgpahhobifdapaaPFieldx9
set_option linter.unusedVariables false
set_option linter.unusedSimpArgs false
namespace Go.Proofs.Ytgpahhobifdapaa.MTell
open Go.RowKit Go.Proofs.Ytgpahhobifdapaa.PField Go.Proofs.Ytgpahhobifdapaa.MBits Go.Proofs.Ytgpahhobifdapaa.MWord Go.Proofs.Ytgpahhobifdapaa.MField Go.Proofs.Ytgpahhobifdapaa.MPut Go.Proofs.YtgpahhobifdapaaW.PrintWords Go.Proofs.YtgpahhobifdapaaW.PrintLast Go.Proofs.YtgpahhobifdapaaW.PrintMore

/-! ### Match -/
theorem match_ok (s : ByteArray) (o n : Nat) (v m : W) (hn : 1 ≤ n) (hn' : n ≤ 128) (hs : o + n ≤ 8 * s.size) (hs' : s.size ≤ 140737488351232) :
    Ev (fun k => field_Match.f k s o n (hi v) (lo v) (hi m) (lo m)) ((BitVec.ofNat 128 (num s o n) &&& m) == v, 0) := by
  unfold field_Match.f
  refine Ev.bind (get_ok s o n hn hn' hs hs') ?_
  refine Ev.ip rfl ?_
  refine Ev.pb (and_ev _ _) ?_
  have e := beq2 (BitVec.ofNat 128 (num s o n) &&& m) v
  show Ev (fun _ => some ((hi (BitVec.ofNat 128 (num s o n) &&& m) == hi v && (lo (BitVec.ofNat 128 (num s o n) &&& m) == lo v)), (0 : Int))) _
  rw [e]
  exact Ev.now _
theorem match_bad (s : ByteArray) (o n v0 v1 m0 m1 : Int) (hs' : s.size ≤ 140737488351232) (h : may s o n ≠ 0) : Ev (fun k => field_Match.f k s o n v0 v1 m0 m1) (false, may s o n) := by
  unfold field_Match.f
  refine Ev.bind (get_bad s o n hs' h) ?_
  exact Ev.in h (Ev.now _)
def wbit (x : W) (i : Nat) : Nat := x.toNat / 2 ^ i % 2
theorem wbit_lt (x : W) (i : Nat) : wbit x i < 2 := Nat.mod_lt _ (by omega)
theorem wbit_of (x : W) (i : Nat) : wbit x i = (x.getLsbD i).toNat := by
  unfold wbit BitVec.getLsbD
  rw [Nat.testBit_eq_decide_div_mod_eq]
  rcases Nat.mod_two_eq_zero_or_one (x.toNat / 2 ^ i) with h | h <;> simp [h]
theorem wbit_and (x y : W) (i : Nat) : wbit (x &&& y) i = wbit x i * wbit y i := by
  rw [wbit_of, wbit_of, wbit_of, BitVec.getLsbD_and]
  cases x.getLsbD i <;> cases y.getLsbD i <;> rfl
theorem wbit_ext {x y : W} (h : ∀ i, i < 128 → wbit x i = wbit y i) : x = y := by
  apply BitVec.eq_of_getLsbD_eq
  intro i hi
  have := h i hi
  rw [wbit_of, wbit_of] at this
  revert this
  cases x.getLsbD i <;> cases y.getLsbD i <;> simp
theorem rmatch_l (w v m : W) : ∀ d i : Nat, i + d = 128 → (∀ j, j < i → wbit w j * wbit m j = wbit v j) →
    Ev (fun k => turnoutref02_Match.l0 k (i : Int) (hi v) (lo v) (hi m) (lo m) (hi w) (lo w)) ((w &&& m) == v, 0) := by
  intro d
  induction d with
  | zero =>
    intro i h ha
    obtain rfl : i = 128 := by omega
    refine Ev.step (f := _) (fun k => by rw [turnoutref02_Match.l0]) ?_
    refine Ev.in (by omega) ?_
    have : (w &&& m) = v := wbit_ext (fun j hj => by rw [wbit_and]; exact ha j hj)
    rw [this, beq_self_eq_true]
    exact Ev.now _
  | succ d ih =>
    intro i h ha
    refine Ev.step (f := _) (fun k => by rw [turnoutref02_Match.l0]) ?_
    refine Ev.ip (by omega) ?_
    refine Ev.bind (of_ev w i (by omega)) ?_
    refine Ev.bind (of_ev m i (by omega)) ?_
    refine Ev.bind (of_ev v i (by omega)) ?_
    have e0 : wrap64 ((i : Int) + 1) = ((i + 1 : Nat) : Int) := by rw [w64 (by omega) (by omega)]; omega
    have hmul : wbit w i * wbit m i ≤ 1 := by
      have h1 := wbit_lt w i; have h2 := wbit_lt m i
      have : wbit w i * wbit m i ≤ 1 * 1 := Nat.mul_le_mul (by omega) (by omega)
      omega
    have e1 : IntKind.u64.wrap (((w.toNat / 2 ^ i % 2 : Nat) : Int) * ((m.toNat / 2 ^ i % 2 : Nat) : Int)) = ((wbit w i * wbit m i : Nat) : Int) := by
      rw [← Int.natCast_mul]
      show IntKind.u64.wrap ((wbit w i * wbit m i : Nat) : Int) = _
      rw [u64w (by omega) (by omega)]
    rw [e1, e0]
    by_cases hb : wbit w i * wbit m i = wbit v i
    · refine Ev.ip (by rw [hb]; rfl) ?_
      refine ih (i + 1) (by omega) (fun j hj => ?_)
      by_cases e : j = i
      · subst e; exact hb
      · exact ha j (by omega)
    · refine Ev.in (fun h => hb (Int.ofNat.inj h)) ?_
      have : ((w &&& m) == v) = false := by
        rw [beq_eq_false_iff_ne]
        intro e
        apply hb
        rw [← wbit_and, e]
      rw [this]
      exact Ev.now _
theorem rmatch_ok (s : ByteArray) (o n : Nat) (v m : W) (hn : 1 ≤ n) (hn' : n ≤ 128) (hs : o + n ≤ 8 * s.size) (hs' : s.size ≤ 140737488351232) :
    Ev (fun k => turnoutref02_Match.f k s o n (hi v) (lo v) (hi m) (lo m)) ((BitVec.ofNat 128 (num s o n) &&& m) == v, 0) := by
  unfold turnoutref02_Match.f
  refine Ev.bind (rget_ok s o n hn hn' hs hs') ?_
  refine Ev.ip rfl ?_
  exact rmatch_l _ v m 128 0 (by omega) (fun j hj => by omega)
theorem rmatch_bad (s : ByteArray) (o n v0 v1 m0 m1 : Int) (hs' : s.size ≤ 140737488351232) (h : may s o n ≠ 0) : Ev (fun k => turnoutref02_Match.f k s o n v0 v1 m0 m1) (false, may s o n) := by
  unfold turnoutref02_Match.f
  refine Ev.bind (rget_bad s o n hs' h) ?_
  exact Ev.in h (Ev.now _)

/-! ### Prefix -/
def Pre (s t : ByteArray) (r : Nat) : Prop := r ≤ 8 * s.size ∧ r ≤ 8 * t.size ∧ (∀ p, p < r → bitAt s p = bitAt t p) ∧ (r = 8 * s.size ∨ r = 8 * t.size ∨ bitAt s r ≠ bitAt t r)
theorem Pre.uniq {s t : ByteArray} {a b : Nat} (ha : Pre s t a) (hb : Pre s t b) : a = b := by
  obtain ⟨a1, a2, a3, a4⟩ := ha
  obtain ⟨b1, b2, b3, b4⟩ := hb
  rcases Nat.lt_trichotomy a b with h | h | h
  · rcases a4 with e | e | e
    · omega
    · omega
    · exact absurd (b3 a h) e
  · exact h
  · rcases b4 with e | e | e
    · omega
    · omega
    · exact absurd (a3 b h) e
theorem Pre.symm {s t : ByteArray} {a : Nat} (h : Pre s t a) : Pre t s a := by
  obtain ⟨a1, a2, a3, a4⟩ := h
  exact ⟨a2, a1, fun p hp => (a3 p hp).symm, a4.elim (fun e => .inr (.inl e)) (fun e => e.elim (fun e => .inl e) (fun e => .inr (.inr (fun h => e h.symm))))⟩
theorem rpre_l (s t : ByteArray) (hs : s.size ≤ 140737488351232) (ht : t.size ≤ 140737488351232) : ∀ d i : Nat, i + d = min (8 * s.size) (8 * t.size) → (∀ p, p < i → bitAt s p = bitAt t p) →
    ∃ r : Nat, Pre s t r ∧ Ev (fun k => turnoutref02_Prefix.l0 k s t i) (r : Int) := by
  intro d
  induction d with
  | zero =>
    intro i h ha
    refine ⟨i, ⟨by omega, by omega, ha, by omega⟩, ?_⟩
    refine Ev.step (f := _) (fun k => by rw [turnoutref02_Prefix.l0]) ?_
    have e1 : wrap64 (8 * (s.size : Int)) = ((8 * s.size : Nat) : Int) := by rw [w64 (by omega) (by omega)]; omega
    have e2 : wrap64 (8 * (t.size : Int)) = ((8 * t.size : Nat) : Int) := by rw [w64 (by omega) (by omega)]; omega
    rw [e1, e2]
    by_cases h1 : i < 8 * s.size
    · exact Ev.ip (by omega) (Ev.in (by omega) (Ev.now _))
    · exact Ev.in (by omega) (Ev.now _)
  | succ d ih =>
    intro i h ha
    have e1 : wrap64 (8 * (s.size : Int)) = ((8 * s.size : Nat) : Int) := by rw [w64 (by omega) (by omega)]; omega
    have e2 : wrap64 (8 * (t.size : Int)) = ((8 * t.size : Nat) : Int) := by rw [w64 (by omega) (by omega)]; omega
    have e3 : wrap64 ((i : Int) + 1) = ((i + 1 : Nat) : Int) := by rw [w64 (by omega) (by omega)]; omega
    by_cases hb : bitAt s i = bitAt t i
    · obtain ⟨r, hr, he⟩ := ih (i + 1) (by omega) (fun p hp => by
        by_cases e : p = i
        · subst e; exact hb
        · exact ha p (by omega))
      refine ⟨r, hr, ?_⟩
      refine Ev.step (f := _) (fun k => by rw [turnoutref02_Prefix.l0]) ?_
      rw [e1, e2, e3]
      refine Ev.ip (by omega) ?_
      refine Ev.ip (by omega) ?_
      refine Ev.bind (bit_ev s i (by omega) hs) ?_
      refine Ev.bind (bit_ev t i (by omega) ht) ?_
      exact Ev.ip (by rw [hb]) he
    · refine ⟨i, ⟨by omega, by omega, ha, .inr (.inr hb)⟩, ?_⟩
      refine Ev.step (f := _) (fun k => by rw [turnoutref02_Prefix.l0]) ?_
      rw [e1, e2, e3]
      refine Ev.ip (by omega) ?_
      refine Ev.ip (by omega) ?_
      refine Ev.bind (bit_ev s i (by omega) hs) ?_
      refine Ev.bind (bit_ev t i (by omega) ht) ?_
      exact Ev.in (fun h => hb (Int.ofNat.inj h)) (Ev.now _)
theorem rpre_ev (s t : ByteArray) (hs : s.size ≤ 140737488351232) (ht : t.size ≤ 140737488351232) : ∃ r : Nat, Pre s t r ∧ Ev (fun k => turnoutref02_Prefix.f k s t) (r : Int) := by
  unfold turnoutref02_Prefix.f
  exact rpre_l s t hs ht _ 0 (Nat.zero_add _) (fun p hp => by omega)
set_option maxRecDepth 100000 in
theorem first1 : ∀ x : Fin 256, x.val ≠ 0 → ∃ d : Fin 8, 2 ^ (7 - d.val) ≤ x.val ∧ x.val < 2 ^ (8 - d.val) ∧ (∀ j : Fin 8, j.val < d.val → x.val / 2 ^ (7 - j.val) % 2 = 0) ∧ x.val / 2 ^ (7 - d.val) % 2 = 1 := by decide +kernel
theorem xor_bit (a b m : Nat) : (a ^^^ b) / 2 ^ m % 2 = (a / 2 ^ m % 2 + b / 2 ^ m % 2) % 2 := by
  have h := Nat.testBit_xor a b m
  rw [Nat.testBit_eq_decide_div_mod_eq, Nat.testBit_eq_decide_div_mod_eq, Nat.testBit_eq_decide_div_mod_eq] at h
  rcases Nat.mod_two_eq_zero_or_one (a / 2 ^ m) with h1 | h1 <;> rcases Nat.mod_two_eq_zero_or_one (b / 2 ^ m) with h2 | h2 <;> rcases Nat.mod_two_eq_zero_or_one ((a ^^^ b) / 2 ^ m) with h3 | h3 <;> simp [h1, h2, h3] at h ⊢
theorem pre_l1 (i : Nat) (hi' : i ≤ 140737488351232) : ∀ d, d < 8 → ∀ (a x : Nat), a + d ≤ 100 → 2 ^ (7 - d) ≤ x → x < 2 ^ (8 - d) → Ev (fun k => field_Prefix.l1 k (i : Int) (a : Int) (x : Int)) ((8 * i + a + d : Nat) : Int) := by
  intro d
  induction d with
  | zero =>
    intro _ a x ha h1 h2
    refine Ev.step (f := _) (fun k => by rw [field_Prefix.l1]) ?_
    have : (128 : Nat) = 2 ^ (7 - 0) := rfl
    refine Ev.in (by omega) ?_
    have e1 : wrap64 ((wrap64 (8 * (i : Int))) + (a : Int)) = ((8 * i + a + 0 : Nat) : Int) := by rw [w64 (n := 8 * (i : Int)) (by omega) (by omega), w64 (by omega) (by omega)]; omega
    rw [e1]
    exact Ev.now _
  | succ d ih =>
    intro hd a x ha h1 h2
    refine Ev.step (f := _) (fun k => by rw [field_Prefix.l1]) ?_
    have p1 : 2 ^ (8 - (d + 1)) ≤ 2 ^ 7 := Nat.pow_le_pow_right (by omega) (by omega)
    have p2 : 2 ^ (7 - d) = 2 * 2 ^ (7 - (d + 1)) := by rw [show 7 - d = (7 - (d + 1)) + 1 by omega, Nat.pow_succ]; omega
    have p3 : 2 ^ (8 - d) = 2 * 2 ^ (8 - (d + 1)) := by rw [show 8 - d = (8 - (d + 1)) + 1 by omega, Nat.pow_succ]; omega
    have p4 : (2 : Nat) ^ 7 = 128 := rfl
    refine Ev.ip (by omega) ?_
    have e1 : wrap64 ((a : Int) + 1) = ((a + 1 : Nat) : Int) := by rw [w64 (by omega) (by omega)]; omega
    have e2 : ((x : Int) * 2) % 256 = ((2 * x : Nat) : Int) := by omega
    rw [e1, e2]
    have := ih (by omega) (a + 1) (2 * x) (by omega) (by omega) (by omega)
    rw [show 8 * i + a + (d + 1) = 8 * i + (a + 1) + d by omega]
    exact this
theorem bits_of_bytes {s t : ByteArray} {i : Nat} (h : ∀ j, j < i → bN s j = bN t j) : ∀ p, p < 8 * i → bitAt s p = bitAt t p := by
  intro p hp
  unfold bitAt
  rw [h (p / 8) (by omega)]
theorem pre_j2 (s t : ByteArray) (hs : s.size ≤ 140737488351232) (ht : t.size ≤ 140737488351232) (i : Nat) (h1 : i ≤ s.size) (h2 : i ≤ t.size) (ha : ∀ j, j < i → bN s j = bN t j) (hu : i < s.size → i < t.size → bN s i ≠ bN t i) :
    ∃ r : Nat, Pre s t r ∧ Ev (fun k => field_Prefix.j1 k s t (i : Int)) (r : Int) := by
  have hb := bits_of_bytes ha
  have e1 : wrap64 (8 * (i : Int)) = ((8 * i : Nat) : Int) := by rw [w64 (by omega) (by omega)]; omega
  by_cases c1 : i = s.size
  · refine ⟨8 * i, ⟨by omega, by omega, hb, by omega⟩, ?_⟩
    refine Ev.step (f := _) (fun k => by rw [field_Prefix.j1]) ?_
    refine Ev.ip (by omega) ?_
    refine Ev.step (f := _) (fun k => by rw [field_Prefix.j2]) ?_
    refine Ev.ip rfl ?_
    rw [e1]; exact Ev.now _
  · by_cases c2 : i = t.size
    · refine ⟨8 * i, ⟨by omega, by omega, hb, by omega⟩, ?_⟩
      refine Ev.step (f := _) (fun k => by rw [field_Prefix.j1]) ?_
      refine Ev.in (by omega) ?_
      refine Ev.step (f := _) (fun k => by rw [field_Prefix.j2]) ?_
      refine Ev.ip (by rw [c2]; exact beq_self_eq_true _) ?_
      rw [e1]; exact Ev.now _
    · have hne := hu (by omega) (by omega)
      have hlt1 := bN_lt s i
      have hlt2 := bN_lt t i
      obtain ⟨x, hx⟩ : ∃ x : Nat, x = bN s i ^^^ bN t i := ⟨_, rfl⟩
      have hx1 : x < 256 := by rw [hx]; exact Nat.xor_lt_two_pow (n := 8) hlt1 hlt2
      have hx0 : x ≠ 0 := by
        rw [hx]; intro h
        exact hne (byte_ext hlt1 hlt2 (fun j hj => by
          have := xor_bit (bN s i) (bN t i) (7 - j)
          rw [h, Nat.zero_div] at this
          omega))
      obtain ⟨d, d1, d2, d3, d4⟩ := first1 ⟨x, hx1⟩ hx0
      simp only at d1 d2 d3 d4
      have hd := d.isLt
      have hbit : ∀ j, j < 8 → bitAt s (8 * i + j) = bN s i / 2 ^ (7 - j) % 2 ∧ bitAt t (8 * i + j) = bN t i / 2 ^ (7 - j) % 2 := by
        intro j hj
        unfold bitAt
        rw [show (8 * i + j) / 8 = i by omega, show (8 * i + j) % 8 = j by omega]
        exact ⟨rfl, rfl⟩
      refine ⟨8 * i + d.val, ⟨by omega, by omega, fun p hp => ?_, .inr (.inr ?_)⟩, ?_⟩
      · by_cases hp8 : p < 8 * i
        · exact hb p hp8
        · obtain ⟨j, rfl⟩ : ∃ j, p = 8 * i + j := ⟨p - 8 * i, by omega⟩
          have := d3 ⟨j, by omega⟩ (by simp only; omega)
          simp only at this
          rw [hx, xor_bit] at this
          rw [(hbit j (by omega)).1, (hbit j (by omega)).2]
          omega
      · rw [(hbit d.val hd).1, (hbit d.val hd).2]
        rw [hx, xor_bit] at d4
        omega
      · refine Ev.step (f := _) (fun k => by rw [field_Prefix.j1]) ?_
        refine Ev.in (by omega) ?_
        refine Ev.step (f := _) (fun k => by rw [field_Prefix.j2]) ?_
        refine Ev.in (by rw [beq_iff_eq]; omega) ?_
        refine Ev.ip (by omega) ?_
        refine Ev.ip (by omega) ?_
        refine Ev.ip (by omega) ?_
        rw [bN_bt, bN_bt, u8_xor_nat _ _ hlt1 hlt2, ← hx]
        exact pre_l1 i (by omega) d.val hd 0 x (by omega) d1 d2
theorem pre_l0 (s t : ByteArray) (hs : s.size ≤ 140737488351232) (ht : t.size ≤ 140737488351232) : ∀ d i : Nat, i + d = min s.size t.size → (∀ j, j < i → bN s j = bN t j) →
    ∃ r : Nat, Pre s t r ∧ Ev (fun k => field_Prefix.l0 k s t (i : Int)) (r : Int) := by
  intro d
  induction d with
  | zero =>
    intro i h ha
    obtain ⟨r, hr, he⟩ := pre_j2 s t hs ht i (by omega) (by omega) ha (by omega)
    refine ⟨r, hr, ?_⟩
    refine Ev.step (f := _) (fun k => by rw [field_Prefix.l0]) ?_
    by_cases h1 : i < s.size
    · exact Ev.ip (by omega) (Ev.in (by omega) he)
    · exact Ev.in (by omega) he
  | succ d ih =>
    intro i h ha
    by_cases hb : bN s i = bN t i
    · obtain ⟨r, hr, he⟩ := ih (i + 1) (by omega) (fun j hj => by
        by_cases e : j = i
        · subst e; exact hb
        · exact ha j (by omega))
      have e3 : wrap64 ((i : Int) + 1) = ((i + 1 : Nat) : Int) := by rw [w64 (by omega) (by omega)]; omega
      refine ⟨r, hr, ?_⟩
      refine Ev.step (f := _) (fun k => by rw [field_Prefix.l0]) ?_
      rw [e3]
      refine Ev.ip (by omega) ?_
      refine Ev.ip (by omega) ?_
      refine Ev.ip (by omega) ?_
      exact Ev.ip (by rw [bN_bt, bN_bt, hb]) he
    · obtain ⟨r, hr, he⟩ := pre_j2 s t hs ht i (by omega) (by omega) ha (fun _ _ => hb)
      refine ⟨r, hr, ?_⟩
      refine Ev.step (f := _) (fun k => by rw [field_Prefix.l0]) ?_
      refine Ev.ip (by omega) ?_
      refine Ev.ip (by omega) ?_
      refine Ev.ip (by omega) ?_
      exact Ev.in (by rw [bN_bt, bN_bt]; intro h; exact hb (Int.ofNat.inj h)) he
theorem pre_ev (s t : ByteArray) (hs : s.size ≤ 140737488351232) (ht : t.size ≤ 140737488351232) : ∃ r : Nat, Pre s t r ∧ Ev (fun k => field_Prefix.f k s t) (r : Int) := by
  unfold field_Prefix.f
  exact pre_l0 s t hs ht _ 0 (Nat.zero_add _) (fun p hp => by omega)

/-! ### Bytes, Text -/
def nb (n : Int) : Int := if n < 1 ∨ n > 128 then 0 else (n + 7) / 8
theorem bytes_ev (n : Int) : field_Bytes.f n = some (nb n) := by
  unfold field_Bytes.f nb
  by_cases h1 : n < 1
  · rw [if_pos h1, if_pos (.inl h1)]
  · by_cases h2 : n > 128
    · rw [if_neg h1, if_pos h2, if_pos (.inr h2)]
    · rw [if_neg h1, if_neg h2, if_neg (by omega)]
      rw [w64 (n := n + 8) (by omega) (by omega), w64 (n := n + 8 - 1) (by omega) (by omega), Int.tdiv_eq_ediv_of_nonneg (by omega), w64 (by omega) (by omega)]
      congr 1; omega
theorem rbytes_ev (n : Int) : turnoutref02_Bytes.f n = some (nb n) := by
  unfold turnoutref02_Bytes.f nb
  by_cases h1 : n < 1
  · rw [if_pos h1, if_pos (.inl h1)]
  · by_cases h2 : n > 128
    · rw [if_neg h1, if_pos h2, if_pos (.inr h2)]
    · rw [if_neg h1, if_neg h2, if_neg (by omega)]
      rw [w64 (n := n + 7) (by omega) (by omega), Int.tdiv_eq_ediv_of_nonneg (by omega), w64 (by omega) (by omega)]
theorem txt_congr {f g : Nat → Nat} {n : Nat} (h : ∀ p, p < 8 * n → f p = g p) : txt f n = txt g n := by
  unfold txt tB
  congr 1
  refine List.map_congr_left (fun i hi => ?_)
  have := List.mem_range.1 hi
  rw [nF_congr (fun j hj => h (8 * i + j) (by omega))]
theorem bit_extract (s : ByteArray) (a b p : Nat) (hb : b ≤ s.size) (hp : p < 8 * (b - a)) : bitAt (s.extract a b) p = bitAt s (8 * a + p) := by
  unfold bitAt
  have h1 : p / 8 < (s.extract a b).size := by rw [ByteArray.size_extract]; omega
  have h2 : (8 * a + p) / 8 = a + p / 8 := by omega
  have h3 : (8 * a + p) % 8 = p % 8 := by omega
  rw [h2, h3, bN_at _ _ h1, bN_at s (a + p / 8) (by omega), ByteArray.getElem_extract]
theorem mod_bit (v n k : Nat) : v % 2 ^ n / 2 ^ k % 2 = if k < n then v / 2 ^ k % 2 else 0 := by
  have h := Nat.testBit_mod_two_pow v n k
  rw [Nat.testBit_eq_decide_div_mod_eq, Nat.testBit_eq_decide_div_mod_eq] at h
  by_cases hk : k < n
  · rw [if_pos hk]
    simp only [hk, decide_true, Bool.true_and, decide_eq_decide] at h
    omega
  · rw [if_neg hk]
    simp only [hk, decide_false, Bool.false_and, decide_eq_false_iff_not] at h
    omega
/-- The bits of a word as a text of 16 bytes. -/
def wb (v p : Nat) : Nat := v / 2 ^ (127 - p) % 2
theorem wb_lt (v p : Nat) : wb v p < 2 := Nat.mod_lt _ (by omega)
theorem wb_byte (v i : Nat) (hi : i < 16) : nF (wb v) (8 * i) 8 = v / 2 ^ (120 - 8 * i) % 256 := by
  have := nF_word v (8 * i) (128 - 8 * i) 8 (by omega)
  rw [show 128 - 8 * i - 8 = 120 - 8 * i by omega, show 2 ^ 8 = 256 from rfl] at this
  rw [← this]
  refine nF_congr (fun j hj => ?_)
  unfold wb
  rw [show 127 - (8 * i + j) = 8 * i + (128 - 8 * i) - 1 - (8 * i + j) by omega]
theorem row_ev (x : W) : ∀ n, n ≤ 16 → word_Text.row (hi x) (lo x) n = some (tB (wb x.toNat) n) := by
  intro n
  induction n with
  | zero => intro _; rfl
  | succ n ih =>
    intro h
    unfold word_Text.row
    have e : (128 : Int) - 8 * ((n : Int) + 1) = ((120 - 8 * n : Nat) : Int) := by omega
    rw [ih (by omega), e, Option.bind_some, right_ev x _ (by omega) (by omega), Option.bind_some, Int.toNat_natCast]
    have e2 : lo (x >>> (120 - 8 * n)) % 256 = ((nF (wb x.toNat) (8 * n) 8 : Nat) : Int) := by
      rw [wb_byte _ _ (by omega)]
      unfold lo loN
      rw [right_nat]
      omega
    simp only
    rw [e2, tB_succ]
theorem text_ev (x : W) : word_Text.f (hi x) (lo x) = some (txt (wb x.toNat) 16) := by
  unfold word_Text.f
  rw [row_ev x 16 (Nat.le_refl _), Option.bind_some]
  rfl
def fb (v n b p : Nat) : Nat := if 8 * b - 1 - p < n then v / 2 ^ (8 * b - 1 - p) % 2 else 0
theorem fb_lt (v n b p : Nat) : fb v n b p < 2 := by unfold fb; split <;> omega
theorem ftext_ok (x : W) (n b : Nat) (hn : 1 ≤ n) (hn' : n ≤ 128) (hb : b = (n + 7) / 8) : field_Text.f (hi x) (lo x) n = some (txt (fb x.toNat n b) b, 0) := by
  unfold field_Text.f
  have hnb : nb (n : Int) = (b : Int) := by unfold nb; rw [if_neg (by omega)]; omega
  rw [bytes_ev, hnb, Option.bind_some, if_neg (by omega), cut_ev, Option.bind_some]
  simp only
  rw [text_ev, Option.bind_some, txt_size]
  have e : wrap64 (((16 : Nat) : Int) - (b : Int)) = ((16 - b : Nat) : Int) := by rw [w64 (by omega) (by omega)]; omega
  rw [e, if_pos (by omega), if_pos (by omega), Int.toNat_natCast]
  congr 2
  have hcut : (x &&& mask (n : Int)).toNat = x.toNat % 2 ^ n := by
    have := and_mask x.toNat n hn'
    rw [BitVec.ofNat_toNat, BitVec.setWidth_eq] at this
    rw [this, BitVec.toNat_ofNat, Nat.mod_eq_of_lt (Nat.lt_of_le_of_lt (Nat.mod_le _ _) x.isLt)]
  refine text_ext (by rw [ByteArray.size_extract, txt_size, txt_size]; omega) (fun p hp => ?_)
  rw [ByteArray.size_extract, txt_size] at hp
  rw [bit_extract _ _ _ _ (by rw [txt_size]; omega) (by omega), bit_txt (wb_lt _) _ _ (by omega), bit_txt (fb_lt _ _ _) _ _ (by omega), hcut]
  unfold wb fb
  rw [mod_bit, show 127 - (8 * (16 - b) + p) = 8 * b - 1 - p by omega]
theorem ftext_bad (w0 w1 n : Int) (h : n < 1 ∨ n > 128) : field_Text.f w0 w1 n = some (⟨#[]⟩, 1) := by
  unfold field_Text.f
  have hnb : nb n = 0 := by unfold nb; rw [if_pos h]
  rw [bytes_ev, hnb, Option.bind_some, if_pos rfl]
theorem rtext_l1 (x : W) (n b i : Nat) (hn' : n ≤ 128) (hb : b = (n + 7) / 8) (hi' : i < b) {r : ByteArray × Int}
    (k : Ev (fun k => turnoutref02_Text.l0 k n (txt (fb x.toNat n b) (b - 1 - i + 1)) ((i : Int) - 1) (hi x) (lo x)) r) : ∀ d j, j + d = 8 →
    Ev (fun k => turnoutref02_Text.l1 k n (txt (fb x.toNat n b) (b - 1 - i)) i ((nF (fb x.toNat n b) (8 * (b - 1 - i)) j : Nat) : Int) (((8 * i + 7 : Nat) : Int) - (j : Int)) (hi x) (lo x)) r := by
  intro d
  have e1 : wrap64 (8 * (i : Int)) = ((8 * i : Nat) : Int) := by rw [w64 (by omega) (by omega)]; omega
  induction d with
  | zero =>
    intro j h
    obtain rfl : j = 8 := by omega
    refine Ev.step (f := _) (fun k => by rw [turnoutref02_Text.l1]) ?_
    have e2 : wrap64 ((i : Int) - 1) = (i : Int) - 1 := w64 (by omega) (by omega)
    refine Ev.in (by rw [e1]; omega) ?_
    refine Ev.pb rfl ?_
    have hlt := nF_lt (fb_lt x.toNat n b) (8 * (b - 1 - i)) 8
    have e3 : ((nF (fb x.toNat n b) (8 * (b - 1 - i)) 8 : Nat) : Int) % 256 = ((nF (fb x.toNat n b) (8 * (b - 1 - i)) 8 : Nat) : Int) := by omega
    rw [e2, e3]
    refine Ev.ip (by rw [txt_size, strOfNums_size]; simp; omega) ?_
    rw [txt_succ]
    exact k
  | succ d ih =>
    intro j h
    refine Ev.step (f := _) (fun k => by rw [turnoutref02_Text.l1]) ?_
    refine Ev.ip (by rw [e1]; omega) ?_
    have hlt := nF_lt (fb_lt x.toNat n b) (8 * (b - 1 - i)) j
    have hle : 2 ^ j ≤ 2 ^ 8 := Nat.pow_le_pow_right (by omega) (by omega)
    have hlt' : nF (fb x.toNat n b) (8 * (b - 1 - i)) j < 256 := Nat.lt_of_lt_of_le hlt hle
    have e0 : (((8 * i + 7 : Nat) : Int) - (j : Int)) = ((8 * i + 7 - j : Nat) : Int) := by omega
    have e2 : wrap64 (((8 * i + 7 - j : Nat) : Int) - 1) = ((8 * i + 7 : Nat) : Int) - ((j + 1 : Nat) : Int) := by rw [w64 (by omega) (by omega)]; omega
    have hr := ih (j + 1) (by omega)
    have hidx : 8 * b - 1 - (8 * (b - 1 - i) + j) = 8 * i + 7 - j := by omega
    rw [e0, e2]
    by_cases h1 : 8 * i + 7 - j < n
    · refine Ev.ip (by omega) ?_
      refine Ev.bind (of_ev x (8 * i + 7 - j) (by omega)) ?_
      have e4 : nF (fb x.toNat n b) (8 * (b - 1 - i)) (j + 1) = 2 * nF (fb x.toNat n b) (8 * (b - 1 - i)) j + x.toNat / 2 ^ (8 * i + 7 - j) % 2 := by
        show 2 * nF (fb x.toNat n b) (8 * (b - 1 - i)) j + fb x.toNat n b (8 * (b - 1 - i) + j) = _
        unfold fb; rw [hidx, if_pos h1]
      have hq : x.toNat / 2 ^ (8 * i + 7 - j) % 2 < 2 := Nat.mod_lt _ (by omega)
      rw [e4] at hr
      generalize x.toNat / 2 ^ (8 * i + 7 - j) % 2 = q at hq hr
      have e5 : IntKind.u64.wrap ((IntKind.u64.wrap (((nF (fb x.toNat n b) (8 * (b - 1 - i)) j : Nat) : Int) * 2)) + (q : Int)) = ((2 * nF (fb x.toNat n b) (8 * (b - 1 - i)) j + q : Nat) : Int) := by
        rw [u64w (n := ((nF (fb x.toNat n b) (8 * (b - 1 - i)) j : Nat) : Int) * 2) (by omega) (by omega), u64w (by omega) (by omega)]; omega
      rw [e5]
      exact hr
    · refine Ev.in (by omega) ?_
      have e4 : nF (fb x.toNat n b) (8 * (b - 1 - i)) (j + 1) = 2 * nF (fb x.toNat n b) (8 * (b - 1 - i)) j := by
        show 2 * nF (fb x.toNat n b) (8 * (b - 1 - i)) j + fb x.toNat n b (8 * (b - 1 - i) + j) = _
        unfold fb; rw [hidx, if_neg h1]; rfl
      rw [e4] at hr
      have e5 : IntKind.u64.wrap (((nF (fb x.toNat n b) (8 * (b - 1 - i)) j : Nat) : Int) * 2) = ((2 * nF (fb x.toNat n b) (8 * (b - 1 - i)) j : Nat) : Int) := by
        rw [u64w (by omega) (by omega)]; omega
      rw [e5]
      exact hr
theorem rtext_l0 (x : W) (n b : Nat) (hn' : n ≤ 128) (hb : b = (n + 7) / 8) : ∀ d, d ≤ b →
    Ev (fun k => turnoutref02_Text.l0 k n (txt (fb x.toNat n b) (b - d)) ((d : Int) - 1) (hi x) (lo x)) (txt (fb x.toNat n b) b, 0) := by
  intro d
  induction d with
  | zero =>
    intro _
    refine Ev.step (f := _) (fun k => by rw [turnoutref02_Text.l0]) ?_
    exact Ev.in (by omega) (Ev.now _)
  | succ d ih =>
    intro h
    refine Ev.step (f := _) (fun k => by rw [turnoutref02_Text.l0]) ?_
    refine Ev.ip (by omega) ?_
    have e0 : ((d + 1 : Nat) : Int) - 1 = (d : Int) := by omega
    have e : wrap64 ((wrap64 (8 * (d : Int))) + 7) = ((8 * d + 7 : Nat) : Int) - ((0 : Nat) : Int) := by rw [w64 (n := 8 * (d : Int)) (by omega) (by omega), w64 (by omega) (by omega)]; omega
    rw [e0, e, show b - (d + 1) = b - 1 - d by omega]
    refine rtext_l1 x n b d hn' hb (by omega) ?_ 8 0 (by omega)
    rw [show b - 1 - d + 1 = b - d by omega]
    exact ih (by omega)
theorem rtext_ok (x : W) (n b : Nat) (hn : 1 ≤ n) (hn' : n ≤ 128) (hb : b = (n + 7) / 8) : Ev (fun k => turnoutref02_Text.f k (hi x) (lo x) n) (txt (fb x.toNat n b) b, 0) := by
  unfold turnoutref02_Text.f
  have hnb : nb (n : Int) = (b : Int) := by unfold nb; rw [if_neg (by omega)]; omega
  have hby := rbytes_ev (n : Int)
  rw [hnb] at hby
  refine Ev.pb hby ?_
  refine Ev.in (by omega) ?_
  refine Ev.pb hby ?_
  have := rtext_l0 x n b hn' hb b (Nat.le_refl b)
  rw [Nat.sub_self] at this
  have e : wrap64 ((b : Int) - 1) = (b : Int) - 1 := w64 (by omega) (by omega)
  rw [e]
  exact this
theorem rtext_bad (w0 w1 n : Int) (h : n < 1 ∨ n > 128) : Ev (fun k => turnoutref02_Text.f k w0 w1 n) (⟨#[]⟩, 1) := by
  unfold turnoutref02_Text.f
  have hby := rbytes_ev n
  have hnb : nb n = 0 := by unfold nb; rw [if_pos h]
  rw [hnb] at hby
  refine Ev.pb hby ?_
  exact Ev.ip rfl (Ev.now _)
end Go.Proofs.Ytgpahhobifdapaa.MTell
