/- The document's Bit, Begins and Cut: what they answer. -/
import Derived.Test.YtpchlnbnpgaocaaKTrie15
import Derived.Test.YtpchlnbnpgaocaaKCut
namespace Go.Proofs.Ytpchlnbnpgaocaa.PTrie
open Go.Proofs.Ytpchlnbnpgaocaa.KTree Go.Proofs.Ytpchlnbnpgaocaa.KReg Go.Proofs.Ytpchlnbnpgaocaa.KBits Go.RowKit Go.Proofs.YtpchlnbnpgaocaaW.PrintWords Go.Proofs.YtpchlnbnpgaocaaW.PrintLast Go.Proofs.YtpchlnbnpgaocaaW.PrintMore
set_option linter.unusedVariables false
set_option linter.unusedSimpArgs false
theorem bit_l (v : Nat) (hv : v < 256) (j : Nat) : ∀ d i : Nat, i + d = 7 → j ≤ i → ∀ x : Nat, x = v / 2 ^ (i - j) → Ev (fun k => turnoutref02_Bit.l0 k (x : Int) (i : Int)) ((v / 2 ^ (7 - j) % 2 : Nat) : Int) := by
  intro d
  induction d with
  | zero =>
    intro i h hj x hx
    obtain rfl : i = 7 := by omega
    refine Ev.step (f := _) (fun k => by rw [turnoutref02_Bit.l0]) ?_
    refine MBits.Ev.in (by omega) ?_
    have : x ≤ v := by rw [hx]; exact Nat.div_le_self _ _
    have hu : IntKind.u64.wrap ((x % 2 : Nat) : Int) = ((x % 2 : Nat) : Int) := by rw [IntKind.wrap_u64]; omega
    have ht : Int.tmod (x : Int) 2 = ((x % 2 : Nat) : Int) := by rw [Int.tmod_eq_emod_of_nonneg (by omega)]; omega
    rw [ht, hu, ← hx]
    exact Ev.now _
  | succ d ih =>
    intro i h hj x hx
    refine Ev.step (f := _) (fun k => by rw [turnoutref02_Bit.l0]) ?_
    refine MBits.Ev.ip (by omega) ?_
    have : x ≤ v := by rw [hx]; exact Nat.div_le_self _ _
    have e1 : wrap64 (Int.tdiv (x : Int) 2) = ((x / 2 : Nat) : Int) := by rw [Int.tdiv_eq_ediv_of_nonneg (by omega), MBits.w64 (by omega) (by omega)]; omega
    have e2 : wrap64 ((i : Int) + 1) = ((i + 1 : Nat) : Int) := by rw [MBits.w64 (by omega) (by omega)]; omega
    rw [e1, e2]
    exact ih (i + 1) (by omega) (by omega) (x / 2) (by rw [hx, show i + 1 - j = (i - j) + 1 by omega, Nat.pow_succ, Nat.div_div_eq_div_mul])
theorem bit_ev (s : ByteArray) (p : Nat) (hp : p < 8 * s.size) (hs' : s.size ≤ 140737488351232) : Ev (fun k => turnoutref02_Bit.f k s p) (MField.bitAt s p : Int) := by
  unfold turnoutref02_Bit.f
  have e1 : wrap64 (Int.tdiv (p : Int) 8) = ((p / 8 : Nat) : Int) := by rw [Int.tdiv_eq_ediv_of_nonneg (by omega), MBits.w64 (by omega) (by omega)]; omega
  have hby := MField.bN_lt s (p / 8)
  rw [e1]
  refine MBits.Ev.ip (by omega) ?_
  refine MBits.Ev.ip (by omega) ?_
  have e2 : Int.tmod (p : Int) 8 = ((p % 8 : Nat) : Int) := by rw [Int.tmod_eq_emod_of_nonneg (by omega)]; omega
  rw [MField.bN_bt, MBits.w64 (by omega) (by omega), e2]
  exact bit_l (MField.bN s (p / 8)) hby (p % 8) (7 - p % 8) (p % 8) (by omega) (Nat.le_refl _) (MField.bN s (p / 8)) (by simp)
theorem bit_tb (a s : ByteArray) (i : Nat) (ha : i < 8 * a.size) (hs : i < 8 * s.size) : ((MField.bitAt a i : Int) = (MField.bitAt s i : Int)) ↔ tb a i = tb s i := by
  rw [tb_bit a i ha, tb_bit s i hs]
  have h1 := MField.bitAt_lt a i
  have h2 := MField.bitAt_lt s i
  have c1 : MField.bitAt a i = 0 ∨ MField.bitAt a i = 1 := by omega
  have c2 : MField.bitAt s i = 0 ∨ MField.bitAt s i = 1 := by omega
  rcases c1 with c1 | c1 <;> rcases c2 with c2 | c2 <;> rw [c1, c2] <;> simp
/-- Whether the first m bits of a are s's. -/
def Beg (a : ByteArray) (m : Nat) (s : ByteArray) : Prop := m ≤ 8 * s.size ∧ ∀ j, j < m → tb a j = tb s j
theorem begins_l (a s : ByteArray) (m : Nat) (v : Int) (ha : a.size ≤ 140737488351232) (hs : s.size ≤ 140737488351232) (hm : m ≤ 8 * a.size) (hms : m ≤ 8 * s.size) : ∀ d i : Nat, i + d = m →
    ((∀ j, i ≤ j → j < m → tb a j = tb s j) → Ev (fun k => turnoutref11_Begins.l0 k s i a m v) true) ∧ ((∃ j, i ≤ j ∧ j < m ∧ tb a j ≠ tb s j) → Ev (fun k => turnoutref11_Begins.l0 k s i a m v) false) := by
  intro d
  induction d with
  | zero =>
    intro i h
    obtain rfl : i = m := by omega
    exact ⟨fun _ => Ev.step (f := fun _ => some true) (fun k => by rw [turnoutref11_Begins.l0, if_neg (by omega)]) (Ev.now _), fun h => by obtain ⟨j, h1, h2, _⟩ := h; omega⟩
  | succ d ih =>
    intro i h
    have hb := ih (i + 1) (by omega)
    have e1 := bit_ev a i (by omega) ha
    have e2 := bit_ev s i (by omega) hs
    have e3 : wrap64 ((i : Int) + 1) = ((i + 1 : Nat) : Int) := by rw [MBits.w64 (by omega) (by omega)]; omega
    have st : ∀ r, Ev (fun k => if (MField.bitAt a i : Int) = (MField.bitAt s i : Int) then turnoutref11_Begins.l0 k s ((i + 1 : Nat) : Int) a m v else some false) r → Ev (fun k => turnoutref11_Begins.l0 k s i a m v) r := fun r hr => by
      refine Ev.step (f := _) (fun k => by rw [turnoutref11_Begins.l0, if_pos (by omega)]) ?_
      refine Ev.bind e1 ?_
      refine Ev.bind e2 ?_
      rw [e3]
      exact hr
    constructor
    · intro hall
      refine st _ (MBits.Ev.ip ((bit_tb a s i (by omega) (by omega)).2 (hall i (Nat.le_refl _) (by omega))) (hb.1 (fun j h1 h2 => hall j (by omega) h2)))
    · rintro ⟨j, h1, h2, h3⟩
      by_cases he : tb a i = tb s i
      · refine st _ (MBits.Ev.ip ((bit_tb a s i (by omega) (by omega)).2 he) (hb.2 ⟨j, ?_, h2, h3⟩))
        rcases Nat.lt_or_ge i j with h | h
        · exact h
        · obtain rfl : i = j := by omega
          exact absurd he h3
      · exact st _ (MBits.Ev.in (fun e => he ((bit_tb a s i (by omega) (by omega)).1 e)) (Ev.now _))
theorem begins_yes {a s : ByteArray} {m : Nat} (v : Int) (ha : a.size ≤ 100000) (hs : s.size ≤ 100000) (hm : m ≤ 8 * a.size) (h : Beg a m s) : Ev (fun k => turnoutref11_Begins.f k a m v s) true := by
  unfold turnoutref11_Begins.f
  have e1 : wrap64 (8 * (s.size : Int)) = 8 * (s.size : Int) := MBits.w64 (by omega) (by omega)
  rw [e1]
  exact MBits.Ev.in (by have := h.1; omega) ((begins_l a s m v (by omega) (by omega) hm h.1 m 0 (by omega)).1 (fun j _ h2 => h.2 j h2))
theorem begins_no {a s : ByteArray} {m : Nat} (v : Int) (ha : a.size ≤ 100000) (hs : s.size ≤ 100000) (hm : m ≤ 8 * a.size) (h : ¬ Beg a m s) : Ev (fun k => turnoutref11_Begins.f k a m v s) false := by
  unfold turnoutref11_Begins.f
  have e1 : wrap64 (8 * (s.size : Int)) = 8 * (s.size : Int) := MBits.w64 (by omega) (by omega)
  rw [e1]
  by_cases hl : m ≤ 8 * s.size
  · have hex : ∃ j, 0 ≤ j ∧ j < m ∧ tb a j ≠ tb s j := by
      rcases Classical.em (∃ j, 0 ≤ j ∧ j < m ∧ tb a j ≠ tb s j) with h1 | h1
      · exact h1
      · exfalso; apply h
        refine ⟨hl, fun j hj => ?_⟩
        rcases Classical.em (tb a j = tb s j) with h2 | h2
        · exact h2
        · exact absurd ⟨j, Nat.zero_le _, hj, h2⟩ h1
    exact MBits.Ev.in (by omega) ((begins_l a s m v (by omega) (by omega) hm hl m 0 (by omega)).2 hex)
  · exact MBits.Ev.ip (by omega) (Ev.now _)
/-! ### Cut -/
/-- A byte's first c bits. -/
def kp (b c : Nat) : Nat := b / 2 ^ (8 - min c 8) * 2 ^ (8 - min c 8)
theorem kp_zero (b : Nat) (h : b < 256) : kp b 0 = 0 := by
  unfold kp
  rw [show 8 - min 0 8 = 8 by omega, Nat.div_eq_of_lt (by omega), Nat.zero_mul]
theorem kp_all (b c : Nat) (h : 8 ≤ c) : kp b c = b := by
  unfold kp
  rw [show 8 - min c 8 = 0 by omega]; simp
theorem kp_step (b c : Nat) (hb : b < 256) (hc : c < 8) : kp b c + b / 2 ^ (7 - c) % 2 * 2 ^ (7 - c) = kp b (c + 1) := by
  unfold kp
  rw [show 8 - min c 8 = (7 - c) + 1 by omega, show 8 - min (c + 1) 8 = 7 - c by omega, Nat.pow_succ, ← Nat.div_div_eq_div_mul]
  generalize b / 2 ^ (7 - c) = q
  generalize 2 ^ (7 - c) = p
  have : q = 2 * (q / 2) + q % 2 := by omega
  calc q / 2 * (p * 2) + q % 2 * p = (2 * (q / 2) + q % 2) * p := by rw [Nat.add_mul, Nat.mul_comm p 2, ← Nat.mul_assoc, Nat.mul_comm (q / 2) 2]
    _ = q * p := by rw [← this]
theorem kp_le (b c : Nat) : kp b c ≤ b := Nat.div_mul_le_self _ _
theorem kp_low : ∀ b, b < 256 → ∀ c, c < 8 → (∀ k, k < 8 → c ≤ k → b / 2 ^ (7 - k) % 2 = 0) → kp b c = b := by decide +kernel
def cutv (D : List UInt8) (i : Nat) : List Int := (List.range D.length).map (fun j => ((kp (D.getD j 0).toNat (i - 8 * j) : Nat) : Int))
theorem cutv_len (D : List UInt8) (i : Nat) : (cutv D i).length = D.length := by simp [cutv]
theorem cutv_zero (D : List UInt8) : cutv D 0 = List.replicate D.length 0 := by
  apply List.ext_getElem
  · simp [cutv]
  · intro j h1 h2
    simp only [cutv, List.getElem_map, List.getElem_range, List.getElem_replicate, Nat.zero_sub]
    rw [kp_zero _ (UInt8.toNat_lt _)]; rfl
theorem cutv_step (D : List UInt8) (i : Nat) (hi : i < 8 * D.length) (x : Int) (hx : x = ((kp (D.getD (i / 8) 0).toNat (i % 8 + 1) : Nat) : Int)) : (cutv D i).set (i / 8) x = cutv D (i + 1) := by
  apply List.ext_getElem
  · simp [cutv]
  · intro j h1 h2
    rw [List.length_set, cutv_len] at h1
    rw [List.getElem_set]
    by_cases e : i / 8 = j
    · rw [if_pos e, hx]
      simp only [cutv, List.getElem_map, List.getElem_range]
      rw [← e, show i + 1 - 8 * (i / 8) = i % 8 + 1 by omega]
    · rw [if_neg e]
      simp only [cutv, List.getElem_map, List.getElem_range]
      rcases Nat.lt_or_ge j (i / 8) with h | h
      · rw [kp_all _ _ (by omega), kp_all _ _ (by omega)]
      · rw [show i - 8 * j = 0 by omega, show i + 1 - 8 * j = 0 by omega]
theorem cutv_at (D : List UInt8) (i j : Nat) (hj : j < D.length) (q : Int) (hq : q = j) : rd (cutv D i) q = ((kp (D.getD j 0).toNat (i - 8 * j) : Nat) : Int) := by
  subst hq
  unfold rd
  rw [Int.toNat_natCast, List.getD_eq_getElem?_getD, List.getElem?_eq_getElem (by rw [cutv_len]; exact hj)]
  simp [cutv]
theorem cutv_end {D : List UInt8} {bs : List Bool} (h : Key D bs) : cutv D bs.length = nI D := by
  apply List.ext_getElem
  · simp [cutv, nI]
  · intro j h1 h2
    rw [cutv_len] at h1
    simp only [cutv, nI, List.getElem_map, List.getElem_range]
    have hd : D.getD j 0 = D[j] := by rw [List.getD_eq_getElem?_getD, List.getElem?_eq_getElem h1]; rfl
    rw [hd]
    congr 1
    rcases Nat.lt_or_ge (bs.length - 8 * j) 8 with hc | hc
    · refine kp_low _ (UInt8.toNat_lt _) _ hc (fun k hk hck => ?_)
      have := h.on (8 * j + k) (by omega)
      rw [List.getD_eq_getElem?_getD (l := bs), List.getElem?_eq_none (by omega)] at this
      unfold bitAt bitN at this
      rw [show (8 * j + k) / 8 = j by omega, show (8 * j + k) % 8 = k by omega, hd] at this
      have h2 := Nat.mod_two_eq_zero_or_one (D[j].toNat / 2 ^ (7 - k))
      rcases h2 with h2 | h2
      · exact h2
      · rw [h2] at this; simp at this
    · exact kp_all _ _ hc
theorem cut_val (b c : Nat) (hb : b < 256) (hc : c < 8) : (((kp b c : Nat) : Int) + shl .u8 (((b / 2 ^ (7 - c) % 2 : Nat) : Int) % 256) ((7 - c : Nat) : Int)) % 256 = ((kp b (c + 1) : Nat) : Int) := by
  have h1 := kp_step b c hb hc
  have h2 := kp_le b (c + 1)
  have h4 : b / 2 ^ (7 - c) % 2 < 2 := Nat.mod_lt _ (by decide)
  generalize b / 2 ^ (7 - c) % 2 = q at h1 h4 ⊢
  have h5 : (2 : Nat) ^ (7 - c) ≤ 128 := by
    have h : (2 : Nat) ^ (7 - c) ≤ 2 ^ 7 := Nat.pow_le_pow_right (by decide) (by omega)
    exact h
  have h6 : q * 2 ^ (7 - c) ≤ 128 := by
    have : q = 0 ∨ q = 1 := by omega
    rcases this with rfl | rfl
    · omega
    · omega
  have h3 : shl .u8 ((q : Int) % 256) ((7 - c : Nat) : Int) = ((q * 2 ^ (7 - c) : Nat) : Int) := by
    unfold shl
    rw [Int.toNat_natCast, show min (7 - c) IntKind.u8.bits = 7 - c from Nat.min_eq_left (by show 7 - c ≤ 8; omega)]
    have h7 : ((q : Int) % 256) * 2 ^ (7 - c) = ((q * 2 ^ (7 - c) : Nat) : Int) := by
      rw [show (q : Int) % 256 = (q : Int) by omega]; push_cast; rfl
    rw [h7]
    generalize q * 2 ^ (7 - c) = z at h6 ⊢
    simp only [IntKind.wrap, IntKind.bits, IntKind.signed]
    simp; omega
  rw [h3]
  generalize q * 2 ^ (7 - c) = z at h1 ⊢
  omega
theorem cut_l {D : List UInt8} {bs : List Bool} (s : ByteArray) (hs : s = strOf D) (hk : Key D bs) (hl : bs.length ≤ 256) : ∀ d i : Nat, i + d = bs.length → Ev (fun k => turnoutref11_Cut.l0 k s (bs.length : Int) (cutv D i) (i : Int)) s := by
  have hlen := hk.len
  have hsz : s.size = D.length := by rw [hs]; rfl
  have hdat : s.data.toList = D := by rw [hs]; rfl
  intro d
  induction d with
  | zero =>
    intro i hi
    obtain rfl : i = bs.length := by omega
    refine Ev.step (f := fun _ => some s) (fun k => ?_) (Ev.now _)
    rw [turnoutref11_Cut.l0, if_neg (by omega), cutv_end hk, strOf_nI, hs]
  | succ d ih =>
    intro i hi
    have q1 : wrap64 (Int.tdiv (i : Int) 8) = ((i / 8 : Nat) : Int) := by rw [Int.tdiv_eq_ediv_of_nonneg (by omega), MBits.w64 (by omega) (by omega)]; omega
    have q2 : Int.tmod (i : Int) 8 = ((i % 8 : Nat) : Int) := by rw [Int.tmod_eq_emod_of_nonneg (by omega)]; omega
    have q3 : wrap64 ((i : Int) + 1) = ((i + 1 : Nat) : Int) := by rw [MBits.w64 (by omega) (by omega)]; omega
    have q4 : IntKind.u64.wrap (wrap64 (7 - ((i % 8 : Nat) : Int))) = ((7 - i % 8 : Nat) : Int) := by rw [MBits.w64 (by omega) (by omega), IntKind.wrap_u64]; omega
    have hbit : MField.bitAt s i = (D.getD (i / 8) 0).toNat / 2 ^ (7 - i % 8) % 2 := by
      unfold MField.bitAt
      rw [bN_list _ _ (by omega), hdat]
    have hv : ((rd (cutv D i) ((i / 8 : Nat) : Int)) + (shl .u8 ((MField.bitAt s i : Int) % 256) ((7 - i % 8 : Nat) : Int))) % 256 = ((kp (D.getD (i / 8) 0).toNat (i % 8 + 1) : Nat) : Int) := by
      rw [cutv_at D i (i / 8) (by omega) _ rfl, hbit, show i - 8 * (i / 8) = i % 8 by omega]
      exact cut_val _ _ (UInt8.toNat_lt _) (by omega)
    have nx := ih (i + 1) (by omega)
    rw [← cutv_step D i (by omega) _ hv] at nx
    clear hv hbit ih
    have eb := bit_ev s i (by omega) (by omega)
    refine Ev.step (f := _) (fun k => by rw [turnoutref11_Cut.l0, if_pos (by omega), q1, q2, q3, q4, if_pos (by omega), if_pos (by rw [cutv_len]; omega)]) ?_
    refine Ev.bind eb ?_
    refine MBits.Ev.ip (by omega) ?_
    rw [Int.toNat_natCast]
    exact nx
theorem cut_ev {bs : List Bool} (hl : bs.length ≤ 256) : Ev (fun k => turnoutref11_Cut.f k (strOf (pack bs)) (bs.length : Int)) (strOf (pack bs)) := by
  have hk := pack_key bs
  have hlen := hk.len
  have h := cut_l _ rfl hk hl bs.length 0 (by omega)
  rw [cutv_zero] at h
  unfold turnoutref11_Cut.f
  have e1 : wrap64 (Int.tdiv (wrap64 ((bs.length : Int) + 7)) 8) = ((pack bs).length : Int) := by
    rw [MBits.w64 (n := (bs.length : Int) + 7) (by omega) (by omega), Int.tdiv_eq_ediv_of_nonneg (by omega), MBits.w64 (by omega) (by omega)]; omega
  rw [e1, Int.toNat_natCast]
  exact MBits.Ev.ip (by omega) (MBits.Ev.ip (by omega) h)
theorem cut_c {bs : List Bool} (hl : bs.length ≤ 256) (w : World) : Calls Try.prog 19 #[.string (strOf (pack bs)), .int .i64 (bs.length : Int)] w fun e w' => e = .returned (.string (strOf (pack bs))) ∧ Below w.heap.size w w' := by
  obtain ⟨k, hk⟩ := Ev.at (cut_ev hl)
  exact turnoutref11_Cut.calls k _ _ _ w hk
theorem item_c (y : S32) (w : World) : Calls Try.prog 21 #[.agg #[.string y.f0, .int .i64 y.f1, .int .i64 y.f2]] w fun e w' => e = .returned (.agg #[.string y.f0, .int .i64 y.f1, .int .i64 y.f2]) ∧ Below w.heap.size w w' :=
  turnoutlaw11_item.calls y.f0 y.f1 y.f2 y.f0 y.f1 y.f2 w rfl
theorem beg_c (y : S32) (s : ByteArray) (r : Bool) (h : ∃ k, turnoutref11_Begins.f k y.f0 y.f1 y.f2 s = some r) (w : World) : Calls Try.prog 20 #[.agg #[.string y.f0, .int .i64 y.f1, .int .i64 y.f2], .string s] w fun e w' => e = .returned (.bool r) ∧ Below w.heap.size w w' := by
  obtain ⟨k, hk⟩ := h
  exact turnoutref11_Begins.calls k y.f0 y.f1 y.f2 s r w hk
end Go.Proofs.Ytpchlnbnpgaocaa.PTrie
