/- What field.Put and its document's answer come to: a text by its bits. -/
import Derived.Test.YtdjdgkjikibgaaaMField
set_option linter.unusedVariables false
set_option linter.unusedSimpArgs false
namespace Go.Proofs.Ytdjdgkjikibgaaa.MPut
open Go.RowKit Go.Proofs.Ytdjdgkjikibgaaa.PBuf Go.Proofs.Ytdjdgkjikibgaaa.MBits Go.Proofs.Ytdjdgkjikibgaaa.MWord Go.Proofs.Ytdjdgkjikibgaaa.MField Go.Proofs.YtdjdgkjikibgaaaW.PrintWords Go.Proofs.YtdjdgkjikibgaaaW.PrintLast Go.Proofs.YtdjdgkjikibgaaaW.PrintMore

/-! ### numbers out of bits -/
def nF (f : Nat → Nat) (o : Nat) : Nat → Nat
  | 0 => 0
  | n + 1 => 2 * nF f o n + f (o + n)
theorem num_nF (s : ByteArray) (o n : Nat) : num s o n = nF (bitAt s) o n := by
  induction n with
  | zero => rfl
  | succ n ih => unfold num nF; rw [ih]
theorem nF_congr {f g : Nat → Nat} {o : Nat} : ∀ {n : Nat}, (∀ j, j < n → f (o + j) = g (o + j)) → nF f o n = nF g o n := by
  intro n
  induction n with
  | zero => intro _; rfl
  | succ n ih => intro h; unfold nF; rw [ih (fun j hj => h j (by omega)), h n (by omega)]
theorem nF_lt {f : Nat → Nat} (hf : ∀ p, f p < 2) (o n : Nat) : nF f o n < 2 ^ n := by
  induction n with
  | zero => exact Nat.one_pos
  | succ n ih => unfold nF; have := hf (o + n); rw [Nat.pow_succ]; omega
theorem nF_bit {f : Nat → Nat} (hf : ∀ p, f p < 2) (o : Nat) : ∀ (n j : Nat), j < n → nF f o n / 2 ^ (n - 1 - j) % 2 = f (o + j) := by
  intro n
  induction n with
  | zero => intro j h; omega
  | succ n ih =>
    intro j h
    unfold nF
    have h2 := hf (o + n)
    by_cases e : j = n
    · subst e
      rw [show j + 1 - 1 - j = 0 by omega, Nat.pow_zero, Nat.div_one]; omega
    · rw [show n + 1 - 1 - j = (n - 1 - j) + 1 by omega, Nat.pow_succ, Nat.mul_comm (2 ^ _) 2, ← Nat.div_div_eq_div_mul, show (2 * nF f o n + f (o + n)) / 2 = nF f o n by omega]
      exact ih j (by omega)
theorem nF_word (v o width : Nat) : ∀ n, n ≤ width → nF (fun p => v / 2 ^ (o + width - 1 - p) % 2) o n = v / 2 ^ (width - n) % 2 ^ n := by
  intro n
  induction n with
  | zero => intro _; rw [Nat.pow_zero, Nat.mod_one]; rfl
  | succ n ih =>
    intro h
    unfold nF
    rw [ih (by omega), show o + width - 1 - (o + n) = width - (n + 1) by omega, show width - n = (width - (n + 1)) + 1 by omega, Nat.pow_succ, ← Nat.div_div_eq_div_mul]
    generalize v / 2 ^ (width - (n + 1)) = q
    rw [Nat.pow_succ, Nat.mul_comm (2 ^ n) 2, Nat.mod_mul]
    exact Nat.add_comm _ _

/-! ### texts by their bits -/
theorem byte_ext {a b : Nat} (ha : a < 256) (hb : b < 256) (h : ∀ j, j < 8 → a / 2 ^ (7 - j) % 2 = b / 2 ^ (7 - j) % 2) : a = b := by
  have h0 := h 0 (by omega); have h1 := h 1 (by omega); have h2 := h 2 (by omega); have h3 := h 3 (by omega)
  have h4 := h 4 (by omega); have h5 := h 5 (by omega); have h6 := h 6 (by omega); have h7 := h 7 (by omega)
  simp only [Nat.sub_zero, Nat.reduceSub, Nat.reducePow, Nat.div_one] at h0 h1 h2 h3 h4 h5 h6 h7
  omega
theorem bN_at (s : ByteArray) (i : Nat) (h : i < s.size) : bN s i = (s[i]'h).toNat := by
  unfold bN bt; rw [dif_pos (by rw [Int.toNat_natCast]; exact h)]; simp
theorem text_ext {s t : ByteArray} (hs : s.size = t.size) (h : ∀ p, p < 8 * s.size → bitAt s p = bitAt t p) : s = t := by
  have hb : ∀ i, i < s.size → bN s i = bN t i := by
    intro i hi
    refine byte_ext (bN_lt _ _) (bN_lt _ _) (fun j hj => ?_)
    have := h (8 * i + j) (by omega)
    unfold bitAt at this
    rwa [show (8 * i + j) / 8 = i by omega, show (8 * i + j) % 8 = j by omega] at this
  apply ByteArray.ext
  apply Array.ext hs
  intro i h1 h2
  have := hb i h1
  rw [bN_at s i h1, bN_at t i h2] at this
  exact UInt8.toNat_inj.1 this
theorem bN_str (l : List Int) (hl : ∀ x ∈ l, 0 ≤ x ∧ x < 256) (i : Nat) (h : i < l.length) : bN (strOfNums l) i = (l[i]'h).toNat := by
  rw [bN_at _ i (by rw [strOfNums_size]; exact h)]
  have e : (strOfNums l)[i]'(by rw [strOfNums_size]; exact h) = UInt8.ofNat (l[i]'h).toNat := by
    show (strOfNums l).data[i]'_ = _
    simp [strOfNums]
  have := hl _ (List.getElem_mem h)
  rw [e, UInt8.toNat_ofNat']
  omega
/-- The bytes of bits. -/
def tB (f : Nat → Nat) (n : Nat) : List Int := (List.range n).map fun i => ((nF f (8 * i) 8 : Nat) : Int)
theorem tB_len (f : Nat → Nat) (n : Nat) : (tB f n).length = n := by simp [tB]
theorem tB_succ (f : Nat → Nat) (n : Nat) : tB f (n + 1) = tB f n ++ [((nF f (8 * n) 8 : Nat) : Int)] := by
  unfold tB; rw [List.range_succ, List.map_append]; rfl
def txt (f : Nat → Nat) (n : Nat) : ByteArray := strOfNums (tB f n)
theorem txt_size (f : Nat → Nat) (n : Nat) : (txt f n).size = n := by unfold txt; rw [strOfNums_size, tB_len]
theorem tB_rng {f : Nat → Nat} (hf : ∀ p, f p < 2) (n : Nat) : ∀ x ∈ tB f n, 0 ≤ x ∧ x < 256 := by
  intro x hx
  unfold tB at hx
  obtain ⟨i, _, rfl⟩ := List.mem_map.1 hx
  have := nF_lt hf (8 * i) 8
  omega
theorem bN_txt {f : Nat → Nat} (hf : ∀ p, f p < 2) (n i : Nat) (h : i < n) : bN (txt f n) i = nF f (8 * i) 8 := by
  unfold txt
  rw [bN_str _ (tB_rng hf n) i (by rw [tB_len]; exact h)]
  simp [tB]
theorem bit_txt {f : Nat → Nat} (hf : ∀ p, f p < 2) (n p : Nat) (h : p < 8 * n) : bitAt (txt f n) p = f p := by
  unfold bitAt
  rw [bN_txt hf n (p / 8) (by omega)]
  have := nF_bit hf (8 * (p / 8)) 8 (p % 8) (by omega)
  rwa [show 8 - 1 - p % 8 = 7 - p % 8 by omega, show 8 * (p / 8) + p % 8 = p by omega] at this
theorem str_snoc (l : List Int) (x : Int) : strOfNums l ++ strOfNums [x] = strOfNums (l ++ [x]) := by
  apply ByteArray.ext
  unfold strOfNums
  rw [ByteArray.data_append]
  simp
theorem txt_succ (f : Nat → Nat) (n : Nat) : txt f n ++ strOfNums [((nF f (8 * n) 8 : Nat) : Int)] = txt f (n + 1) := by
  unfold txt; rw [str_snoc, tB_succ]

/-! ### what a text becomes -/
def pb (s : ByteArray) (o n v p : Nat) : Nat := if o ≤ p ∧ p < o + n then v / 2 ^ (o + n - 1 - p) % 2 else bitAt s p
theorem pb_lt (s : ByteArray) (o n v p : Nat) : pb s o n v p < 2 := by
  unfold pb; have := bitAt_lt s p; split <;> omega
def put (s : ByteArray) (o n v : Nat) : ByteArray := txt (pb s o n v) s.size
theorem put_size (s : ByteArray) (o n v : Nat) : (put s o n v).size = s.size := txt_size _ _
theorem put_bit (s : ByteArray) (o n v p : Nat) (h : p < 8 * s.size) : bitAt (put s o n v) p = pb s o n v p := bit_txt (pb_lt s o n v) _ _ h
theorem put_num (s : ByteArray) (o n v : Nat) (h : o + n ≤ 8 * s.size) : num (put s o n v) o n = v % 2 ^ n := by
  rw [num_nF, nF_congr (g := fun p => v / 2 ^ (o + n - 1 - p) % 2), nF_word v o n n (Nat.le_refl n), Nat.sub_self, Nat.pow_zero, Nat.div_one]
  intro j hj
  rw [put_bit _ _ _ _ _ (by omega)]
  unfold pb
  rw [if_pos (by omega)]

/-! ### the program's Put -/
set_option maxRecDepth 100000 in
theorem or1 : ∀ (v : Fin 256) (k m : Fin 8), (Go.bits .or .u8 ((v.val : Nat) : Int) (2 ^ k.val % 256)).toNat / 2 ^ m.val % 2 = (if m.val = k.val then 1 else v.val / 2 ^ m.val % 2) := by decide +kernel
set_option maxRecDepth 100000 in
theorem not1 : ∀ (v : Fin 256) (k m : Fin 8), (Go.bits .andNot .u8 ((v.val : Nat) : Int) (2 ^ k.val % 256)).toNat / 2 ^ m.val % 2 = (if m.val = k.val then 0 else v.val / 2 ^ m.val % 2) := by decide +kernel
set_option maxRecDepth 100000 in
theorem or_rng : ∀ (v : Fin 256) (k : Fin 8), 0 ≤ Go.bits .or .u8 ((v.val : Nat) : Int) (2 ^ k.val % 256) ∧ Go.bits .or .u8 ((v.val : Nat) : Int) (2 ^ k.val % 256) < 256 := by decide +kernel
set_option maxRecDepth 100000 in
theorem not_rng : ∀ (v : Fin 256) (k : Fin 8), 0 ≤ Go.bits .andNot .u8 ((v.val : Nat) : Int) (2 ^ k.val % 256) ∧ Go.bits .andNot .u8 ((v.val : Nat) : Int) (2 ^ k.val % 256) < 256 := by decide +kernel
theorem new_bit (b q a : Nat) (hb : b < 256) (hq : q < 2) (m : Nat) (hm : m < 8) :
    (field_Put.new (q : Int) (b : Int) (a : Int)).toNat / 2 ^ m % 2 = if m = 7 - a % 8 then q else b / 2 ^ m % 2 := by
  unfold field_Put.new
  have e : (7 - (a : Int) % 8).toNat = 7 - a % 8 := by omega
  rw [e]
  by_cases h : q = 1
  · subst h
    rw [if_pos (show ((1 : Nat) : Int) = 1 from rfl)]
    exact or1 ⟨b, hb⟩ ⟨7 - a % 8, by omega⟩ ⟨m, hm⟩
  · obtain rfl : q = 0 := by omega
    rw [if_neg (by decide)]
    exact not1 ⟨b, hb⟩ ⟨7 - a % 8, by omega⟩ ⟨m, hm⟩
theorem new_rng (b q a : Nat) (hb : b < 256) (hq : q < 2) : 0 ≤ field_Put.new (q : Int) (b : Int) (a : Int) ∧ field_Put.new (q : Int) (b : Int) (a : Int) < 256 := by
  unfold field_Put.new
  have e : (7 - (a : Int) % 8).toNat = 7 - a % 8 := by omega
  rw [e]
  by_cases h : q = 1
  · subst h
    rw [if_pos (show ((1 : Nat) : Int) = 1 from rfl)]
    exact or_rng ⟨b, hb⟩ ⟨7 - a % 8, by omega⟩
  · obtain rfl : q = 0 := by omega
    rw [if_neg (by decide)]
    exact not_rng ⟨b, hb⟩ ⟨7 - a % 8, by omega⟩
def lbit (l : List Int) (p : Nat) : Nat := (l.getD (p / 8) 0).toNat / 2 ^ (7 - p % 8) % 2
structure Good (s : ByteArray) (o n v i : Nat) (l : List Int) : Prop where
  len : l.length = s.size
  rng : ∀ j : Nat, j < s.size → 0 ≤ l.getD j 0 ∧ l.getD j 0 < 256
  bit : ∀ p, p < 8 * s.size → lbit l p = if o + n - i ≤ p ∧ p < o + n then v / 2 ^ (o + n - 1 - p) % 2 else bitAt s p
theorem getD_set (l : List Int) (i j : Nat) (x : Int) (h : i < l.length) : (l.set i x).getD j 0 = if j = i then x else l.getD j 0 := by
  rw [List.getD_eq_getElem?_getD, List.getD_eq_getElem?_getD, List.getElem?_set]
  by_cases e : i = j
  · subst e; simp [h]
  · rw [if_neg e, if_neg (fun h => e h.symm)]
theorem good0 (s : ByteArray) (o n v : Nat) : Good s o n v 0 (bytesOf s) := by
  have hg : ∀ j : Nat, (bytesOf s).getD j 0 = bt s j := by
    intro j
    have := rd_bytesOf s (j : Int)
    unfold rd at this
    rwa [Int.toNat_natCast] at this
  refine ⟨bytesOf_length s, fun j _ => ?_, fun p _ => ?_⟩
  · rw [hg]; have := bt_range s (j : Int); omega
  · rw [if_neg (by omega)]
    unfold lbit bitAt bN
    rw [hg]
theorem lo_and1 (y : W) : lo (y &&& 1#128) = ((y.toNat % 2 : Nat) : Int) := by
  unfold lo loN
  rw [BitVec.toNat_and, show (1#128).toNat = 1 from rfl, Nat.and_one_is_mod]
  omega
theorem right_nat (x : W) (i : Nat) : (x >>> i).toNat = x.toNat / 2 ^ i := by
  rw [BitVec.toNat_ushiftRight, Nat.shiftRight_eq_div_pow]
theorem l_ev (s : ByteArray) (o n : Nat) (x : W) (hn' : n ≤ 128) (hs : o + n ≤ 8 * s.size) : ∀ i, i ≤ n →
    ∃ l, field_Put.l (o : Int) (n : Int) (hi x) (lo x) (bytesOf s) i = some l ∧ Good s o n x.toNat i l := by
  intro i
  induction i with
  | zero => intro _; exact ⟨_, rfl, good0 s o n _⟩
  | succ i ih =>
    intro h
    obtain ⟨l, hl, G⟩ := ih (by omega)
    have hat : field_Put.at (o : Int) (n : Int) i = ((o + n - 1 - i : Nat) : Int) := by unfold field_Put.at; omega
    have h8 : ((o + n - 1 - i : Nat) : Int) / 8 = (((o + n - 1 - i) / 8 : Nat) : Int) := by omega
    have hand := and_ev (x >>> i) 1#128
    rw [one_hi, one_lo] at hand
    refine ⟨l.set ((o + n - 1 - i) / 8) (field_Put.new (lo ((x >>> i) &&& 1#128)) (rd l (((o + n - 1 - i) / 8 : Nat) : Int)) ((o + n - 1 - i : Nat) : Int)), ?_, ?_⟩
    · show (field_Put.l (o : Int) (n : Int) (hi x) (lo x) (bytesOf s) i).bind _ = _
      rw [hl, Option.bind_some]
      unfold field_Put.step
      rw [right_ev x (i : Int) (by omega) (by omega), Option.bind_some, Int.toNat_natCast]
      simp only
      rw [hand, Option.bind_some, hat, h8, Int.toNat_natCast]
    · rw [lo_and1, right_nat]
      generalize ha : o + n - 1 - i = a
      have hq : x.toNat / 2 ^ i % 2 < 2 := Nat.mod_lt _ (by omega)
      generalize hqq : x.toNat / 2 ^ i % 2 = q at hq
      have hai : a / 8 < l.length := by rw [G.len]; omega
      have hr := G.rng (a / 8) (by rw [← G.len]; exact hai)
      obtain ⟨b, hb⟩ := Int.eq_ofNat_of_zero_le hr.1
      have hrd : rd l (((a / 8 : Nat)) : Int) = (b : Int) := by unfold rd; rw [Int.toNat_natCast]; exact hb
      have hb' : b < 256 := by rw [hb] at hr; omega
      rw [hrd]
      refine ⟨by rw [List.length_set, G.len], fun j hj => ?_, fun p hp => ?_⟩
      · rw [getD_set _ _ _ _ hai]
        split
        · exact new_rng b q a hb' hq
        · exact G.rng j hj
      · unfold lbit
        rw [getD_set _ _ _ _ hai]
        have G3 := G.bit p hp
        unfold lbit at G3
        by_cases e : p / 8 = a / 8
        · rw [if_pos e, new_bit b q a hb' hq _ (by omega)]
          rw [e, hb, Int.toNat_natCast] at G3
          by_cases e2 : p = a
          · subst e2
            rw [if_pos rfl, if_pos (by omega), ← hqq]
            congr 2; congr 1; omega
          · rw [if_neg (by omega), G3]
            by_cases h1 : o + n - i ≤ p ∧ p < o + n
            · rw [if_pos h1, if_pos (by omega)]
            · rw [if_neg h1, if_neg (by omega)]
        · rw [if_neg e, G3]
          by_cases h1 : o + n - i ≤ p ∧ p < o + n
          · rw [if_pos h1, if_pos (by omega)]
          · rw [if_neg h1, if_neg (by intro h2; apply e; have : p = a := by omega
                                      rw [this])]
theorem good_put (s : ByteArray) (o n v : Nat) (l : List Int) (G : Good s o n v n l) : strOfNums l = put s o n v := by
  have hl : (strOfNums l).size = s.size := by rw [strOfNums_size, G.len]
  have hrng : ∀ x ∈ l, 0 ≤ x ∧ x < 256 := by
    intro x hx
    obtain ⟨j, hj, rfl⟩ := List.getElem_of_mem hx
    have := G.rng j (by rw [← G.len]; exact hj)
    rwa [List.getD_eq_getElem?_getD, List.getElem?_eq_getElem hj] at this
  refine text_ext (by rw [hl, put_size]) (fun p hp => ?_)
  rw [hl] at hp
  rw [put_bit _ _ _ _ _ hp]
  have := G.bit p hp
  unfold bitAt
  have hj : p / 8 < l.length := by rw [G.len]; omega
  rw [bN_str l hrng _ hj]
  unfold lbit at this
  rw [List.getD_eq_getElem?_getD, List.getElem?_eq_getElem hj] at this
  rw [Option.getD_some] at this
  rw [this]
  unfold pb bitAt
  rw [show o + n - n = o by omega]
theorem put_ok (s : ByteArray) (o n : Nat) (x : W) (hn : 1 ≤ n) (hn' : n ≤ 128) (hs : o + n ≤ 8 * s.size) (hs' : s.size ≤ 140737488351232) :
    Ev (fun k => field_Put.f k s o n (hi x) (lo x)) (put s o n x.toNat, 0) := by
  unfold field_Put.f
  have hm : may s o n = 0 := by unfold may; rw [if_neg (by omega), if_neg (by omega)]
  have := may_ev s o n hs'
  rw [hm] at this
  refine Ev.bind this ?_
  refine Ev.ip rfl ?_
  refine Ev.ip (by omega) ?_
  obtain ⟨l, hl, G⟩ := l_ev s o n x hn' hs n (Nat.le_refl n)
  rw [Int.toNat_natCast]
  refine Ev.pb hl ?_
  rw [good_put s o n _ l G]
  exact Ev.now _
theorem put_bad (s : ByteArray) (o n w0 w1 : Int) (hs' : s.size ≤ 140737488351232) (h : may s o n ≠ 0) : Ev (fun k => field_Put.f k s o n w0 w1) (⟨#[]⟩, may s o n) := by
  unfold field_Put.f
  refine Ev.bind (may_ev s o n hs') ?_
  exact Ev.in h (Ev.now _)

/-! ### the document's Put -/
theorem of_l (v a : Nat) (hv : v < 2 ^ 64) (ha : a < 128) : ∀ d i : Nat, i + d = a → ∀ x : Nat, x = v / 2 ^ i → Ev (fun k => turnoutref02_Of.l0 k (a : Int) (x : Int) (i : Int)) ((v / 2 ^ a % 2 : Nat) : Int) := by
  intro d
  induction d with
  | zero =>
    intro i h x hx
    obtain rfl : i = a := by omega
    refine Ev.step (f := _) (fun k => by rw [turnoutref02_Of.l0]) ?_
    refine Ev.in (by omega) ?_
    rw [Int.tmod_eq_emod_of_nonneg (by omega), ← hx]
    exact Ev.now _
  | succ d ih =>
    intro i h x hx
    refine Ev.step (f := _) (fun k => by rw [turnoutref02_Of.l0]) ?_
    refine Ev.ip (by omega) ?_
    have : x ≤ v := by rw [hx]; exact Nat.div_le_self _ _
    have e1 : IntKind.u64.wrap (Int.tdiv (x : Int) 2) = ((x / 2 : Nat) : Int) := by rw [Int.tdiv_eq_ediv_of_nonneg (by omega), u64w (by omega) (by omega)]; omega
    have e2 : wrap64 ((i : Int) + 1) = ((i + 1 : Nat) : Int) := by rw [w64 (by omega) (by omega)]; omega
    rw [e1, e2]
    exact ih (i + 1) (by omega) (x / 2) (by rw [hx, Nat.pow_succ, Nat.div_div_eq_div_mul])
theorem of_ev (x : W) (a : Nat) (ha : a < 128) : Ev (fun k => turnoutref02_Of.f k (hi x) (lo x) a) ((x.toNat / 2 ^ a % 2 : Nat) : Int) := by
  unfold turnoutref02_Of.f
  have hx := x.isLt
  by_cases h : 64 ≤ a
  · refine Ev.ip (by omega) ?_
    refine Ev.step (f := _) (fun k => by rw [turnoutref02_Of.j0]) ?_
    have e : wrap64 ((a : Int) - 64) = ((a - 64 : Nat) : Int) := by rw [w64 (by omega) (by omega)]; omega
    rw [e]
    have := of_l (hiN x) (a - 64) (hiN_lt x) (by omega) (a - 64) 0 (by omega) (hiN x) (by simp)
    have e2 : hiN x / 2 ^ (a - 64) = x.toNat / 2 ^ a := by
      unfold hiN; rw [Nat.div_div_eq_div_mul, ← Nat.pow_add, show 64 + (a - 64) = a by omega]
    rw [e2] at this
    exact this
  · refine Ev.in (by omega) ?_
    refine Ev.step (f := _) (fun k => by rw [turnoutref02_Of.j0]) ?_
    have := of_l (loN x) a (loN_lt x) (by omega) a 0 (by omega) (loN x) (by simp)
    have e2 : loN x / 2 ^ a % 2 = x.toNat / 2 ^ a % 2 := by
      have h1 := lo_bit x a
      rw [decide_eq_true (by omega), Bool.true_and, Nat.testBit_eq_decide_div_mod_eq] at h1
      have h2 : x.getLsbD a = decide (x.toNat / 2 ^ a % 2 = 1) := by unfold BitVec.getLsbD; rw [Nat.testBit_eq_decide_div_mod_eq]
      rw [h2, decide_eq_decide] at h1
      omega
    rw [e2] at this
    exact this
theorem rput_j2 (s : ByteArray) (o n : Nat) (x : W) (hn' : n ≤ 128) (hs : o + n ≤ 8 * s.size) (hs' : s.size ≤ 140737488351232) (out : ByteArray) (i j : Nat) (hi' : i < s.size) (hj : j < 8) (c : Bool)
    (hc : c = decide (o ≤ 8 * i + j ∧ 8 * i + j < o + n)) {r : ByteArray × Int}
    (k : Ev (fun k => turnoutref02_Put.l1 k s o n out i ((nF (pb s o n x.toNat) (8 * i) (j + 1) : Nat) : Int) ((8 * i + (j + 1) : Nat) : Int) (hi x) (lo x)) r) :
    Ev (fun k => turnoutref02_Put.j2 k s o n out i ((nF (pb s o n x.toNat) (8 * i) j : Nat) : Int) ((8 * i + j : Nat) : Int) c (hi x) (lo x)) r := by
  refine Ev.step (f := _) (fun k => by rw [turnoutref02_Put.j2]) ?_
  have hlt := nF_lt (pb_lt s o n x.toNat) (8 * i) j
  have hle : 2 ^ j ≤ 2 ^ 8 := Nat.pow_le_pow_right (by omega) (by omega)
  have hlt' : nF (pb s o n x.toNat) (8 * i) j < 256 := Nat.lt_of_lt_of_le hlt hle
  have e2 : wrap64 (((8 * i + j : Nat) : Int) + 1) = ((8 * i + (j + 1) : Nat) : Int) := by rw [w64 (by omega) (by omega)]; omega
  by_cases h : o ≤ 8 * i + j ∧ 8 * i + j < o + n
  · refine Ev.ip (by rw [hc]; exact decide_eq_true h) ?_
    have e1 : wrap64 ((wrap64 ((wrap64 ((o : Int) + n)) - 1)) - ((8 * i + j : Nat) : Int)) = ((o + n - 1 - (8 * i + j) : Nat) : Int) := by
      rw [w64 (n := (o : Int) + n) (by omega) (by omega), w64 (n := (o : Int) + n - 1) (by omega) (by omega), w64 (by omega) (by omega)]; omega
    rw [e1, e2]
    refine Ev.bind (of_ev x (o + n - 1 - (8 * i + j)) (by omega)) ?_
    have e3 : IntKind.u64.wrap ((IntKind.u64.wrap (((nF (pb s o n x.toNat) (8 * i) j : Nat) : Int) * 2)) + ((x.toNat / 2 ^ (o + n - 1 - (8 * i + j)) % 2 : Nat) : Int)) = ((nF (pb s o n x.toNat) (8 * i) (j + 1) : Nat) : Int) := by
      have e4 : nF (pb s o n x.toNat) (8 * i) (j + 1) = 2 * nF (pb s o n x.toNat) (8 * i) j + x.toNat / 2 ^ (o + n - 1 - (8 * i + j)) % 2 := by
        show 2 * nF (pb s o n x.toNat) (8 * i) j + pb s o n x.toNat (8 * i + j) = _
        unfold pb; rw [if_pos h]
      rw [e4]
      have hq : x.toNat / 2 ^ (o + n - 1 - (8 * i + j)) % 2 < 2 := Nat.mod_lt _ (by omega)
      generalize x.toNat / 2 ^ (o + n - 1 - (8 * i + j)) % 2 = q at hq
      rw [u64w (n := ((nF (pb s o n x.toNat) (8 * i) j : Nat) : Int) * 2) (by omega) (by omega), u64w (by omega) (by omega)]; omega
    rw [e3]
    exact k
  · refine Ev.in (by rw [hc, decide_eq_false h]; decide) ?_
    rw [e2]
    refine Ev.bind (bit_ev s (8 * i + j) (by omega) hs') ?_
    have e3 : IntKind.u64.wrap ((IntKind.u64.wrap (((nF (pb s o n x.toNat) (8 * i) j : Nat) : Int) * 2)) + ((bitAt s (8 * i + j) : Nat) : Int)) = ((nF (pb s o n x.toNat) (8 * i) (j + 1) : Nat) : Int) := by
      have e4 : nF (pb s o n x.toNat) (8 * i) (j + 1) = 2 * nF (pb s o n x.toNat) (8 * i) j + bitAt s (8 * i + j) := by
        show 2 * nF (pb s o n x.toNat) (8 * i) j + pb s o n x.toNat (8 * i + j) = _
        unfold pb; rw [if_neg h]
      rw [e4]
      have hq := bitAt_lt s (8 * i + j)
      rw [u64w (n := ((nF (pb s o n x.toNat) (8 * i) j : Nat) : Int) * 2) (by omega) (by omega), u64w (by omega) (by omega)]; omega
    rw [e3]
    exact k
theorem rput_l1 (s : ByteArray) (o n : Nat) (x : W) (hn' : n ≤ 128) (hs : o + n ≤ 8 * s.size) (hs' : s.size ≤ 140737488351232) (i : Nat) (hi' : i < s.size) {r : ByteArray × Int}
    (k : Ev (fun k => turnoutref02_Put.l0 k s o n (txt (pb s o n x.toNat) (i + 1)) ((i + 1 : Nat) : Int) (hi x) (lo x)) r) : ∀ d j, j + d = 8 →
    Ev (fun k => turnoutref02_Put.l1 k s o n (txt (pb s o n x.toNat) i) i ((nF (pb s o n x.toNat) (8 * i) j : Nat) : Int) ((8 * i + j : Nat) : Int) (hi x) (lo x)) r := by
  intro d
  induction d with
  | zero =>
    intro j h
    obtain rfl : j = 8 := by omega
    refine Ev.step (f := _) (fun k => by rw [turnoutref02_Put.l1]) ?_
    have e1 : wrap64 ((wrap64 (8 * (i : Int))) + 8) = ((8 * i + 8 : Nat) : Int) := by rw [w64 (n := 8 * (i : Int)) (by omega) (by omega), w64 (by omega) (by omega)]; omega
    have e2 : wrap64 ((i : Int) + 1) = ((i + 1 : Nat) : Int) := by rw [w64 (by omega) (by omega)]; omega
    refine Ev.in (by rw [e1]; omega) ?_
    refine Ev.pb rfl ?_
    have hlt := nF_lt (pb_lt s o n x.toNat) (8 * i) 8
    have e3 : ((nF (pb s o n x.toNat) (8 * i) 8 : Nat) : Int) % 256 = ((nF (pb s o n x.toNat) (8 * i) 8 : Nat) : Int) := by omega
    rw [e2, e3]
    refine Ev.ip (by rw [txt_size, strOfNums_size]; simp; omega) ?_
    rw [txt_succ]
    exact k
  | succ d ih =>
    intro j h
    refine Ev.step (f := _) (fun k => by rw [turnoutref02_Put.l1]) ?_
    have e1 : wrap64 ((wrap64 (8 * (i : Int))) + 8) = ((8 * i + 8 : Nat) : Int) := by rw [w64 (n := 8 * (i : Int)) (by omega) (by omega), w64 (by omega) (by omega)]; omega
    have e2 : wrap64 ((o : Int) + n) = ((o + n : Nat) : Int) := by rw [w64 (by omega) (by omega)]; omega
    refine Ev.ip (by rw [e1]; omega) ?_
    rw [e2]
    have hr := ih (j + 1) (by omega)
    by_cases h1 : ((8 * i + j : Nat) : Int) ≥ (o : Int)
    · refine Ev.ip h1 ?_
      refine rput_j2 s o n x hn' hs hs' _ i j hi' (by omega) _ ?_ hr
      rw [decide_eq_decide]; omega
    · refine Ev.in h1 ?_
      refine rput_j2 s o n x hn' hs hs' _ i j hi' (by omega) _ ?_ hr
      rw [decide_eq_false]; omega
theorem rput_l0 (s : ByteArray) (o n : Nat) (x : W) (hn' : n ≤ 128) (hs : o + n ≤ 8 * s.size) (hs' : s.size ≤ 140737488351232) : ∀ d i, i + d = s.size →
    Ev (fun k => turnoutref02_Put.l0 k s o n (txt (pb s o n x.toNat) i) i (hi x) (lo x)) (put s o n x.toNat, 0) := by
  intro d
  induction d with
  | zero =>
    intro i h
    obtain rfl : i = s.size := by omega
    refine Ev.step (f := _) (fun k => by rw [turnoutref02_Put.l0]) ?_
    exact Ev.in (by omega) (Ev.now _)
  | succ d ih =>
    intro i h
    refine Ev.step (f := _) (fun k => by rw [turnoutref02_Put.l0]) ?_
    refine Ev.ip (by omega) ?_
    have e : wrap64 (8 * (i : Int)) = ((8 * i + 0 : Nat) : Int) := by rw [w64 (by omega) (by omega)]; omega
    rw [e]
    exact rput_l1 s o n x hn' hs hs' i (by omega) (ih (i + 1) (by omega)) 8 0 (by omega)
theorem rput_ok (s : ByteArray) (o n : Nat) (x : W) (hn : 1 ≤ n) (hn' : n ≤ 128) (hs : o + n ≤ 8 * s.size) (hs' : s.size ≤ 140737488351232) :
    Ev (fun k => turnoutref02_Put.f k s o n (hi x) (lo x)) (put s o n x.toNat, 0) := by
  unfold turnoutref02_Put.f
  have hm : may s o n = 0 := by unfold may; rw [if_neg (by omega), if_neg (by omega)]
  have := rmay_ev s o n hs'
  rw [hm] at this
  refine Ev.bind this ?_
  refine Ev.ip rfl ?_
  exact rput_l0 s o n x hn' hs hs' s.size 0 (by omega)
theorem rput_bad (s : ByteArray) (o n w0 w1 : Int) (hs' : s.size ≤ 140737488351232) (h : may s o n ≠ 0) : Ev (fun k => turnoutref02_Put.f k s o n w0 w1) (⟨#[]⟩, may s o n) := by
  unfold turnoutref02_Put.f
  refine Ev.bind (rmay_ev s o n hs') ?_
  exact Ev.in h (Ev.now _)
end Go.Proofs.Ytdjdgkjikibgaaa.MPut
