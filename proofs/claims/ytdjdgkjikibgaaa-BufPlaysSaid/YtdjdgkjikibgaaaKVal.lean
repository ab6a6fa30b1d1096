/- What each function does with the buffer that a walk has made, with the values told in plain words. -/
import Derived.Test.YtdjdgkjikibgaaaMWin
import Derived.Test.YtdjdgkjikibgaaaMSum
namespace Go.Proofs.Ytdjdgkjikibgaaa.PBuf
open Go.RowKit Go.Proofs.YtdjdgkjikibgaaaW.PrintWords Go.Proofs.YtdjdgkjikibgaaaW.PrintLast Go.Proofs.YtdjdgkjikibgaaaW.PrintMore
set_option linter.unusedVariables false
set_option linter.unusedSimpArgs false
/-- The sum of bytes. -/
def sumV (D : List UInt8) : Int := MSum.rep (MSum.W true D)
theorem sumV_range (D : List UInt8) : 0 ≤ sumV D ∧ sumV D ≤ 65535 := MSum.rep_range (MSum.W_range D true).1
theorem sum_k (s : ByteArray) (hs : s.size ≤ 281474976710656) : ∃ k, sum_Sum.f k [s] = some (sumV s.data.toList) := by
  obtain ⟨K, hK⟩ := MSum.sum_one s hs
  exact ⟨K, hK K (Nat.le_refl K)⟩
theorem add_k {a b : Int} (ha : 0 ≤ a) (ha' : a ≤ 65535) (hb : 0 ≤ b) (hb' : b ≤ 65535) : ∃ k, sum_Add.f k a b = some (MSum.rep (a + b)) := by
  obtain ⟨K, hK⟩ := MSum.sum_add ha ha' hb hb'
  exact ⟨K, hK K (Nat.le_refl K)⟩
theorem sumV_two (A B : List UInt8) (h : A.length % 2 = 0) : MSum.rep (sumV A + sumV B) = sumV (A ++ B) := by
  unfold sumV
  rw [MSum.W_even _ _ h]
  have h1 := (MSum.W_range A true).1
  have h2 := (MSum.W_range B true).1
  rw [MSum.rep_add' (MSum.rep_range h1).1 h2, MSum.rep_add h1 h2]
theorem sumV_mid (A B : List UInt8) (v : Nat) (hv : v < 65536) (h : A.length % 2 = 0) : MSum.rep (sumV (A ++ B) + v) = sumV (A ++ [UInt8.ofNat (v / 256), UInt8.ofNat (v % 256)] ++ B) := by
  unfold sumV
  rw [MSum.W_even _ _ h, MSum.W_mid _ _ _ _ h]
  have h1 := (MSum.W_range A true).1
  have h2 := (MSum.W_range B true).1
  rw [MSum.rep_add (by omega) (by omega)]
  have e1 : (UInt8.ofNat (v / 256)).toNat = v / 256 := by simp; omega
  have e2 : (UInt8.ofNat (v % 256)).toNat = v % 256 := by simp
  rw [e1, e2]
  congr 1
  omega
theorem part_two (D : List UInt8) (k x y : Nat) : part D k (x + y) = part D k x ++ part D (k + x) y := by
  unfold part
  rw [← List.drop_drop, List.take_add]
section
variable {w u : World} {p : Nat} {D : List UInt8}
theorem at_ins (h : At w u p D) (a n : Nat) {ai ni : Int} (hai : ai = a) (hni : ni = n) (ha : a ≤ D.length) (hn : D.length + n ≤ 9216) (D' : List UInt8) (hD : D.take a ++ List.replicate n 0 ++ D.drop a = D') :
    Calls Try.prog 14 #[.pointer (some ⟨p, 0, none⟩), .int .i64 ai, .int .i64 ni] u fun e u' => e = .returned (.int .i64 0) ∧ At w u' p D' := by
  subst hai hni hD; exact h.lift fun g cap hB => ins_d hB a n ha hn
theorem at_del (h : At w u p D) (a n : Nat) {ai ni : Int} (hai : ai = a) (hni : ni = n) (ha : a + n ≤ D.length) (D' : List UInt8) (hD : D.take a ++ D.drop (a + n) = D') :
    Calls Try.prog 16 #[.pointer (some ⟨p, 0, none⟩), .int .i64 ai, .int .i64 ni] u fun e u' => e = .returned (.int .i64 0) ∧ At w u' p D' := by
  subst hai hni hD; exact h.lift fun g cap hB => del_d hB a n ha
theorem at_text (h : At w u p D) : Calls Try.prog 17 #[.pointer (some ⟨p, 0, none⟩)] u fun e u' => e = .returned (.string (KBuf.txt D)) ∧ At w u' p D := h.lift fun g cap hB => text_d hB
theorem at_len (h : At w u p D) : Calls Try.prog 15 #[.pointer (some ⟨p, 0, none⟩)] u fun e u' => e = .returned (.int .i64 D.length) ∧ At w u' p D := h.lift fun g cap hB => len_d hB
theorem at_get (h : At w u p D) (o n : Nat) {oi ni : Int} (hoi : oi = o) (hni : ni = n) (hn : 1 ≤ n) (hn' : n ≤ 128) (ho : o + n ≤ 8 * D.length) (v : Nat) (hv : MWin.val D o n = v) :
    Calls Try.prog 18 #[.pointer (some ⟨p, 0, none⟩), .int .i64 oi, .int .i64 ni] u fun e u' => e = .returned (.tuple #[.agg #[.int .u64 (MBits.hi (BitVec.ofNat 128 v)), .int .u64 (MBits.lo (BitVec.ofNat 128 v))], .int .i64 0]) ∧ At w u' p D := by
  subst hv; exact h.lift fun g cap hB => MWin.get_v hB o n hoi hni hn hn' ho
theorem at_sum (h : At w u p D) (a n : Nat) {ai ni : Int} (hai : ai = a) (hni : ni = n) (ha : a + n ≤ D.length) (L : List UInt8) (hL : part D a n = L) :
    Calls Try.prog 21 #[.pointer (some ⟨p, 0, none⟩), .int .i64 ai, .int .i64 ni] u fun e u' => e = .returned (.tuple #[.int .u16 (sumV L), .int .i64 0]) ∧ At w u' p D := by
  subst hai hni hL
  have hsm := h.small
  obtain ⟨k, hk⟩ := sum_k (KBuf.txt (part D a n)) (by rw [KBuf.txt_size, part_len _ _ _ ha]; omega)
  exact h.lift fun g cap hB => sum_d hB a n k _ ha ⟨hk⟩
theorem val_hi (v : Nat) (h : v < 2 ^ 64) : MBits.hi (BitVec.ofNat 128 v) = 0 := by rw [MField.hi_v _ (by omega), Nat.div_eq_of_lt h]; rfl
theorem val_lo (v : Nat) (h : v < 2 ^ 64) : MBits.lo (BitVec.ofNat 128 v) = (v : Int) := by rw [MField.lo_v _ (by omega), Nat.mod_eq_of_lt h]
theorem at_put1 (h : At w u p D) (i v : Nat) {oi wi : Int} (hoi : oi = ((8 * i : Nat) : Int)) (hwi : wi = v) (hv : v < 256) (hi : i < D.length) (D' : List UInt8) (hD : D.take i ++ [UInt8.ofNat v] ++ D.drop (i + 1) = D') :
    Calls Try.prog 19 #[.pointer (some ⟨p, 0, none⟩), .int .i64 oi, .int .i64 8, .agg #[.int .u64 0, .int .u64 wi]] u fun e u' => e = .returned (.int .i64 0) ∧ At w u' p D' := by
  subst hwi hD
  refine h.lift fun g cap hB => ?_
  have := MWin.put_v hB (8 * i) 8 (BitVec.ofNat 128 v) (oi := oi) (ni := 8) hoi rfl (by omega) (by omega) (by omega)
  have hw := win_len D (8 * i) 8 (by omega)
  have e1 : 8 * i / 8 = i := by omega
  have e2 : (8 * i + 8 + 7) / 8 - i = 1 := by omega
  rw [e1] at hw
  rw [e2] at hw
  have e3 : (BitVec.ofNat 128 v).toNat = v := by rw [BitVec.toNat_ofNat, Nat.mod_eq_of_lt (by omega)]
  rw [e1, e2, val_hi _ (by omega), val_lo _ (by omega), e3, Nat.sub_self, MWin.put_byte _ (by rw [KBuf.txt_size, hw]) v hv] at this
  exact this
theorem at_put2 (h : At w u p D) (i v : Nat) {oi wi : Int} (hoi : oi = ((8 * i : Nat) : Int)) (hwi : wi = v) (hv : v < 65536) (hi : i + 2 ≤ D.length) (D' : List UInt8) (hD : D.take i ++ [UInt8.ofNat (v / 256), UInt8.ofNat (v % 256)] ++ D.drop (i + 2) = D') :
    Calls Try.prog 19 #[.pointer (some ⟨p, 0, none⟩), .int .i64 oi, .int .i64 16, .agg #[.int .u64 0, .int .u64 wi]] u fun e u' => e = .returned (.int .i64 0) ∧ At w u' p D' := by
  subst hwi hD
  refine h.lift fun g cap hB => ?_
  have := MWin.put_v hB (8 * i) 16 (BitVec.ofNat 128 v) (oi := oi) (ni := 16) hoi rfl (by omega) (by omega) (by omega)
  have hw := win_len D (8 * i) 16 (by omega)
  have e1 : 8 * i / 8 = i := by omega
  have e2 : (8 * i + 16 + 7) / 8 - i = 2 := by omega
  rw [e1] at hw
  rw [e2] at hw
  have e3 : (BitVec.ofNat 128 v).toNat = v := by rw [BitVec.toNat_ofNat, Nat.mod_eq_of_lt (by omega)]
  rw [e1, e2, val_hi _ (by omega), val_lo _ (by omega), e3, Nat.sub_self, MWin.put_two _ (by rw [KBuf.txt_size, hw]) v hv] at this
  exact this
end
end Go.Proofs.Ytdjdgkjikibgaaa.PBuf
