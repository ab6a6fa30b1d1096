/- What Get, Put tell of a buffer's text, by the whole text's bits. -/
import Derived.Test.YtdjdgkjikibgaaaMPut
import Derived.Test.YtdjdgkjikibgaaaKParts
set_option linter.unusedVariables false
set_option linter.unusedSimpArgs false
namespace Go.Proofs.Ytdjdgkjikibgaaa.MWin
open Go.RowKit Go.Proofs.Ytdjdgkjikibgaaa.PBuf Go.Proofs.Ytdjdgkjikibgaaa.MBits Go.Proofs.Ytdjdgkjikibgaaa.MField Go.Proofs.YtdjdgkjikibgaaaW.PrintWords Go.Proofs.YtdjdgkjikibgaaaW.PrintLast Go.Proofs.YtdjdgkjikibgaaaW.PrintMore

theorem bN_list (D : List UInt8) (i : Nat) : bN (KBuf.txt D) i = (D.getD i 0).toNat := by
  by_cases h : i < D.length
  · rw [MPut.bN_at _ _ (by rw [KBuf.txt_size]; exact h), List.getD_eq_getElem?_getD, List.getElem?_eq_getElem h]
    simp [KBuf.txt]
    rfl
  · rw [List.getD_eq_getElem?_getD, List.getElem?_eq_none (by omega)]
    unfold bN bt
    have : ¬ (i < (KBuf.txt D).size) := by rw [KBuf.txt_size]; exact h
    simp [this]
theorem bit_list (D : List UInt8) (p : Nat) : bitAt (KBuf.txt D) p = (D.getD (p / 8) 0).toNat / 2 ^ (7 - p % 8) % 2 := by
  unfold bitAt; rw [bN_list]
/-- The number of n bits at o. -/
def val (D : List UInt8) (o n : Nat) : Nat := num (KBuf.txt D) o n
theorem val_lt (D : List UInt8) (o n : Nat) : val D o n < 2 ^ n := num_lt _ _ _
theorem val_congr {D E : List UInt8} {o q n : Nat} (h : ∀ j, j < n → (D.getD ((o + j) / 8) 0).toNat / 2 ^ (7 - (o + j) % 8) % 2 = (E.getD ((q + j) / 8) 0).toNat / 2 ^ (7 - (q + j) % 8) % 2) : val D o n = val E q n := by
  unfold val
  rw [MPut.num_nF, MPut.num_nF]
  induction n with
  | zero => rfl
  | succ n ih =>
    unfold MPut.nF
    rw [ih (fun j hj => h j (by omega)), bit_list, bit_list, h n (by omega)]
theorem win_val (D : List UInt8) (o n : Nat) (h : o + n ≤ 8 * D.length) (hn : 1 ≤ n) : val (win D o n) (o - 8 * (o / 8)) n = val D o n := by
  refine val_congr fun j hj => ?_
  have e1 : (o - 8 * (o / 8) + j) % 8 = (o + j) % 8 := by omega
  have e2 : o / 8 + (o - 8 * (o / 8) + j) / 8 = (o + j) / 8 := by omega
  have e3 : (win D o n).getD ((o - 8 * (o / 8) + j) / 8) 0 = D.getD ((o + j) / 8) 0 := by
    rw [← e2]
    unfold win
    rw [List.getD_eq_getElem?_getD, List.getD_eq_getElem?_getD, List.getElem?_take, if_pos (by omega), List.getElem?_drop]
  rw [e1, e3]
section
variable {u : World} {p g cap : Nat} {D : List UInt8}
theorem get_v (h : KBuf.Buf u p g D cap) (o n : Nat) {oi ni : Int} (hoi : oi = o) (hni : ni = n) (hn : 1 ≤ n) (hn' : n ≤ 128) (ho : o + n ≤ 8 * D.length) :
    Calls Try.prog 18 #[.pointer (some ⟨p, 0, none⟩), .int .i64 oi, .int .i64 ni] u (Does u p g D (.tuple #[.agg #[.int .u64 (hi (BitVec.ofNat 128 (val D o n))), .int .u64 (lo (BitVec.ofNat 128 (val D o n)))], .int .i64 0])) := by
  subst hoi hni
  have hsm := h.small
  have hw := win_len D o n ho
  have := MField.get_ok (KBuf.txt (win D o n)) (o - 8 * (o / 8)) n hn hn' (by rw [KBuf.txt_size, hw]; omega) (by rw [KBuf.txt_size, hw]; omega)
  obtain ⟨K, hK⟩ := this
  have hk := hK K (Nat.le_refl K)
  have e : num (KBuf.txt (win D o n)) (o - 8 * (o / 8)) n = val D o n := win_val D o n ho hn
  rw [e] at hk
  have e2 : ((o - 8 * (o / 8) : Nat) : Int) = (o : Int) - 8 * ((o : Int) / 8) := by omega
  rw [e2] at hk
  exact get_d h o n K _ _ hn hn' ho ⟨hk⟩
theorem put_v (h : KBuf.Buf u p g D cap) (o n : Nat) (x : W) {oi ni : Int} (hoi : oi = o) (hni : ni = n) (hn : 1 ≤ n) (hn' : n ≤ 128) (ho : o + n ≤ 8 * D.length) :
    Calls Try.prog 19 #[.pointer (some ⟨p, 0, none⟩), .int .i64 oi, .int .i64 ni, .agg #[.int .u64 (hi x), .int .u64 (lo x)]] u
      (Does u p g (D.take (o / 8) ++ (MPut.put (KBuf.txt (win D o n)) (o - 8 * (o / 8)) n x.toNat).data.toList ++ D.drop (o / 8 + ((o + n + 7) / 8 - o / 8))) (.int .i64 0)) := by
  subst hoi hni
  have hsm := h.small
  have hw := win_len D o n ho
  have := MPut.put_ok (KBuf.txt (win D o n)) (o - 8 * (o / 8)) n x hn hn' (by rw [KBuf.txt_size, hw]; omega) (by rw [KBuf.txt_size, hw]; omega)
  obtain ⟨K, hK⟩ := this
  have hk := hK K (Nat.le_refl K)
  have e2 : ((o - 8 * (o / 8) : Nat) : Int) = (o : Int) - 8 * ((o : Int) / 8) := by omega
  rw [e2] at hk
  have hs : (MPut.put (KBuf.txt (win D o n)) (o - 8 * (o / 8)) n x.toNat).size = (o + n + 7) / 8 - o / 8 := by rw [MPut.put_size, KBuf.txt_size, hw]
  have := put_d h o n K _ _ _ hn hn' ho hs ⟨hk⟩
  rw [hs] at this
  exact this
end
theorem data_one (s : ByteArray) (h : s.size = 1) : s.data.toList = [UInt8.ofNat (bN s 0)] := by
  have hl : s.data.toList.length = 1 := by rw [← h]; rfl
  match hd : s.data.toList, hl with
  | [b], _ =>
    have : bN s 0 = b.toNat := by
      have e : s = KBuf.txt [b] := by rw [← hd, KBuf.txt_data]
      rw [e, bN_list]; rfl
    rw [this]; simp
theorem data_two (s : ByteArray) (h : s.size = 2) : s.data.toList = [UInt8.ofNat (bN s 0), UInt8.ofNat (bN s 1)] := by
  have hl : s.data.toList.length = 2 := by rw [← h]; rfl
  match hd : s.data.toList, hl with
  | [b, c], _ =>
    have e : s = KBuf.txt [b, c] := by rw [← hd, KBuf.txt_data]
    have h1 : bN s 0 = b.toNat := by rw [e, bN_list]; rfl
    have h2 : bN s 1 = c.toNat := by rw [e, bN_list]; rfl
    rw [h1, h2]; simp
theorem put_byte (s : ByteArray) (h : s.size = 1) (v : Nat) (hv : v < 256) : (MPut.put s 0 8 v).data.toList = [UInt8.ofNat v] := by
  rw [data_one _ ((MPut.put_size s 0 8 v).trans h)]
  have h1 := MPut.put_num s 0 8 v (by omega)
  have h2 := num_byte (MPut.put s 0 8 v) 0 8 (by omega)
  rw [Nat.mul_zero, h1] at h2
  have h3 : bN (MPut.put s 0 8 v) 0 = v := by
    have e : 2 ^ (8 - 8) = 1 := rfl
    rw [e, Nat.div_one] at h2
    rw [← h2]; omega
  rw [h3]
theorem put_two (s : ByteArray) (h : s.size = 2) (v : Nat) (hv : v < 65536) : (MPut.put s 0 16 v).data.toList = [UInt8.ofNat (v / 256), UInt8.ofNat (v % 256)] := by
  rw [data_two _ ((MPut.put_size s 0 16 v).trans h)]
  have h1 := MPut.put_num s 0 16 v (by omega)
  have h2 := num_byte (MPut.put s 0 16 v) 0 8 (by omega)
  have h3 := num_byte (MPut.put s 0 16 v) 1 8 (by omega)
  have h4 := num_add (MPut.put s 0 16 v) 0 8 8
  rw [h1] at h4
  have e : 2 ^ (8 - 8) = 1 := rfl
  rw [e, Nat.div_one, Nat.mul_zero] at h2
  rw [e, Nat.div_one] at h3
  have h5 := bN_lt (MPut.put s 0 16 v) 0
  have h6 := bN_lt (MPut.put s 0 16 v) 1
  rw [h2, show 0 + 8 = 8 * 1 from rfl, h3] at h4
  have h7 : bN (MPut.put s 0 16 v) 0 = v / 256 := by omega
  have h8 : bN (MPut.put s 0 16 v) 1 = v % 256 := by omega
  rw [h7, h8]
end Go.Proofs.Ytdjdgkjikibgaaa.MWin
