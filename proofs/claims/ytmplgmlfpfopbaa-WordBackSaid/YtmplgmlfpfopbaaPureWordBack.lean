/- WordBack: for every word and every bytes: Of of Text is the word; Text of Of ends by the bytes, behind 0s alone; bytes 0 ahead change nothing. No condition. -/
import Derived.Test.YtmplgmlfpfopbaaMTextT
import Derived.Test.YtmplgmlfpfopbaaPWordTx7
set_option linter.unusedVariables false
set_option linter.unusedSimpArgs false
namespace Go.Proofs.Ytmplgmlfpfopbaa.Pure
open Go.RowKit Go.Proofs.Ytmplgmlfpfopbaa.PWordT Go.Proofs.Ytmplgmlfpfopbaa.MBits Go.Proofs.Ytmplgmlfpfopbaa.MText Go.Proofs.Ytmplgmlfpfopbaa.MWordT Go.Proofs.YtmplgmlfpfopbaaW.PrintWords Go.Proofs.YtmplgmlfpfopbaaW.PrintLast Go.Proofs.YtmplgmlfpfopbaaW.PrintMore

theorem other {x y : W} (h : x = y) : (!(hi x == hi y) || (!(lo x == lo y))) = false := by rw [← Bool.not_and, beq2, h, beq_self_eq_true]; rfl
theorem natOf_zeros (n : Nat) (l : List UInt8) : natOf (List.replicate n 0 ++ l) = natOf l := by
  induction n with
  | zero => rfl
  | succ n ih => rw [List.replicate_succ, List.cons_append, natOf_cons, ih]; simp
/-- The text of the number of bytes: 0s, and they. -/
theorem tx_of (s : ByteArray) (h : s.size ≤ 16) : (tx (ofB s.data.toList)).data.toList = List.replicate (16 - s.size) 0 ++ s.data.toList := by
  rw [tx_data]
  apply natOf_inj
  · rw [byteL_len, List.length_append, List.length_replicate, len_data]; omega
  · have h1 := natOf_lt s.data.toList
    rw [len_data] at h1
    have h2 : 256 ^ s.size ≤ 256 ^ 16 := Nat.pow_le_pow_right (by omega) h
    rw [natOf_all _ (ofB _).isLt, ofB_nat, natOf_zeros, Nat.mod_eq_of_lt]
    have h3 : (256 : Nat) ^ 16 = 2 ^ 128 := by decide
    omega
theorem ofB_lt (s : ByteArray) : (ofB s.data.toList).toNat < 2 ^ (8 * s.size) := by
  have h1 := natOf_lt s.data.toList
  rw [len_data] at h1
  rw [ofB_nat]
  have h2 : (256 : Nat) ^ s.size = 2 ^ (8 * s.size) := by rw [Nat.pow_mul]
  have := Nat.mod_le (natOf s.data.toList) (2 ^ 128)
  omega
theorem back_l0 (s : ByteArray) (h : s.size ≤ 16) (d : Nat) : ∀ i : Nat, i + d = 16 - s.size →
    Ev (fun k => turnoutlaw01_WordBack.l0 k s (tx (ofB s.data.toList)) (i : Int) (hi (ofB s.data.toList)) (lo (ofB s.data.toList))) true := by
  have e16 : wrap64 (16 - (s.size : Int)) = ((16 - s.size : Nat) : Int) := by rw [w64 (by omega) (by omega)]; omega
  induction d with
  | zero =>
    intro i hi'
    refine Ev.step (f := _) (fun k => by rw [turnoutlaw01_WordBack.l0]) ?_
    refine Ev.in (by omega) ?_
    have ho := of_ev (tx (ofB s.data.toList)) (by rw [tx_size]; omega)
    rw [ofB_tx] at ho
    refine Ev.bind ho ?_
    refine Ev.ip rfl ?_
    refine Ev.ip (by simp) ?_
    refine Ev.bind (size_ev _) ?_
    have := (len_le _ _).2 (ofB_lt s)
    have e : wrap64 (8 * (s.size : Int)) = 8 * (s.size : Int) := w64 (by omega) (by omega)
    rw [e, decide_eq_true (show ((len (ofB s.data.toList).toNat : Nat) : Int) ≤ 8 * (s.size : Int) by omega)]
    exact Ev.now _
  | succ d ih =>
    intro i hi'
    have e1 : wrap64 ((i : Int) + 1) = ((i + 1 : Nat) : Int) := by rw [w64 (by omega) (by omega)]; omega
    refine Ev.step (f := _) (fun k => by rw [turnoutlaw01_WordBack.l0]) ?_
    refine Ev.ip (by omega) ?_
    refine Ev.ip (by omega) ?_
    refine Ev.ip (by rw [tx_size]; omega) ?_
    have hz : bt (tx (ofB s.data.toList)) (i : Int) = 0 := by
      have hlt : i < (tx (ofB s.data.toList)).size := by rw [tx_size]; omega
      rw [bt_nat _ i hlt]
      have h1 : (tx (ofB s.data.toList))[i] = (tx (ofB s.data.toList)).data.toList[i]'(by rw [len_data]; exact hlt) := rfl
      have h2 : (tx (ofB s.data.toList)).data.toList[i]'(by rw [len_data]; exact hlt) = 0 := by
        have h3 : (List.replicate (16 - s.size) (0 : UInt8) ++ s.data.toList)[i]? = some 0 := by
          rw [List.getElem?_append_left (by rw [List.length_replicate]; omega), List.getElem?_replicate, if_pos (by omega)]
        rw [← tx_of s h, List.getElem?_eq_getElem (by rw [len_data]; exact hlt)] at h3
        exact Option.some.inj h3
      rw [h1, h2]; rfl
    refine Ev.ip hz ?_
    rw [e1]
    exact ih (i + 1) (by omega)
theorem back_j0 (s : ByteArray) (hs : s.size ≤ 140737488351232) : Ev (fun k => turnoutlaw01_WordBack.j0 k s false) true := by
  refine Ev.step (f := _) (fun k => by rw [turnoutlaw01_WordBack.j0]) ?_
  refine Ev.in (by decide) ?_
  by_cases h : (s.size : Int) > 16
  · refine Ev.bind (of_long s (by omega)) ?_
    refine Ev.ip h ?_
    refine Ev.ip rfl ?_
    exact Ev.now _
  · have h16 : s.size ≤ 16 := by omega
    have e16 : wrap64 (16 - (s.size : Int)) = ((16 - s.size : Nat) : Int) := by rw [w64 (by omega) (by omega)]; omega
    refine Ev.bind (of_ev s h16) ?_
    refine Ev.in h ?_
    refine Ev.pb (text_ev _) ?_
    refine Ev.ip rfl ?_
    refine Ev.ip (by rw [tx_size]; rfl) ?_
    rw [e16, Int.toNat_natCast]
    refine Ev.ip (by omega) ?_
    refine Ev.ip (by rw [tx_size]; omega) ?_
    have e : (((tx (ofB s.data.toList)).extract (16 - s.size) (tx (ofB s.data.toList)).size).toList != s.toList) = false := by
      rw [ByteArray.toList_eq, ByteArray.toList_eq, ByteArray.data_extract, Array.toList_extract, List.extract_eq_take_drop, tx_of s h16, tx_size]
      rw [List.drop_append_of_le_length (by rw [List.length_replicate]; omega), List.drop_replicate, Nat.sub_self, List.replicate_zero, List.nil_append, List.take_of_length_le (by rw [len_data]; omega)]
      simp
    rw [e]
    refine Ev.step (f := _) (fun k => by rw [turnoutlaw01_WordBack.j1]) ?_
    refine Ev.in (by decide) ?_
    exact back_l0 s h16 (16 - s.size) 0 (by omega)
theorem WordBack : turnoutlaw01_WordBack.Pure := by
  refine ⟨fun a0 a1 s ha0 ha1 hs => ?_, awake_only⟩
  obtain ⟨x, rfl, rfl⟩ := halves _ _ (bounds_u64 ha0) (bounds_u64 ha1)
  apply Ev.rounds
  unfold turnoutlaw01_WordBack.f
  refine Ev.pb (text_ev x) ?_
  have ho := of_ev (tx x) (by rw [tx_size]; omega)
  rw [ofB_tx] at ho
  refine Ev.bind ho ?_
  refine Ev.bind awake_ev ?_
  refine Ev.ip rfl ?_
  refine Ev.ip rfl ?_
  rw [other rfl]
  exact back_j0 s hs
end Go.Proofs.Ytmplgmlfpfopbaa.Pure
