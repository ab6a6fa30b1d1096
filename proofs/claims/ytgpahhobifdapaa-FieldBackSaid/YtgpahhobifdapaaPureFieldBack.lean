/- FieldBack: Get of Put is the number's lowest bits; all other bits stay, and so does the length. -/
import Derived.Test.YtgpahhobifdapaaMPut
import Derived.Test.YtgpahhobifdapaaPFieldx7
set_option linter.unusedVariables false
set_option linter.unusedSimpArgs false
namespace Go.Proofs.Ytgpahhobifdapaa.Pure
open Go.RowKit Go.Proofs.Ytgpahhobifdapaa.PField Go.Proofs.Ytgpahhobifdapaa.MBits Go.Proofs.Ytgpahhobifdapaa.MWord Go.Proofs.Ytgpahhobifdapaa.MField Go.Proofs.Ytgpahhobifdapaa.MPut Go.Proofs.YtgpahhobifdapaaW.PrintWords Go.Proofs.YtgpahhobifdapaaW.PrintLast

theorem back_tail (s : ByteArray) (o n m : Nat) (x : W) (h2 : n ≤ 128) (h3 : o + n ≤ 8 * s.size) (hs : s.size ≤ 140737488351232) (hml : m < 8 * s.size) :
    Ev (fun k => (field_Get.f k s (m : Int) 1).bind fun bt220 => ((field_Get.f k (put s o n x.toNat) (m : Int) 1).bind fun bt224 => (if (bt220.1 == bt224.1 && (bt220.2.1 == bt224.2.1)) = true then (some true) else (if (m : Int) ≥ (o : Int) then (some (decide ((m : Int) < (wrap64 ((o : Int) + n))))) else (some false))))) true := by
  have b1 : num s m 1 = bitAt s m := by unfold num num; simp
  have b2 : num (put s o n x.toNat) m 1 = pb s o n x.toNat m := by rw [← put_bit _ _ _ _ _ hml]; unfold num num; simp
  have e3 : wrap64 ((o : Int) + n) = ((o + n : Nat) : Int) := by rw [w64 (by omega) (by omega)]; omega
  refine Ev.bind (get_ok s m 1 (by omega) (by omega) (by omega) hs) ?_
  refine Ev.bind (get_ok (put s o n x.toNat) m 1 (by omega) (by omega) (by rw [put_size]; omega) (by rw [put_size]; exact hs)) ?_
  by_cases hin : o ≤ m ∧ m < o + n
  · by_cases heq : (hi (BitVec.ofNat 128 (num s m 1)) == hi (BitVec.ofNat 128 (num (put s o n x.toNat) m 1)) && (lo (BitVec.ofNat 128 (num s m 1)) == lo (BitVec.ofNat 128 (num (put s o n x.toNat) m 1)))) = true
    · exact Ev.ip heq (Ev.now _)
    · refine Ev.in heq ?_
      refine Ev.ip (Int.ofNat_le.2 hin.1) ?_
      have e5 : decide (((m : Nat) : Int) < wrap64 ((o : Int) + n)) = true := decide_eq_true (by rw [e3]; exact Int.ofNat_lt.2 hin.2)
      rw [e5]
      exact Ev.now _
  · refine Ev.ip ?_ (Ev.now _)
    rw [b1, b2, beq2]
    unfold pb
    rw [if_neg hin, beq_self_eq_true]

theorem FieldBack : turnoutlaw02_FieldBack.Pure := by
  refine ⟨fun s o n w0 w1 q hs ho hn h0 h1 hq => ?_, awake_only⟩
  apply Ev.rounds
  unfold turnoutlaw02_FieldBack.f
  obtain ⟨x, rfl, rfl⟩ := halves w0 w1 (bounds_u64 h0) (bounds_u64 h1)
  by_cases h : (s.size : Int) > 3000
  · refine Ev.ip h ?_
    refine Ev.step (f := _) (fun k => by rw [turnoutlaw02_FieldBack.j0]) ?_
    exact Ev.ip rfl (Ev.bind awake_ev (Ev.now _))
  · refine Ev.in h ?_
    refine Ev.bind awake_ev ?_
    refine Ev.step (f := _) (fun k => by rw [turnoutlaw02_FieldBack.j0]) ?_
    refine Ev.in (by decide) ?_
    by_cases hm : may s o n = 0
    · obtain ⟨o, n, rfl, rfl, h1, h2, h3⟩ := may_zero hm
      refine Ev.bind (put_ok s o n x h1 h2 h3 hs) ?_
      refine Ev.ip rfl ?_
      refine Ev.bind (get_ok (put s o n x.toNat) o n h1 h2 (by rw [put_size]; exact h3) (by rw [put_size]; exact hs)) ?_
      refine Ev.ip rfl ?_
      refine Ev.pb (cut_ev x n) ?_
      have hcut : x &&& mask (n : Int) = BitVec.ofNat 128 (num (put s o n x.toNat) o n) := by
        have := and_mask x.toNat n h2
        rw [BitVec.ofNat_toNat, BitVec.setWidth_eq] at this
        rw [this, put_num _ _ _ _ h3]
      rw [hcut]
      refine Ev.in (by simp) ?_
      refine Ev.step (f := _) (fun k => by rw [turnoutlaw02_FieldBack.j1]) ?_
      refine Ev.in (by rw [put_size]; simp) ?_
      have e1 : IntKind.u64.wrap (wrap64 (8 * (s.size : Int))) = ((8 * s.size : Nat) : Int) := by rw [w64 (by omega) (by omega), u64w (by omega) (by omega)]; omega
      obtain ⟨u, hu⟩ : ∃ u : Nat, IntKind.u64.wrap q = (u : Int) := ⟨(IntKind.u64.wrap q).toNat, by rw [IntKind.wrap_u64]; omega⟩
      have hml : u % (8 * s.size) < 8 * s.size := Nat.mod_lt _ (by omega)
      have e2 : wrap64 (Int.tmod ((u : Nat) : Int) ((8 * s.size : Nat) : Int)) = ((u % (8 * s.size) : Nat) : Int) := by
        have ht : Int.tmod ((u : Nat) : Int) ((8 * s.size : Nat) : Int) = ((u % (8 * s.size) : Nat) : Int) := by
          rw [Int.tmod_eq_emod_of_nonneg (Int.natCast_nonneg u)]; exact (Int.natCast_emod u (8 * s.size)).symm
        rw [ht]
        generalize u % (8 * s.size) = m at hml
        rw [w64 (by omega) (by omega)]
      rw [e1, hu, e2]
      generalize u % (8 * s.size) = m at hml
      refine Ev.in (by omega) ?_
      clear e1 e2 hu hcut
      exact back_tail s o n m x h2 h3 hs hml
    · refine Ev.bind (put_bad s o n _ _ hs hm) ?_
      refine Ev.in hm ?_
      have e : ((⟨#[]⟩ : ByteArray).toList == ([] : List UInt8)) = true := by kernel_rfl
      show Ev (fun n_1 => some ((⟨#[]⟩ : ByteArray).toList == ([] : List UInt8))) true
      rw [e]
      exact Ev.now _

end Go.Proofs.Ytgpahhobifdapaa.Pure
