/- FieldTwo: a field is what its first bits are, that many places up, and its last ones. -/
import Derived.Test.YtgpahhobifdapaaMField
import Derived.Test.YtgpahhobifdapaaPFieldx8
set_option linter.unusedVariables false
set_option linter.unusedSimpArgs false
namespace Go.Proofs.Ytgpahhobifdapaa.Pure
open Go.RowKit Go.Proofs.Ytgpahhobifdapaa.PField Go.Proofs.Ytgpahhobifdapaa.MBits Go.Proofs.Ytgpahhobifdapaa.MWord Go.Proofs.Ytgpahhobifdapaa.MField Go.Proofs.YtgpahhobifdapaaW.PrintWords Go.Proofs.YtgpahhobifdapaaW.PrintLast

theorem FieldTwo : turnoutlaw02_FieldTwo.Pure := by
  refine ⟨fun s o n p hs ho hn hp => ?_, awake_only⟩
  apply Ev.rounds
  unfold turnoutlaw02_FieldTwo.f
  have hrest : Ev (fun k => turnoutlaw02_FieldTwo.j0 k s o n p true) true := by
    refine Ev.step (f := _) (fun k => by rw [turnoutlaw02_FieldTwo.j0]) ?_
    refine Ev.ip rfl ?_
    exact Ev.bind awake_ev (Ev.now _)
  by_cases h : (s.size : Int) > 3000
  · exact Ev.ip h hrest
  · refine Ev.in h ?_
    by_cases h2 : n < 2
    · exact Ev.ip h2 hrest
    · refine Ev.in h2 ?_
      refine Ev.bind awake_ev ?_
      refine Ev.step (f := _) (fun k => by rw [turnoutlaw02_FieldTwo.j0]) ?_
      refine Ev.in (by decide) ?_
      by_cases hm : may s o n = 0
      · obtain ⟨o, n, rfl, rfl, h1, h2', h3⟩ := may_zero hm
        refine Ev.bind (get_ok s o n h1 h2' h3 hs) ?_
        refine Ev.ip rfl ?_
        have b := bounds_i64 hp
        have e1 : IntKind.u64.wrap (wrap64 ((n : Int) - 1)) = ((n - 1 : Nat) : Int) := by rw [w64 (by omega) (by omega), u64w (by omega) (by omega)]; omega
        obtain ⟨q, hq⟩ : ∃ q : Nat, IntKind.u64.wrap p = (q : Int) := ⟨(IntKind.u64.wrap p).toNat, by rw [IntKind.wrap_u64]; omega⟩
        have hml : q % (n - 1) < n - 1 := Nat.mod_lt _ (by omega)
        have e2 : wrap64 (1 + (wrap64 (Int.tmod ((q : Nat) : Int) ((n - 1 : Nat) : Int)))) = ((1 + q % (n - 1) : Nat) : Int) := by
          have ht : Int.tmod ((q : Nat) : Int) ((n - 1 : Nat) : Int) = ((q % (n - 1) : Nat) : Int) := by
            rw [Int.tmod_eq_emod_of_nonneg (Int.natCast_nonneg q)]; exact (Int.natCast_emod q (n - 1)).symm
          rw [ht]
          generalize q % (n - 1) = m at hml
          rw [w64 (n := ((m : Nat) : Int)) (by omega) (by omega), w64 (by omega) (by omega)]; omega
        obtain ⟨m, hmm⟩ : ∃ m, 1 + q % (n - 1) = m := ⟨_, rfl⟩
        rw [hmm] at e2
        rw [e1, hq, e2]
        have hm1 : 1 ≤ m := by omega
        have hm2 : m < n := by omega
        clear hmm hml e2 hq e1
        have e3 : wrap64 ((n : Int) - (m : Int)) = ((n - m : Nat) : Int) := by rw [w64 (by omega) (by omega)]; omega
        have e4 : wrap64 ((o : Int) + (m : Int)) = ((o + m : Nat) : Int) := by rw [w64 (by omega) (by omega)]; omega
        rw [e3, e4]
        refine Ev.in (by omega) ?_
        refine Ev.bind (get_ok s o m (by omega) (by omega) (by omega) hs) ?_
        refine Ev.bind (get_ok s (o + m) (n - m) (by omega) (by omega) (by omega) hs) ?_
        refine Ev.ip rfl ?_
        refine Ev.ip rfl ?_
        refine Ev.pb (left_ev (BitVec.ofNat 128 (num s o m)) ((n - m : Nat) : Int) (by omega) (by omega)) ?_
        refine Ev.pb (or_ev (BitVec.ofNat 128 (num s o m) <<< ((n - m : Nat) : Int).toNat) (BitVec.ofNat 128 (num s (o + m) (n - m)))) ?_
        rw [Int.toNat_natCast, push _ _ _ (num_lt _ _ _), ← num_add, show m + (n - m) = n by omega, beq2, beq_self_eq_true]
        exact Ev.now _
      · refine Ev.bind (get_bad s o n hs hm) ?_
        refine Ev.in hm ?_
        exact Ev.now _

end Go.Proofs.Ytgpahhobifdapaa.Pure
