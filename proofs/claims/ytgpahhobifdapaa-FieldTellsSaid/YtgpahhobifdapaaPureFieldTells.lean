/- FieldTells: any word's text, how many bytes any width needs, whether any field matches, and how many first bits are alike, are the document's. -/
import Derived.Test.YtgpahhobifdapaaMTell
import Derived.Test.YtgpahhobifdapaaPFieldx10
set_option linter.unusedVariables false
set_option linter.unusedSimpArgs false
namespace Go.Proofs.Ytgpahhobifdapaa.Pure
open Go.RowKit Go.Proofs.Ytgpahhobifdapaa.PField Go.Proofs.Ytgpahhobifdapaa.MBits Go.Proofs.Ytgpahhobifdapaa.MWord Go.Proofs.Ytgpahhobifdapaa.MField Go.Proofs.Ytgpahhobifdapaa.MPut Go.Proofs.Ytgpahhobifdapaa.MTell Go.Proofs.YtgpahhobifdapaaW.PrintWords Go.Proofs.YtgpahhobifdapaaW.PrintLast

theorem tells_text (x : W) (n : Int) : ∃ p : ByteArray × Int, field_Text.f (hi x) (lo x) n = some p ∧ Ev (fun k => turnoutref02_Text.f k (hi x) (lo x) n) p := by
  by_cases h : n < 1 ∨ n > 128
  · exact ⟨_, ftext_bad _ _ _ h, rtext_bad _ _ _ h⟩
  · obtain ⟨m, rfl⟩ := Int.eq_ofNat_of_zero_le (show 0 ≤ n by omega)
    exact ⟨_, ftext_ok x m ((m + 7) / 8) (by omega) (by omega) rfl, rtext_ok x m ((m + 7) / 8) (by omega) (by omega) rfl⟩
theorem tells_match (s : ByteArray) (o n : Int) (v m : W) (hs : s.size ≤ 140737488351232) :
    ∃ p : Bool × Int, Ev (fun k => field_Match.f k s o n (hi v) (lo v) (hi m) (lo m)) p ∧ Ev (fun k => turnoutref02_Match.f k s o n (hi v) (lo v) (hi m) (lo m)) p := by
  by_cases hm : may s o n = 0
  · obtain ⟨o, n, rfl, rfl, h1, h2, h3⟩ := may_zero hm
    exact ⟨_, match_ok s o n v m h1 h2 h3 hs, rmatch_ok s o n v m h1 h2 h3 hs⟩
  · exact ⟨_, match_bad s o n _ _ _ _ hs hm, rmatch_bad s o n _ _ _ _ hs hm⟩
theorem tells_pre (s t : ByteArray) (hs : s.size ≤ 140737488351232) (ht : t.size ≤ 140737488351232) :
    ∃ p : Int, Ev (fun k => field_Prefix.f k s t) p ∧ Ev (fun k => turnoutref02_Prefix.f k s t) p := by
  obtain ⟨a, ha, h1⟩ := pre_ev s t hs ht
  obtain ⟨b, hb, h2⟩ := rpre_ev s t hs ht
  obtain rfl := ha.uniq hb
  exact ⟨_, h1, h2⟩
theorem FieldTells : turnoutlaw02_FieldTells.Pure := by
  refine ⟨fun s t o n v0 v1 m0 m1 hs ht ho hn h0 h1 h2 h3 => ?_, awake_only⟩
  apply Ev.rounds
  unfold turnoutlaw02_FieldTells.f
  obtain ⟨v, rfl, rfl⟩ := halves v0 v1 (bounds_u64 h0) (bounds_u64 h1)
  obtain ⟨m, rfl, rfl⟩ := halves m0 m1 (bounds_u64 h2) (bounds_u64 h3)
  have hj : ∀ c, Ev (fun k => turnoutlaw02_FieldTells.j0 k s t o n c (hi v) (lo v) (hi m) (lo m)) true := by
    intro c
    refine Ev.step (f := _) (fun k => by rw [turnoutlaw02_FieldTells.j0]) ?_
    by_cases hc : c = true
    · exact Ev.ip hc (Ev.bind awake_ev (Ev.now _))
    · refine Ev.in hc ?_
      obtain ⟨p, hp1, hp2⟩ := tells_text v n
      obtain ⟨q, hq1, hq2⟩ := tells_match s o n v m hs
      obtain ⟨r, hr1, hr2⟩ := tells_pre s t hs ht
      refine Ev.pb hp1 ?_
      refine Ev.bind hp2 ?_
      refine Ev.bind hq1 ?_
      refine Ev.bind hq2 ?_
      refine Ev.ip rfl ?_
      refine Ev.ip rfl ?_
      refine Ev.ip (beq_self_eq_true _) ?_
      refine Ev.ip rfl ?_
      refine Ev.pb (bytes_ev n) ?_
      refine Ev.pb (rbytes_ev n) ?_
      refine Ev.ip rfl ?_
      refine Ev.bind hr1 ?_
      refine Ev.bind hr2 ?_
      refine Ev.ip rfl ?_
      exact Ev.bind awake_ev (Ev.now _)
  by_cases h : (s.size : Int) > 3000
  · exact Ev.ip h (hj _)
  · exact Ev.in h (hj _)

end Go.Proofs.Ytgpahhobifdapaa.Pure
