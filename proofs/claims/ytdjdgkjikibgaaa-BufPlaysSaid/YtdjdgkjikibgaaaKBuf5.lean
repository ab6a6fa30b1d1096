/- What the functions of package buf do: Insert, Delete, Put, Sum, Copy. -/
import Derived.Test.YtdjdgkjikibgaaaKBuf2
namespace Go.Proofs.Ytdjdgkjikibgaaa.PBuf
open Go.RowKit Go.Proofs.YtdjdgkjikibgaaaW.PrintWords Go.Proofs.YtdjdgkjikibgaaaW.PrintLast Go.Proofs.YtdjdgkjikibgaaaW.PrintMore Go.Proofs.Ytdjdgkjikibgaaa.KBuf
set_option linter.unusedVariables false
set_option linter.unusedSimpArgs false
section
variable {w : World} {p g cap : Nat} {D : List UInt8}
set_option maxHeartbeats 8000000 in
set_option maxRecDepth 100000 in
theorem insert_full (a n : Nat) (h : KBuf.Buf w p g D a) (ha : a ≤ D.length) (hn : D.length + n ≤ 9216) :
    Calls Try.prog 14 #[.pointer (some ⟨p, 0, none⟩), .int .i64 a, .int .i64 n] w (Inserted w p g (D.take a ++ List.replicate n 0 ++ D.drop a)) := by
  obtain ⟨i0, hi, hz, hsz, hby⟩ := info_parts infoB
  have HI := Aside0.mk (And.intro hi (And.intro hz (And.intro hsz hby)))
  have hc := h.cell
  have hle := h.row.le
  have hmin := min_zero n
  have h1 : decide ((n : Int) > 9216 - (D.length : Int)) = false := decide_eq_false (by omega)
  have h2 : (a : Int) ≤ (D.length : Int) := by omega
  have hcs : D.length ≤ a := by omega
  have HA := Aside0.mk h
  clear h hi hz hsz hby
  go_enter Try.func14, Try.ntmps14
  go_wp2_with fail
  go_at_call 29
  (with_reducible refine (off_zero HA.out a ha).mono ?_)
  rintro e u1 ⟨rfl, rfl⟩
  go_wp2_with fail
  go_quiet (fail)
  have htl : (D.take a).length = a := by rw [List.length_take]; omega
  have hdl : (D.drop a).length = D.length - a := List.length_drop
  have hA2 := HA.out.drewN nq
  have hrow := (hA2.row.upto a).narrow a (by omega) (by omega)
  rw [← htl] at hrow
  rw [htl] at hrow
  have hap := KBuf.append_make (P := Try.prog) 50 3 50 5 i0 Try.underlying50 Try.underlying3 HI.out.1 HI.out.2.1 HI.out.2.2.1 HI.out.2.2.2 (w.drewN nq) g n (D.take a) (by rw [htl]; exact hrow) (by rw [htl]; omega)
  rw [htl] at hap
  obtain ⟨g1, c1, w1, hr1, hrow1, hb1, hg1⟩ := hap
  have hA3 := hA2.below hb1
  have hsrc := KBuf.src_bytes (P := Try.prog) 50 5 Try.underlying50 w1 g 0 a 0 D (D.drop a) hA3.row (fun j u hu => by rw [List.drop_of_length_le hcs] at hu; cases hu)
  have hap2 := KBuf.append_row (P := Try.prog) 50 50 50 5 i0 Try.underlying50 HI.out.1 HI.out.2.1 HI.out.2.2.1 HI.out.2.2.2 w1 g1 c1 (D.take a ++ List.replicate n 0) (D.drop a) _ hrow1 hsrc (by rw [List.length_append, htl, List.length_replicate, hdl]; omega)
  have hl1 : (D.take a ++ List.replicate n (0 : UInt8)).length = a + n := by rw [List.length_append, htl, List.length_replicate]
  rw [hl1, hdl] at hap2
  obtain ⟨g2, c2, w2, hr2, hrow2, hm2, hg2⟩ := hap2
  have HG1 := Aside0.mk hg1
  have HG2 := Aside0.mk hg2
  have HB1 := Aside0.mk hb1
  have HM2 := Aside0.mk hm2
  have HR2 := Aside0.mk hrow2
  have HA3 := Aside0.mk hA3
  have HR1 := Aside0.mk hr1
  have hdz : D.length - a = 0 := by omega
  rw [hdz] at hr2
  have HRUN2 := Aside0.mk hr2
  obtain ⟨hbel, hg2'⟩ := ins_plain (X := D.drop a = []) (pw_below_drewN (Below.refl _ _) nq) rfl ha (fun e => List.drop_of_length_le (by omega)) hb1 hm2 hg1 hg2
  have hbox : w2.heap[p]? = some (.cells #[.slice (some ⟨g, 0, none⟩) D.length a] 64 (0, 0)) := (hbel.block p HA.out.plt).trans HA.out.box
  have hpg : p ≠ g2 := by
    rcases hg2' with e | e
    · rw [e]; exact HA.out.ne
    · have := HA.out.plt; omega
  have HBEL := Aside0.mk hbel
  have HBOX := Aside0.mk hbox
  have HPG := Aside0.mk hpg
  have HGG := Aside0.mk hg2'
  have HLEN : Aside0 ((D.take a ++ List.replicate n 0 ++ D.drop a).length = a + n) := ⟨by rw [List.length_append, hl1, hdl]; omega⟩
  have hc2 : w2.cell? ⟨p, 0, none⟩ = some (.slice (some ⟨g, 0, none⟩) D.length a) := (blk_cell hbox 0).trans rfl
  have hf2 : w2.frozen? ⟨p, 0, none⟩ = false := blk_frozen hbox 0
  clear hg1 hg2 hb1 hm2 hrow2 hA3 hA2 hrow hrow1 hsrc htl hdl hl1 hc hr1 hr2 hdz hbel hbox hpg hg2' HG1 HG2 HB1 HM2 HA3
  go_wp2_with (first | (at_builtin; refine wpList_app _ rfl _ _ 50 3 rfl _ _ _ _ rfl rfl HR1.out ?_) | (at_builtin; refine wpList_app _ rfl _ _ 50 50 rfl _ _ _ _ rfl rfl HRUN2.out ?_))
  go_ret
  refine ⟨rfl, g2, c2, ⟨?_, ?_, HPG.out, ?_⟩, HGG.out, ?_⟩
  · rw [HLEN.out]; exact blk_put HBOX.out 0 _ rfl
  · exact HR2.out.same (Below.heap_setCell w2 ⟨p, 0, none⟩ _ g2 (fun e => HPG.out e.symm))
  · rw [HLEN.out]; omega
  · exact (KBuf.Mod.of_below HBEL.out).trans (KBuf.Mod.setCell w2 p 0 _ rfl)
end
end Go.Proofs.Ytdjdgkjikibgaaa.PBuf
