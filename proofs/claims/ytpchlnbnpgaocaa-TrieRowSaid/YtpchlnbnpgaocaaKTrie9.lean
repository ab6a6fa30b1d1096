/- Tries in memory: the calls over an inventory. -/
import Derived.Test.YtpchlnbnpgaocaaKTrie8
namespace Go.Proofs.Ytpchlnbnpgaocaa.PTrie
open Go.Proofs.Ytpchlnbnpgaocaa.KTree Go.Proofs.Ytpchlnbnpgaocaa.KReg Go.Proofs.Ytpchlnbnpgaocaa.KBits Go.RowKit Go.Proofs.YtpchlnbnpgaocaaW.PrintWords Go.Proofs.YtpchlnbnpgaocaaW.PrintLast Go.Proofs.YtpchlnbnpgaocaaW.PrintMore
set_option linter.unusedVariables false
set_option linter.unusedSimpArgs false
section
variable {w0 u u' : World} {L : List (Nat × Tri)} {R : List Rw} {b : Nat} {t : Tri}
theorem Inv.tr {x : Nat × Tri} (h : Inv w0 u L R) (hx : x ∈ L) : ∃ F, Tr u x.1 x.2 F := by
  obtain ⟨F, h1, h2, h3, h4, h5⟩ := h
  exact ⟨F x.1, (h2 x hx).1⟩
theorem Inv.add {q : Nat} {G : List Nat} (h : Inv w0 u L R) (hb : Below u.heap.size u u') (hT : Tr u' q t G) (hG : ∀ z, z ∈ G → u.heap.size ≤ z) : Inv w0 u' ((q, t) :: L) R := by
  obtain ⟨F, h1, h2, h3, h4, h5⟩ := h
  have h0 : w0.heap.size ≤ u.heap.size := h5.size
  have hq := hG q hT.hold.mem
  have hne : ∀ x, x ∈ L → x.1 ≠ q := fun x hx e => by
    have h2x := h2 x hx
    have := h2x.1.hold.lt x.1 h2x.1.hold.mem
    omega
  refine ⟨fun k => if k = q then G else F k, ?_, ?_, ?_, ?_, below_step h5 hb⟩
  · rw [List.map_cons, List.nodup_cons]
    refine ⟨fun hm => ?_, h1⟩
    obtain ⟨x, hx, e⟩ := List.mem_map.1 hm
    exact hne x hx e
  · intro x hx
    rcases List.mem_cons.1 hx with rfl | hx
    · simp only [if_true]
      exact ⟨hT, fun z hz => by have := hG z hz; omega⟩
    · simp only [if_neg (hne x hx)]
      exact ⟨(h2 x hx).1.below hb, (h2 x hx).2⟩
  · have key : ∀ x, x ∈ L → ∀ z, z ∈ G → z ∉ F x.1 := fun x hx z hz hm => by
      have := (h2 x hx).1.hold.lt z hm
      have := hG z hz
      omega
    intro x hx y hy hxy z hz hm
    rcases List.mem_cons.1 hx with rfl | hx
    · rcases List.mem_cons.1 hy with rfl | hy
      · exact hxy rfl
      · simp only [if_true, if_neg (hne y hy)] at hz hm
        exact key y hy z hz hm
    · rcases List.mem_cons.1 hy with rfl | hy
      · simp only [if_true, if_neg (hne x hx)] at hz hm
        exact key x hx z hm hz
      · simp only [if_neg (hne x hx), if_neg (hne y hy)] at hz hm
        exact h3 x hx y hy hxy z hz hm
  · intro r hr
    refine Kd.R_mono (Kd.R_below (Kd.R_bound (h4 r hr)) hb) (fun k hk x hx => ?_)
    rcases List.mem_cons.1 hx with rfl | hx
    · simp only [if_true]
      intro hm
      have := hG k hm
      have := hk.2.2.1
      omega
    · simp only [if_neg (hne x hx)]
      exact hk.1 x hx
theorem Inv.row {v : Value} {xs : List S32} (h : Inv w0 u L R) (hb : Below u.heap.size u u') (hr : Kd.R k32 32 u' u.heap.size (fun _ => True) v xs) :
    ∃ a c, v = .slice a xs.length c ∧ xs.length ≤ c ∧ Inv w0 u' L (⟨a, c, xs⟩ :: R) := by
  obtain ⟨a, c, rfl, hc, _⟩ := Kd.R_reads hr
  have hI := h.below hb
  obtain ⟨F, h1, h2, h3, h4, h5⟩ := hI
  obtain ⟨F0, g1, g2, g3, g4, g5⟩ := h
  have h0 : w0.heap.size ≤ u.heap.size := g5.size
  refine ⟨a, c, rfl, hc, fun k => F0 k, g1, fun x hx => ⟨(g2 x hx).1.below hb, (g2 x hx).2⟩, g3, fun r hr2 => ?_, below_step g5 hb⟩
  rcases List.mem_cons.1 hr2 with rfl | hr2
  · refine Kd.R_lower (Kd.R_mono (Kd.R_bound hr) (fun k hk x hx hm => ?_)) h0
    have := (g2 x hx).1.hold.lt k hm
    have := hk.2.1
    omega
  · exact Kd.R_below (g4 r hr2) hb
theorem Inv.cells {r : Rw} (h : Inv w0 u L R) (hr : r ∈ R) : Kd.C k32 u r.a r.xs.length r.xs ∧ r.xs.length ≤ r.c := by
  obtain ⟨F, h1, h2, h3, h4, h5⟩ := h
  obtain ⟨A, c, e, hc, hC⟩ := Kd.R_reads (h4 r hr)
  have e1 : r.a = A ∧ r.c = c := by
    unfold Rw.v at e
    injection e with e1 e2 e3
    exact ⟨e1, e3⟩
  exact ⟨by rw [e1.1]; exact hC, by rw [e1.2]; exact hc⟩
theorem Inv.at {r : Rw} (h : Inv w0 u L R) (hr : r ∈ R) (i : Nat) (hi : i < r.xs.length) : ∃ g, r.a = some ⟨g, 0, none⟩ ∧
    u.cell? ⟨g, i * 3, none⟩ = some (.string (r.xs[i]).f0) ∧ u.cell? ⟨g, i * 3 + 1, none⟩ = some (.int .i64 (r.xs[i]).f1) ∧ u.cell? ⟨g, i * 3 + 2, none⟩ = some (.int .i64 (r.xs[i]).f2) := by
  have hC := (h.cells hr).1
  obtain ⟨F, h1, h2, h3, h4, h5⟩ := h
  obtain ⟨ad, ha, c0, c1, c2⟩ := at_T32 hC (i : Int) (by omega) (by omega)
  have hR := h4 r hr
  unfold Rw.v at hR
  rw [ha] at hR
  obtain ⟨g, rfl⟩ := Kd.R_head hR
  have e : rd_T32 r.xs (i : Int) = r.xs[i] := by
    unfold rd_T32
    rw [Int.toNat_natCast, List.getD_eq_getElem?_getD, List.getElem?_eq_getElem hi]; rfl
  rw [e] at c0 c1 c2
  have ea : (Addr.add ⟨g, 0, none⟩ ((i : Int).toNat * 3)) = ⟨g, i * 3, none⟩ := by
    rw [Int.toNat_natCast, Addr.add_lit]; simp
  rw [ea] at c0 c1 c2
  exact ⟨g, ha, c0, c1, c2⟩
theorem inv_new (h : Inv w0 u L R) : Calls Try.prog 13 #[] u fun e u' => ∃ q, e = .returned (.pointer (some ⟨q, 0, none⟩)) ∧ Inv w0 u' ((q, .node .nil .nil none) :: L) R :=
  (new_c u).mono fun e u' hd => ⟨_, hd.1, h.add hd.2.1 hd.2.2 (fun z hz => by rw [List.mem_singleton] at hz; omega)⟩
theorem inv_copy (h : Inv w0 u ((b, t) :: L) R) : Calls Try.prog 22 #[.pointer (some ⟨b, 0, none⟩)] u fun e u' => ∃ q, e = .returned (.pointer (some ⟨q, 0, none⟩)) ∧ Inv w0 u' ((q, t) :: (b, t) :: L) R := by
  obtain ⟨F, hT⟩ := h.tr List.mem_cons_self
  refine (copy_c b t F u hT).mono fun e u' hd => ?_
  obtain ⟨q, G, he, h1, h2, h3⟩ := hd
  exact ⟨q, he, h.add h3 h1 h2⟩
theorem inv_put (h : Inv w0 u ((b, t) :: L) R) (s : ByteArray) (n v : Int) (hs : s.size ≤ 140737488351232) (hc : Tri.cnt t ≤ 1000000) :
    Calls Try.prog 14 #[.pointer (some ⟨b, 0, none⟩), .string s, .int .i64 n, .int .i64 v] u fun e u' => e = .returned (.int .i64 (pcode s n)) ∧ Inv w0 u' ((b, tput s n v t) :: L) R := by
  have h2 := h
  obtain ⟨F, h1, hL, h3, h4, h5⟩ := h2
  refine (put_any b t (F b) s n v hs u (hL _ List.mem_cons_self).1 hc).mono fun e u' hd => ⟨hd.1, ?_⟩
  exact Inv.wroteF (F := F) ⟨h1, hL, h3, h4, h5⟩ hd.2
theorem inv_del (h : Inv w0 u ((b, t) :: L) R) (s : ByteArray) (n : Int) (hs : s.size ≤ 140737488351232) (hc : Tri.cnt t ≤ 1000000) :
    Calls Try.prog 17 #[.pointer (some ⟨b, 0, none⟩), .string s, .int .i64 n] u fun e u' => e = .returned (.bool (tget s n t).isSome) ∧ Inv w0 u' ((b, tdel s n t) :: L) R := by
  have h2 := h
  obtain ⟨F, h1, hL, h3, h4, h5⟩ := h2
  refine (del_any b t (F b) s n hs u (hL _ List.mem_cons_self).1 hc).mono fun e u' hd => ⟨hd.1, ?_⟩
  exact Inv.wroteF (F := F) ⟨h1, hL, h3, h4, h5⟩ hd.2
theorem inv_get {x : Nat × Tri} (h : Inv w0 u L R) (hx : x ∈ L) (s : ByteArray) (n : Int) (hs : s.size ≤ 140737488351232) :
    Calls Try.prog 16 #[.pointer (some ⟨x.1, 0, none⟩), .string s, .int .i64 n] u fun e u' => e = .returned (.tuple #[.int .i64 ((tget s n x.2).getD 0), .bool (tget s n x.2).isSome]) ∧ Inv w0 u' L R := by
  obtain ⟨F, hT⟩ := h.tr hx
  exact (get_any x.1 x.2 F s n hs u hT.hold).mono fun e u' hd => ⟨hd.1, h.below hd.2⟩
/-- The longest of a text's beginnings. -/
def tlon (s : ByteArray) (t : Tri) : Option (Nat × Int) := Tri.lon (kbits s.data.toList (8 * s.size)) 0 none t
theorem inv_lon {x : Nat × Tri} (h : Inv w0 u L R) (hx : x ∈ L) (s : ByteArray) (hs : s.size ≤ 140737488351232) :
    Calls Try.prog 11 #[.pointer (some ⟨x.1, 0, none⟩), .string s] u fun e u' => e = .returned (lonV (tlon s x.2)) ∧ Inv w0 u' L R := by
  obtain ⟨F, hT⟩ := h.tr hx
  exact (lon_c x.1 x.2 F s hs u hT.hold).mono fun e u' hd => ⟨hd.1, h.below hd.2⟩
theorem inv_len {x : Nat × Tri} (h : Inv w0 u L R) (hx : x ∈ L) :
    Calls Try.prog 18 #[.pointer (some ⟨x.1, 0, none⟩)] u fun e u' => e = .returned (.int .i64 (Tri.cnt x.2 : Nat)) ∧ Inv w0 u' L R := by
  obtain ⟨F, hT⟩ := h.tr hx
  exact (len_c hT).mono fun e u' hd => ⟨hd.1, by rw [← hd.2]; exact h⟩
theorem inv_all {x : Nat × Tri} (h : Inv w0 u L R) (hx : x ∈ L) (hd : depth x.2 ≤ 1000000) (hc : Tri.cnt x.2 ≤ 1000000) :
    Calls Try.prog 12 #[.pointer (some ⟨x.1, 0, none⟩)] u fun e u' => ∃ a c, e = .returned (.slice a (items x.2 []).length c) ∧ (items x.2 []).length ≤ c ∧ Inv w0 u' L (⟨a, c, items x.2 []⟩ :: R) := by
  obtain ⟨F, hT⟩ := h.tr hx
  refine (all_top x.1 x.2 F u hT.hold hd hc).mono fun e u' hh => ?_
  obtain ⟨v, he, hR, hb⟩ := hh
  obtain ⟨a, c, rfl, h1, h2⟩ := h.row hb hR
  exact ⟨a, c, he, h1, h2⟩
end
open Classical in
theorem same_ev (xs ys : List S32) (hx : xs.length ≤ 1000000) : Ev (fun k => turnoutlaw11_same.f k xs ys) (decide (xs = ys)) := by
  unfold turnoutlaw11_same.f
  by_cases hl : xs.length = ys.length
  · refine MBits.Ev.ip (by omega) ?_
    have key : ∀ d i, i + d = xs.length → Ev (fun k => turnoutlaw11_same.l0 k xs ys (i : Nat)) (decide (xs.drop i = ys.drop i)) := by
      intro d
      induction d with
      | zero =>
        intro i hi
        have e : decide (xs.drop i = ys.drop i) = true := by rw [List.drop_of_length_le (by omega), List.drop_of_length_le (by omega)]; rfl
        rw [e]
        exact Ev.step (f := fun _ => some true) (fun k => by rw [turnoutlaw11_same.l0, if_neg (by omega)]) (Ev.now _)
      | succ d ih =>
        intro i hi
        have hi1 : i < xs.length := by omega
        have hi2 : i < ys.length := by omega
        have r1 : rd_T32 xs (i : Int) = xs[i] := by unfold rd_T32; rw [Int.toNat_natCast, List.getD_eq_getElem?_getD, List.getElem?_eq_getElem hi1]; rfl
        have r2 : rd_T32 ys (i : Int) = ys[i] := by unfold rd_T32; rw [Int.toNat_natCast, List.getD_eq_getElem?_getD, List.getElem?_eq_getElem hi2]; rfl
        rw [List.drop_eq_getElem_cons hi1, List.drop_eq_getElem_cons hi2]
        have hw : wrap64 ((i : Int) + 1) = ((i + 1 : Nat) : Int) := by rw [MBits.w64 (by omega) (by omega)]; omega
        by_cases he : xs[i] = ys[i]
        · have e : decide (xs[i] :: xs.drop (i + 1) = ys[i] :: ys.drop (i + 1)) = decide (xs.drop (i + 1) = ys.drop (i + 1)) := decide_eq_decide.2 ⟨fun h => (List.cons.inj h).2, fun h => by rw [he, h]⟩
          rw [e]
          refine Ev.step (fun k => ?_) (ih (i + 1) (by omega))
          rw [turnoutlaw11_same.l0, if_pos (by omega), if_pos (by omega), if_pos (by omega), r1, r2, he, hw]
          simp
        · have e : decide (xs[i] :: xs.drop (i + 1) = ys[i] :: ys.drop (i + 1)) = false := decide_eq_false (fun h => he (List.cons.inj h).1)
          rw [e]
          refine Ev.step (f := fun _ => some false) (fun k => ?_) (Ev.now _)
          rw [turnoutlaw11_same.l0, if_pos (by omega), if_pos (by omega), if_pos (by omega), r1, r2, if_pos ?_]
          cases h1 : ((xs[i]).f0.toList == (ys[i]).f0.toList) with
          | false => rfl
          | true =>
            cases h2 : ((xs[i]).f1 == (ys[i]).f1) with
            | false => rfl
            | true =>
              cases h3 : ((xs[i]).f2 == (ys[i]).f2) with
              | false => rfl
              | true =>
                exfalso; apply he
                have k1 : (xs[i]).f0 = (ys[i]).f0 := by
                  have := eq_of_beq h1
                  rw [ByteArray.toList_eq, ByteArray.toList_eq] at this
                  exact ByteArray.ext (Array.toList_inj.1 this)
                have k2 := eq_of_beq h2
                have k3 := eq_of_beq h3
                cases hx1 : xs[i]; cases hy1 : ys[i]
                rw [hx1, hy1] at k1 k2 k3
                simp only at k1 k2 k3
                subst k1 k2 k3; rfl
    have := key xs.length 0 (by omega)
    simpa using this
  · rw [decide_eq_false (fun e => hl (by rw [e]))]
    exact MBits.Ev.in (by omega) (Ev.now _)
theorem drawn_below {w w' : World} (h : Drawn0 w w') : Below w.heap.size w w' := by
  obtain ⟨⟨n, rfl⟩⟩ := h
  exact pw_below_drewN (Below.refl _ _) n
open Classical in
theorem inv_same {w0 u : World} {L : List (Nat × Tri)} {R : List Rw} (h : Inv w0 u L R) (r1 r2 : Rw) (h1 : r1 ∈ R) (h2 : r2 ∈ R) (hl : r1.xs.length ≤ 1000000) :
    Calls Try.prog 15 #[.slice r1.a r1.xs.length r1.c, .slice r2.a r2.xs.length r2.c] u fun e u' => e = .returned (.bool (decide (r1.xs = r2.xs))) ∧ Inv w0 u' L R := by
  obtain ⟨k, hk⟩ := Ev.at (same_ev r1.xs r2.xs hl)
  have c1 := h.cells h1
  have c2 := h.cells h2
  exact (turnoutlaw11_same.calls k r1.a r1.c r1.xs r2.a r2.c r2.xs _ u c1.1 c1.2 c2.1 c2.2 hk).mono fun e u' hd => ⟨hd.1, h.below (drawn_below hd.2)⟩
end Go.Proofs.Ytpchlnbnpgaocaa.PTrie
