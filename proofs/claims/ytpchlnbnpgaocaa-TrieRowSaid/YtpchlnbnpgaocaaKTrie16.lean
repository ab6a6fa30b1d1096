/- TrieRows by hand: the walk. -/
import Derived.Test.YtpchlnbnpgaocaaKTrie15
namespace Go.Proofs.Ytpchlnbnpgaocaa.PTrie
open Go.Proofs.Ytpchlnbnpgaocaa.KTree Go.Proofs.Ytpchlnbnpgaocaa.KReg Go.Proofs.Ytpchlnbnpgaocaa.KBits Go.RowKit Go.Proofs.YtpchlnbnpgaocaaW.PrintWords Go.Proofs.YtpchlnbnpgaocaaW.PrintLast Go.Proofs.YtpchlnbnpgaocaaW.PrintMore
set_option linter.unusedVariables false
set_option linter.unusedSimpArgs false
theorem var_row (u : World) (y : S32) : Kd.R k32 32 (u.alloc (.cells #[.string y.f0, .int .i64 y.f1, .int .i64 y.f2] 32)) u.heap.size (fun _ => True) (.slice (some ⟨u.heap.size, 0, none⟩) 1 1) [y] := by
  refine ⟨fun _ _ => trivial, [.string y.f0, .int .i64 y.f1, .int .i64 y.f2], World.ownsRow_lit u #[.string y.f0, .int .i64 y.f1, .int .i64 y.f2] 1 (Nat.le_refl _) (by decide) rfl, rfl, fun j p hp => ?_⟩
  cases j with
  | zero =>
    obtain rfl : y = p := by simpa using hp
    exact k32_mkM _ _ _ y
  | succ j => simp at hp
theorem turn_ix {by_ : Int} {n i cc jb : Nat} (hcc : cc = (IntKind.u64.wrap by_).toNat % n) (hjb : jb = (i + cc) % n) (hi : i < n) (hn : n ≤ 200) : Int.tmod (wrap64 ((i : Int) + wrap64 (Int.tmod (IntKind.u64.wrap by_) (n : Int)))) (n : Int) = (jb : Int) := by
  have h0 : 0 ≤ IntKind.u64.wrap by_ := by rw [IntKind.wrap_u64]; omega
  obtain ⟨U, hU⟩ : ∃ U : Nat, IntKind.u64.wrap by_ = U := ⟨(IntKind.u64.wrap by_).toNat, by omega⟩
  rw [hU] at hcc ⊢
  rw [Int.toNat_natCast] at hcc
  have hc : cc < n := by rw [hcc]; exact Nat.mod_lt _ (by omega)
  have e1 : Int.tmod (U : Int) (n : Int) = (cc : Int) := by rw [Int.tmod_eq_emod_of_nonneg (by omega), hcc]; push_cast; rfl
  rw [e1, MBits.w64 (n := (cc : Int)) (by omega) (by omega), MBits.w64 (by omega) (by omega), Int.tmod_eq_emod_of_nonneg (by omega), hjb]
  push_cast; rfl
theorem alloc_size (u : World) (o : Obj) : (u.alloc o).heap.size = u.heap.size + 1 := by first | rfl | (simp; done) | (rw [World.alloc_eq]; simp)
theorem rput_smA (ys : List S32) (f : Nat → Nat) : ∀ i, Sm i (rput ys f i)
  | 0 => aw0_sm
  | i + 1 => (rput_smA ys f i).put _ _ _
theorem rput2_smA (ys : List S32) (f : Nat → Nat) : ∀ i, Sm (i + i) (rput2 ys f i)
  | 0 => aw0_sm
  | i + 1 => (((rput2_smA ys f i).put (yAt ys (f i)).f0 (yAt ys (f i)).f1 (-1)).put (yAt ys (f i)).f0 (yAt ys (f i)).f1 (yAt ys (f i)).f2).up (by omega)
theorem inv_same_t {w0 u : World} {L : List (Nat × Tri)} {R : List Rw} (h : Inv w0 u L R) (a1 : Option Addr) (c1 : Nat) (a2 : Option Addr) (c2 : Nat) (ys : List S32) (h1 : (⟨a1, c1, ys⟩ : Rw) ∈ R) (h2 : (⟨a2, c2, ys⟩ : Rw) ∈ R) (hl : ys.length ≤ 1000000) :
    Calls Try.prog 15 #[.slice a1 ys.length c1, .slice a2 ys.length c2] u fun e u' => e = .returned (.bool true) ∧ Inv w0 u' L R :=
  (inv_same h ⟨a1, c1, ys⟩ ⟨a2, c2, ys⟩ h1 h2 hl).mono fun e u' hd => ⟨by rw [hd.1]; simp, hd.2⟩
section
variable {w0 u : World} {L : List (Nat × Tri)} {R : List Rw} {b : Nat} {t : Tri} {x z : Nat × Tri}
theorem Inv.varAt {p : Nat} {y : S32} (h : Inv w0 u L R) (hr : (⟨some ⟨p, 0, none⟩, 1, [y]⟩ : Rw) ∈ R) : u.cell? ⟨p, 0, none⟩ = some (.string y.f0) ∧ u.cell? ⟨p, 1, none⟩ = some (.int .i64 y.f1) ∧ u.cell? ⟨p, 2, none⟩ = some (.int .i64 y.f2) := by
  obtain ⟨g, hg, c0, c1, c2⟩ := h.at hr 0 (Nat.lt_succ_self 0)
  obtain rfl : p = g := by injection hg with e; injection e
  exact ⟨c0, c1, c2⟩
theorem Inv.var (h : Inv w0 u L R) (y : S32) : Inv w0 (u.alloc (.cells #[.string y.f0, .int .i64 y.f1, .int .i64 y.f2] 32)) L (⟨some ⟨u.heap.size, 0, none⟩, 1, [y]⟩ :: R) := by
  obtain ⟨a, c, hv, hc, hI⟩ := h.row (below_alloc (Below.refl _ _) _) (var_row u y)
  obtain ⟨rfl, rfl⟩ : some ⟨u.heap.size, 0, none⟩ = a ∧ 1 = c := by injection hv with e1 e2 e3; exact ⟨e1, e3⟩
  exact hI
theorem Inv.swap (h : Inv w0 u (x :: z :: L) R) : Inv w0 u (z :: x :: L) R := h.perm (List.Perm.swap _ _ _) (fun _ h => h)
theorem Inv.third {y : Nat × Tri} (h : Inv w0 u (x :: z :: y :: L) R) : Inv w0 u (y :: x :: z :: L) R := h.perm ((List.Perm.cons x (List.Perm.swap y z L)).trans (List.Perm.swap y x _)) (fun _ h => h)
theorem Inv.thirdB {y : Nat × Tri} (h : Inv w0 u (y :: x :: z :: L) R) : Inv w0 u (x :: z :: y :: L) R := h.perm ((List.Perm.swap x y _).trans (List.Perm.cons x (List.Perm.swap z y L))) (fun _ h => h)
theorem Inv.less {r : Rw} (h : Inv w0 u L (r :: R)) : Inv w0 u L R := h.perm (List.Perm.refl _) (fun r hr => List.mem_cons_of_mem _ hr)
theorem put_1 (h : Inv w0 u ((b, t) :: L) R) {s : ByteArray} {n : Int} (v : Int) (hp : OkPre s n) (hs : s.size ≤ 140737488351232) (hc : Tri.cnt t ≤ 1000000) :
    Calls Try.prog 14 #[.pointer (some ⟨b, 0, none⟩), .string s, .int .i64 n, .int .i64 v] u fun e u' => e = .returned (.int .i64 0) ∧ Inv w0 u' ((b, tput s n v t) :: L) R := by
  have := inv_put h s n v hs hc
  rw [(pcode_zero _ _).2 hp] at this
  exact this
theorem put_2 (h : Inv w0 u (x :: (b, t) :: L) R) {s : ByteArray} {n : Int} (v : Int) (hp : OkPre s n) (hs : s.size ≤ 140737488351232) (hc : Tri.cnt t ≤ 1000000) :
    Calls Try.prog 14 #[.pointer (some ⟨b, 0, none⟩), .string s, .int .i64 n, .int .i64 v] u fun e u' => e = .returned (.int .i64 0) ∧ Inv w0 u' (x :: (b, tput s n v t) :: L) R :=
  (put_1 h.swap v hp hs hc).mono fun e u' hd => ⟨hd.1, hd.2.swap⟩
theorem put_3 (h : Inv w0 u (x :: z :: (b, t) :: L) R) {s : ByteArray} {n : Int} (v : Int) (hp : OkPre s n) (hs : s.size ≤ 140737488351232) (hc : Tri.cnt t ≤ 1000000) :
    Calls Try.prog 14 #[.pointer (some ⟨b, 0, none⟩), .string s, .int .i64 n, .int .i64 v] u fun e u' => e = .returned (.int .i64 0) ∧ Inv w0 u' (x :: z :: (b, tput s n v t) :: L) R :=
  (put_1 h.third v hp hs hc).mono fun e u' hd => ⟨hd.1, hd.2.thirdB⟩
end
set_option maxHeartbeats 8000000 in
set_option maxRecDepth 100000 in
theorem rows_w (a : Option Addr) (C : Nat) (xs : List S49) (by_ : Int) (k : ByteArray) (n : Int) (w : World) (HX : Aside0 (Acts w a xs)) (hC : xs.length ≤ C) (hN : xs.length ≤ 140737488351232) (hby : (Lit.int .i64 by_).wf = true) (hk : k.size ≤ 140737488351232) :
    Calls Try.prog 4 #[.slice a xs.length C, .int .i64 by_, .string k, .int .i64 n] w fun e' w' => e' = .returned (.bool true) ∧ Below w.heap.size w w' := by
  go_enter Try.func4, Try.ntmps4
  go_wp2_with fail
  go_at_call 8
  (with_reducible refine (long_c a C xs w _ (Below.refl _ _) HX.out hC hN).mono ?_)
  rintro e' u ⟨r, rfl, hb, hr⟩
  have HB := Aside0.mk hb
  cases r with
  | true =>
    clear hb hr
    go_wp2_with fail
    go_at_call 9
    (with_reducible refine (awake_ok _).mono ?_)
    rintro e' u2 ⟨rfl, hb2⟩
    have HB2 := Aside0.mk (below_step HB.out hb2)
    clear hb2 HB
    go_wp2_with fail
    go_ret
    exact ⟨rfl, HB2.out⟩
  | false =>
    have HLN := Aside0.mk (hr rfl)
    clear hb hr
    by_cases hs : 1000 < k.size
    · have hd : decide ((k.size : Int) > 1000) = true := decide_eq_true (by omega)
      go_wp2_with fail
      go_at_call 9
      (with_reducible refine (awake_ok _).mono ?_)
      rintro e' u2 ⟨rfl, hb2⟩
      have HB2 := Aside0.mk (below_step HB.out hb2)
      clear hb2 HB
      go_wp2_with fail
      go_ret
      exact ⟨rfl, HB2.out⟩
    · have hd : decide ((k.size : Int) > 1000) = false := decide_eq_false (by omega)
      go_wp2_with fail
      go_at_call 9
      (with_reducible refine (awake_ok _).mono ?_)
      rintro e' u2 ⟨rfl, hb2⟩
      have HB2 := Aside0.mk (below_step HB.out hb2)
      clear hb2 HB
      go_wp2_with fail
      go_at_call 10
      (with_reducible refine (grown_c a C xs w _ (L := []) (R := []) ⟨(Inv.nil w).below HB2.out⟩ HX hC HLN.out.1 ⟨HLN.out.2⟩).mono ?_)
      rintro e' u3 ⟨b, rfl, h⟩
      have HA := Aside0.mk h
      have HSM := Aside0.mk (grow_sm xs)
      clear h HB2 hd
      go_wp2_with fail
      go_at_call 12
      (with_reducible refine (inv_all (x := (b, grow xs)) HA.out List.mem_cons_self HSM.out.d (HSM.out.c (by have := HLN.out.1; omega))).mono ?_)
      rintro e' u4 ⟨g, c, rfl, hc, h⟩
      clear HA
      dsimp only at hc h ⊢
      obtain ⟨ys, hys⟩ : ∃ ys, ys = items (grow xs) [] := ⟨_, rfl⟩
      obtain ⟨tr, htr⟩ : ∃ tr, tr = grow xs := ⟨_, rfl⟩
      rw [← hys, ← htr] at h
      rw [← hys] at hc ⊢
      rw [← htr] at hys
      have HL : Aside0 (ys.length ≤ 200) := ⟨by rw [hys, items_length, htr]; have := HSM.out.1; have := HLN.out.1; omega⟩
      have HT : Aside0 (depth tr ≤ 257 ∧ Tri.cnt tr ≤ 200) := ⟨by rw [htr]; exact ⟨HSM.out.2, by have := HSM.out.1; have := HLN.out.1; omega⟩⟩
      have HYS := Aside0.mk hys
      have HA := Aside0.mk h
      clear h hys htr HSM HLN
      go_wp2_with fail
      go_at_call 13
      (with_reducible refine (inv_new HA.out).mono ?_)
      rintro e' u5 ⟨bb, rfl, h⟩
      clear HA; have HA := Aside0.mk h.swap; clear h
      go_wp2_with fail
      go_at_call 13
      (with_reducible refine (inv_new HA.out).mono ?_)
      rintro e' u6 ⟨bt, rfl, h⟩
      clear HA; have HA := Aside0.mk h.thirdB; clear h
      go_wp2_with fail
      have hL := HL.out
      obtain ⟨cc, hcc⟩ : ∃ cc, cc = (IntKind.u64.wrap by_).toNat % ys.length := ⟨_, rfl⟩
      have HCC := Aside0.mk hcc
      clear hcc
      go_loopg [13] ys.length (fun d v13 wr => ∃ i : Nat, v13 = .int .i64 i ∧ Aside0 (i + d = ys.length) ∧ Aside0 (Inv w wr [(b, tr), (bb, rput ys (fun j => ys.length - 1 - j) i), (bt, rput2 ys (fun j => (j + cc) % ys.length) i)] [⟨g, c, ys⟩]))
      case atStart => exact ⟨0, rfl, ⟨by omega⟩, HA⟩
      case round =>
        clear HA
        obtain ⟨i, hv, HD, HA⟩ := hrel
        subst hv
        by_cases hi : i < ys.length
        · have HI := Aside0.mk hi
          obtain ⟨G, hg, a0, a1, a2⟩ := HA.out.at (r := ⟨g, c, ys⟩) List.mem_cons_self (ys.length - 1 - i) (by show _ < ys.length; omega)
          obtain ⟨G', hg', b0, b1, b2⟩ := HA.out.at (r := ⟨g, c, ys⟩) List.mem_cons_self ((i + cc) % ys.length) (Nat.mod_lt _ (by show 0 < ys.length; omega))
          dsimp only at hg hg' a0 a1 a2 b0 b1 b2
          subst hg
          obtain rfl : G = G' := by injection hg' with e; injection e
          clear hg'
          rw [yAt_eq] at a0 a1 a2 b0 b1 b2
          obtain ⟨ya, hya⟩ : ∃ y, y = yAt ys (ys.length - 1 - i) := ⟨_, rfl⟩
          obtain ⟨yb, hyb⟩ : ∃ y, y = yAt ys ((i + cc) % ys.length) := ⟨_, rfl⟩
          rw [← hya] at a0 a1 a2
          rw [← hyb] at b0 b1 b2
          have HYA := Aside0.mk hya
          have HYB := Aside0.mk hyb
          obtain ⟨ja, hja⟩ : ∃ j, j = ys.length - 1 - i := ⟨_, rfl⟩
          obtain ⟨jb, hjb⟩ : ∃ j, j = (i + cc) % ys.length := ⟨_, rfl⟩
          rw [← hja] at a0 a1 a2
          rw [← hjb] at b0 b1 b2
          have ea : (ys.length : Int) - 1 - (i : Int) = (ja : Int) := by omega
          have la : ja < ys.length := by omega
          have lb : jb < ys.length := by rw [hjb]; exact Nat.mod_lt _ (by omega)
          have eb : Int.tmod (wrap64 ((i : Int) + wrap64 (Int.tmod (IntKind.u64.wrap by_) (ys.length : Int)))) (ys.length : Int) = (jb : Int) := turn_ix HCC.out hjb hi hL
          clear hya hyb hja hjb
          have hu := Try.underlying32
          have d0 := bcell (below_alloc (Below.refl wr.heap.size wr) (.cells #[.string ya.f0, .int .i64 ya.f1, .int .i64 ya.f2] 32)) b0
          have d1 := bcell (below_alloc (Below.refl wr.heap.size wr) (.cells #[.string ya.f0, .int .i64 ya.f1, .int .i64 ya.f2] 32)) b1
          have d2 := bcell (below_alloc (Below.refl wr.heap.size wr) (.cells #[.string ya.f0, .int .i64 ya.f1, .int .i64 ya.f2] 32)) b2
          go_wp2_with fail
          go_at_call 14
          clear d0 d1 d2 hu
          obtain ⟨bsa, hIa⟩ : ∃ bs, It tr ya bs := item_of HT.out.1 (by rw [HYA.out, ← HYS.out]; exact yAt_mem (by omega))
          obtain ⟨bsb, hIb⟩ : ∃ bs, It tr yb bs := item_of HT.out.1 (by rw [HYB.out, ← HYS.out]; exact yAt_mem (Nat.mod_lt _ (by omega)))
          have HIA := Aside0.mk hIa
          have HIB := Aside0.mk hIb
          clear hIa hIb a0 a1 a2 b0 b1 b2
          have h := (HA.out.var ya).var yb
          rw [alloc_size] at h
          clear HA; have HA := Aside0.mk h; clear h
          (with_reducible refine (put_2 HA.out _ HIA.out.ok HIA.out.size ((rput_smA ys (fun j => ys.length - 1 - j) i).c (by omega))).mono ?_)
          rintro e' u7 ⟨rfl, h⟩
          clear HA; have HA := Aside0.mk h; clear h
          obtain ⟨c0, c1, c2⟩ := HA.out.varAt List.mem_cons_self
          go_wp2_with fail
          go_at_call 14
          (with_reducible refine (put_3 HA.out _ HIB.out.ok HIB.out.size ((rput2_smA ys (fun j => (j + cc) % ys.length) i).c (by omega))).mono ?_)
          rintro e' u8 ⟨rfl, h⟩
          clear HA c0 c1 c2; have HA := Aside0.mk h; clear h
          obtain ⟨c0, c1, c2⟩ := HA.out.varAt List.mem_cons_self
          go_wp2_with fail
          go_at_call 14
          (with_reducible refine (put_3 HA.out _ HIB.out.ok HIB.out.size (((rput2_smA ys (fun j => (j + cc) % ys.length) i).put _ _ _).c (by omega))).mono ?_)
          rintro e' u9 ⟨rfl, h⟩
          clear HA c0 c1 c2; have HA := Aside0.mk h.less.less; clear h
          go_wp2_with fail
          go_roundg (ys.length - 1 - i)
          case measure => have := HD.out; omega
          case rel => exact ⟨i + 1, by go_num, ⟨by have := HD.out; omega⟩, ⟨by have h := HA.out; rw [HYA.out, HYB.out] at h; exact h⟩⟩
        · obtain rfl : ys.length = i := by have := HD.out; omega
          have HF : Aside0 (∀ j, j < ys.length → (fun j => ys.length - 1 - j) j < ys.length) := ⟨fun j hj => by show ys.length - 1 - j < ys.length; omega⟩
          have HF2 : Aside0 (∀ j, j < ys.length → (fun j => (j + cc) % ys.length) j < ys.length) := ⟨fun j hj => Nat.mod_lt _ (by omega)⟩
          obtain ⟨tb, htb⟩ : ∃ tb, tb = rput ys (fun j => ys.length - 1 - j) ys.length := ⟨_, rfl⟩
          obtain ⟨tt, htt⟩ : ∃ tt, tt = rput2 ys (fun j => (j + cc) % ys.length) ys.length := ⟨_, rfl⟩
          have h := HA.out
          rw [← htb, ← htt] at h
          clear HA; have HA := Aside0.mk h; clear h
          have HTB : Aside0 (items tb [] = ys ∧ depth tb ≤ 1000000 ∧ Tri.cnt tb ≤ 1000000) := ⟨by
            have h1 := rput_smA ys (fun j => ys.length - 1 - j) ys.length
            rw [← htb] at h1
            have h2 : Same tb tr := by rw [htb, HYS.out]; exact rput_same HT.out.1 (by rw [← HYS.out]; exact HF.out) (by rw [← HYS.out]; exact back_on)
            exact ⟨by rw [h2.items, ← HYS.out], h1.d, h1.c (by omega)⟩⟩
          have HTT : Aside0 (items tt [] = ys ∧ depth tt ≤ 1000000 ∧ Tri.cnt tt ≤ 1000000) := ⟨by
            have h1 := rput2_smA ys (fun j => (j + cc) % ys.length) ys.length
            rw [← htt] at h1
            have h3 : Same tt tr := by
              rw [htt, HYS.out]
              have q1 := rput2_same HT.out.1 (f := fun j => (j + cc) % (items tr []).length) (by rw [← HYS.out]; exact HF2.out) _ (Nat.le_refl _)
              have q2 := rput_same HT.out.1 (f := fun j => (j + cc) % (items tr []).length) (by rw [← HYS.out]; exact HF2.out) (by rw [← HYS.out]; exact fun k hk => turn_on (by rw [HCC.out]; exact Nat.mod_lt _ (by omega)) k hk)
              exact fun x => (q1 x).trans (q2 x)
            exact ⟨by rw [h3.items, ← HYS.out], h1.d, h1.c (by omega)⟩⟩
          clear htb htt HF HF2 HCC HD hi
          go_wp2_with fail
          go_at_call 12
          (with_reducible refine (inv_all (x := (bb, tb)) HA.out (List.mem_cons_of_mem _ List.mem_cons_self) HTB.out.2.1 HTB.out.2.2).mono ?_)
          rintro e' v1 ⟨g1, c1, rfl, hc1, h⟩
          clear HA
          dsimp only at hc1 h ⊢
          rw [HTB.out.1] at hc1 h ⊢
          have HA := Aside0.mk h
          clear h
          have HQ := Aside0.mk (inv_same_t HA.out g1 c1 g c ys (by simp) (by simp) (by omega))
          go_wp2_with fail
          go_at_call 15
          (with_reducible refine HQ.out.mono ?_)
          rintro e' x1 ⟨rfl, h⟩
          clear HA HQ hc1; have HA := Aside0.mk h; clear h
          go_wp2_with fail
          go_at_call 12
          (with_reducible refine (inv_all (x := (bt, tt)) HA.out (List.mem_cons_of_mem _ (List.mem_cons_of_mem _ List.mem_cons_self)) HTT.out.2.1 HTT.out.2.2).mono ?_)
          rintro e' v2 ⟨g2, c2, rfl, hc2, h⟩
          clear HA
          dsimp only at hc2 h ⊢
          rw [HTT.out.1] at hc2 h ⊢
          have HA := Aside0.mk h
          clear h
          have HQ := Aside0.mk (inv_same_t HA.out g2 c2 g c ys (by simp) (by simp) (by omega))
          go_wp2_with fail
          go_at_call 15
          (with_reducible refine HQ.out.mono ?_)
          rintro e' x2 ⟨rfl, h⟩
          clear HA HQ hc2; have HA := Aside0.mk h; clear h
          have HG := Aside0.mk (inv_get (x := (b, tr)) HA.out List.mem_cons_self k n hk)
          cases hg : tget k n tr with
          | some vg =>
            have h1 := HG.out
            dsimp only at h1
            rw [hg] at h1
            simp only [Option.getD_some, Option.isSome_some, Option.getD_none, Option.isSome_none] at h1
            clear HG; have HG := Aside0.mk h1; clear h1
            have HGN := Aside0.mk hg
            clear hg
            go_wp2_with fail
            go_at_call 16
            (with_reducible refine HG.out.mono ?_)
            rintro e' x5 ⟨rfl, h⟩
            clear HA HG; have HA := Aside0.mk h; clear h
            obtain ⟨tz, htz⟩ : ∃ tz, tz = tr := ⟨_, rfl⟩
            have HSA : Aside0 (Same tz tr) := ⟨by rw [htz]; exact fun _ => rfl⟩
            have HSZ : Aside0 (depth tz ≤ 1000000 ∧ Tri.cnt tz ≤ 1000000) := ⟨by rw [htz]; have := HT.out; omega⟩
            have h := HA.out
            rw [← htz] at h
            clear HA; have HA := Aside0.mk h; clear h htz
            have HZ : Aside0 (items tz [] = ys ∧ Tri.cnt tz = ys.length) := ⟨by rw [HSA.out.items, HSA.out.cnt, ← HYS.out]; exact ⟨rfl, by rw [HYS.out, items_length]⟩⟩
            go_wp2_with fail
            go_at_call 12
            (with_reducible refine (inv_all (x := (b, tz)) HA.out List.mem_cons_self HSZ.out.1 HSZ.out.2).mono ?_)
            rintro e' v3 ⟨g3, c3, rfl, hc3, h⟩
            clear HA
            dsimp only at hc3 h ⊢
            rw [HZ.out.1] at hc3 h ⊢
            have HA := Aside0.mk h
            clear h
            have HQ := Aside0.mk (inv_same_t HA.out g3 c3 g c ys (by simp) (by simp) (by omega))
            go_wp2_with fail
            go_at_call 15
            (with_reducible refine HQ.out.mono ?_)
            rintro e' x3 ⟨rfl, h⟩
            clear HA HQ hc3; have HA := Aside0.mk h; clear h
            have h1 := inv_len (x := (b, tz)) HA.out List.mem_cons_self
            dsimp only at h1
            rw [HZ.out.2] at h1
            have HQ := Aside0.mk h1
            clear h1
            go_wp2_with fail
            go_at_call 18
            (with_reducible refine HQ.out.mono ?_)
            rintro e' x4 ⟨rfl, h⟩
            clear HA HQ; have HA := Aside0.mk h; clear h
            go_wp2_with fail
            go_ret
            exact ⟨rfl, HA.out.bel⟩
          | none =>
            have h1 := HG.out
            dsimp only at h1
            rw [hg] at h1
            simp only [Option.getD_some, Option.isSome_some, Option.getD_none, Option.isSome_none] at h1
            clear HG; have HG := Aside0.mk h1; clear h1
            have HGN := Aside0.mk hg
            clear hg
            go_wp2_with fail
            go_at_call 16
            (with_reducible refine HG.out.mono ?_)
            rintro e' x5 ⟨rfl, h⟩
            clear HA HG; have HA := Aside0.mk h; clear h
            have HP := Aside0.mk (inv_put HA.out k n 5 hk (by have := HT.out; omega))
            by_cases hp : OkPre k n
            · have h1 := HP.out
              rw [(pcode_zero k n).2 hp] at h1
              clear HP; have HP := Aside0.mk h1; clear h1
              have HSA : Aside0 (Same (tdel k n (tput k n 5 tr)) tr) := ⟨put_del_same 5 hp HGN.out⟩
              have HGS : Aside0 (tget k n (tput k n 5 tr) = some 5) := ⟨put_get_some 5 hp⟩
              clear hp
              go_wp2_with fail
              go_at_call 14
              (with_reducible refine HP.out.mono ?_)
              rintro e' x6 ⟨rfl, h⟩
              clear HA HP; have HA := Aside0.mk h; clear h
              have HSM : Aside0 (Sm 201 (tput k n 5 tr)) := ⟨Sm.put ⟨HT.out.2, HT.out.1⟩ k n 5⟩
              have h1 := inv_del HA.out k n hk (HSM.out.c (by omega))
              rw [HGS.out] at h1
              simp only [Option.isSome_some] at h1
              have HP := Aside0.mk h1
              clear h1
              go_wp2_with fail
              go_at_call 17
              (with_reducible refine HP.out.mono ?_)
              rintro e' x7 ⟨rfl, h⟩
              clear HA HP; have HA := Aside0.mk h; clear h
              have HSZ : Aside0 (depth (tdel k n (tput k n 5 tr)) ≤ 1000000 ∧ Tri.cnt (tdel k n (tput k n 5 tr)) ≤ 1000000) := ⟨(HSM.out.del k n).d, (HSM.out.del k n).c (by omega)⟩
              obtain ⟨tz, htz⟩ : ∃ tz, tz = tdel k n (tput k n 5 tr) := ⟨_, rfl⟩
              rw [← htz] at HSZ HSA HA
              clear htz HGS HSM
              have HZ : Aside0 (items tz [] = ys ∧ Tri.cnt tz = ys.length) := ⟨by rw [HSA.out.items, HSA.out.cnt, ← HYS.out]; exact ⟨rfl, by rw [HYS.out, items_length]⟩⟩
              go_wp2_with fail
              go_at_call 12
              (with_reducible refine (inv_all (x := (b, tz)) HA.out List.mem_cons_self HSZ.out.1 HSZ.out.2).mono ?_)
              rintro e' v3 ⟨g3, c3, rfl, hc3, h⟩
              clear HA
              dsimp only at hc3 h ⊢
              rw [HZ.out.1] at hc3 h ⊢
              have HA := Aside0.mk h
              clear h
              have HQ := Aside0.mk (inv_same_t HA.out g3 c3 g c ys (by simp) (by simp) (by omega))
              go_wp2_with fail
              go_at_call 15
              (with_reducible refine HQ.out.mono ?_)
              rintro e' x3 ⟨rfl, h⟩
              clear HA HQ hc3; have HA := Aside0.mk h; clear h
              have h1 := inv_len (x := (b, tz)) HA.out List.mem_cons_self
              dsimp only at h1
              rw [HZ.out.2] at h1
              have HQ := Aside0.mk h1
              clear h1
              go_wp2_with fail
              go_at_call 18
              (with_reducible refine HQ.out.mono ?_)
              rintro e' x4 ⟨rfl, h⟩
              clear HA HQ; have HA := Aside0.mk h; clear h
              go_wp2_with fail
              go_ret
              exact ⟨rfl, HA.out.bel⟩
            · have h1 := HP.out
              have hx : (pcode k n == 0) = false := beq_false_of_ne (fun e => hp ((pcode_zero k n).1 e))
              rw [tput_no hp] at h1
              obtain ⟨px, hpx⟩ : ∃ x, x = pcode k n := ⟨_, rfl⟩
              rw [← hpx] at h1 hx
              clear HP hp hpx; have HP := Aside0.mk h1; clear h1
              go_wp2_with fail
              go_at_call 14
              (with_reducible refine HP.out.mono ?_)
              rintro e' x6 ⟨rfl, h⟩
              clear HA HP; have HA := Aside0.mk h; clear h
              obtain ⟨tz, htz⟩ : ∃ tz, tz = tr := ⟨_, rfl⟩
              have HSA : Aside0 (Same tz tr) := ⟨by rw [htz]; exact fun _ => rfl⟩
              have HSZ : Aside0 (depth tz ≤ 1000000 ∧ Tri.cnt tz ≤ 1000000) := ⟨by rw [htz]; have := HT.out; omega⟩
              have h := HA.out
              rw [← htz] at h
              clear HA; have HA := Aside0.mk h; clear h htz
              have HZ : Aside0 (items tz [] = ys ∧ Tri.cnt tz = ys.length) := ⟨by rw [HSA.out.items, HSA.out.cnt, ← HYS.out]; exact ⟨rfl, by rw [HYS.out, items_length]⟩⟩
              go_wp2_with fail
              go_at_call 12
              (with_reducible refine (inv_all (x := (b, tz)) HA.out List.mem_cons_self HSZ.out.1 HSZ.out.2).mono ?_)
              rintro e' v3 ⟨g3, c3, rfl, hc3, h⟩
              clear HA
              dsimp only at hc3 h ⊢
              rw [HZ.out.1] at hc3 h ⊢
              have HA := Aside0.mk h
              clear h
              have HQ := Aside0.mk (inv_same_t HA.out g3 c3 g c ys (by simp) (by simp) (by omega))
              go_wp2_with fail
              go_at_call 15
              (with_reducible refine HQ.out.mono ?_)
              rintro e' x3 ⟨rfl, h⟩
              clear HA HQ hc3; have HA := Aside0.mk h; clear h
              have h1 := inv_len (x := (b, tz)) HA.out List.mem_cons_self
              dsimp only at h1
              rw [HZ.out.2] at h1
              have HQ := Aside0.mk h1
              clear h1
              go_wp2_with fail
              go_at_call 18
              (with_reducible refine HQ.out.mono ?_)
              rintro e' x4 ⟨rfl, h⟩
              clear HA HQ; have HA := Aside0.mk h; clear h
              go_wp2_with fail
              go_ret
              exact ⟨rfl, HA.out.bel⟩
theorem trieRows {H : Type} {enc : TypeId × Value → H} {base fuel : Nat} {sp : Nat → Bool} {held : Bool} (a : Option Addr) (N C : Nat) (by_ : Int) (k : ByteArray) (n : Int) (w : World) (d : DataW H × List MemPlace)
    (hN : N ≤ 140737488351232) (hby : (Lit.int .i64 by_).wf = true) (hk : k.size ≤ 140737488351232) (hn : (Lit.int .i64 n).wf = true) (h : DataW.trod enc Try.prog w base sp held fuel 22 [.slice a N C] = some d) :
    Calls Try.prog 4 #[.slice a N C, .int .i64 by_, .string k, .int .i64 n] w fun e' w' => e' = .returned (.bool true) ∧ Below w.heap.size w w' := by
  obtain ⟨hC, xs, rfl, hA⟩ := acts_of a N C w d h
  exact rows_w a C xs by_ k n w ⟨hA⟩ hC hN hby hk
end Go.Proofs.Ytpchlnbnpgaocaa.PTrie
