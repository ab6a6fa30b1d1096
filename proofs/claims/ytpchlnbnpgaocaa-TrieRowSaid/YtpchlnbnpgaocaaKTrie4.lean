/- A trie in memory: what prune and Del do. -/
import Derived.Test.YtpchlnbnpgaocaaKTrie3
namespace Go.Proofs.Ytpchlnbnpgaocaa.PTrie
open Go.Proofs.Ytpchlnbnpgaocaa.KTree Go.Proofs.Ytpchlnbnpgaocaa.KReg Go.Proofs.Ytpchlnbnpgaocaa.KBits Go.RowKit Go.Proofs.YtpchlnbnpgaocaaW.PrintWords Go.Proofs.YtpchlnbnpgaocaaW.PrintLast Go.Proofs.YtpchlnbnpgaocaaW.PrintMore
set_option linter.unusedVariables false
set_option linter.unusedSimpArgs false
def triv : Tri → Bool
  | .node .nil .nil none => true
  | _ => false
theorem trim_triv {t : Tri} (h : triv t = true) : Tri.trim t = .nil := by
  unfold triv at h; split at h
  · rfl
  · cases h
theorem trim_not {t : Tri} (h : triv t = false) : Tri.trim t = t := by
  unfold Tri.trim; split
  · cases h
  · rfl
def setkid (c : Bool) (k : Tri) : Tri → Tri
  | .nil => .nil
  | .node l r o => if c then .node l k o else .node k r o
theorem prune_cons (c : Bool) (bs : List Bool) (l r : Tri) (o : Option Int) : Tri.prune (c :: bs) (.node l r o) = setkid c (Tri.trim (Tri.prune bs (Tri.kid c (.node l r o)))) (.node l r o) := by cases c <;> rfl
def isNil : Tri → Bool
  | .nil => true
  | .node _ _ _ => false
theorem Holds.none_iff {w : World} {t : Tri} {p : Option Addr} {F : List Nat} (h : Holds w t p F) : p.isNone = isNil t := by
  cases t with
  | nil => rw [h.1]; rfl
  | node l r o => obtain ⟨g, _, _, _, _, hp, _⟩ := h; rw [hp]; rfl
theorem triv_eq {w : World} {t : Tri} {g : Nat} {F : List Nat} {p q : Option Addr} {o : Option Int} (h : Holds w t (some ⟨g, 0, none⟩) F) (hN : Nd w g p q o) : triv t = (o.isNone && (p.isNone && q.isNone)) := by
  cases t with
  | nil => exact absurd h.1 (by simp)
  | node l r o2 =>
    obtain ⟨g2, p2, q2, Fl, Fr, hp, _, hM, hL, hR⟩ := h
    cases hp
    obtain rfl : p2 = p := by have := hM.c0; rw [hN.c0] at this; cases this; rfl
    obtain rfl : q2 = q := by have := hM.c1; rw [hN.c1] at this; cases this; rfl
    have ho : o2.isSome = o.isSome := by have := hM.c2; rw [hN.c2] at this; cases o <;> cases o2 <;> simp_all
    rw [hL.none_iff, hR.none_iff]
    cases l <;> cases r <;> cases o <;> cases o2 <;> simp_all [triv, isNil]
/-- The number of prefixes is let be. -/
def K4 (w w' : World) : Prop := ∀ z, z < w.heap.size → w'.cell? ⟨z, 4, none⟩ = w.cell? ⟨z, 4, none⟩ ∧ w'.frozen? ⟨z, 4, none⟩ = w.frozen? ⟨z, 4, none⟩
theorem K4.below {a b c : World} (h : K4 a b) (hs : a.heap.size ≤ b.heap.size) (k : Below b.heap.size b c) : K4 a c := fun z hz =>
  have e := k.block z (Nat.lt_of_lt_of_le hz hs)
  ⟨(World.cell?_of_block (a := ⟨z, 4, none⟩) e).trans (h z hz).1, (World.frozen?_of_block (a := ⟨z, 4, none⟩) e).trans (h z hz).2⟩
theorem K4.trans {a b c : World} (h : K4 a b) (hs : a.heap.size ≤ b.heap.size) (k : K4 b c) : K4 a c := fun z hz =>
  ⟨(k z (Nat.lt_of_lt_of_le hz hs)).1.trans (h z hz).1, (k z (Nat.lt_of_lt_of_le hz hs)).2.trans (h z hz).2⟩
theorem K4.refl (w : World) : K4 w w := fun _ _ => ⟨rfl, rfl⟩
theorem K4.set_ {a b : World} (h : K4 a b) (g j : Nat) (hj : j < 4) (v : Value) : K4 a (b.setCell ⟨g, j, none⟩ v) := fun z hz =>
  ⟨(World.cell?_setCell_other _ _ _ _ (by intro hh; cases hh; omega)).trans (h z hz).1, by rw [World.frozen?_setCell]; exact (h z hz).2⟩
theorem Md.sub {F G : List Nat} {a b : World} (h : Md F a b) (k : ∀ z, z ∈ F → z ∈ G) : Md G a b := ⟨h.os, h.tape, h.output, h.size, fun i hi hn => h.block i hi (fun hm => hn (k i hm))⟩
theorem Md.then {F : List Nat} {a b c : World} (h : Below a.heap.size a b) (k : Md F b c) : Md F a c :=
  ⟨k.os.trans h.os, k.tape.trans h.tape, k.output.trans h.output, Nat.le_trans h.size k.size, fun i hi hn => (k.block i (Nat.lt_of_lt_of_le hi h.size) hn).trans (h.block i hi)⟩
/-- What prune leaves. -/
structure Pruned (w : World) (F : List Nat) (g : Nat) (t' : Tri) (w' : World) : Prop where
  hold : ∃ F', Holds w' t' (some ⟨g, 0, none⟩) F' ∧ F'.Nodup ∧ ∀ z, z ∈ F' → z ∈ F
  md : Md F w w'
  k4 : K4 w w'
theorem Pruned.then {a b c : World} {F : List Nat} {g : Nat} {t' : Tri} (h : Below a.heap.size a b) (k : Pruned b F g t' c) : Pruned a F g t' c :=
  ⟨k.hold, Md.then h k.md, fun z hz => ⟨(k.k4 z (Nat.lt_of_lt_of_le hz h.size)).1.trans (World.cell?_of_block (a := ⟨z, 4, none⟩) (h.block z hz)), (k.k4 z (Nat.lt_of_lt_of_le hz h.size)).2.trans (World.frozen?_of_block (a := ⟨z, 4, none⟩) (h.block z hz))⟩⟩
/-- A node's kid: what stays of the node, when it is pruned. -/
theorem kid_step {w : World} {g : Nat} {l r : Tri} {o : Option Int} {F : List Nat} {pl pr : Option Addr} (c : Bool) (h : Holds w (.node l r o) (some ⟨g, 0, none⟩) F) (nd : F.Nodup) (hN : Nd w g pl pr o) :
    ∃ Fc, Holds w (Tri.kid c (.node l r o)) (if c then pr else pl) Fc ∧ Fc.Nodup ∧
      (∀ (g1 : Nat) (k : Tri) (w2 : World), (if c then pr else pl) = some ⟨g1, 0, none⟩ → Pruned w Fc g1 k w2 →
        (triv k = false → Pruned w F g (setkid c (Tri.trim k) (.node l r o)) w2 ∧ Nd w2 g pl pr o) ∧
        (triv k = true → Pruned w F g (setkid c (Tri.trim k) (.node l r o)) (w2.setCell ⟨g, if c then 1 else 0, none⟩ (.pointer none)) ∧ Nd (w2.setCell ⟨g, if c then 1 else 0, none⟩ (.pointer none)) g (if c then pl else none) (if c then none else pr) o) ∧ Nd w2 g pl pr o) := by
  obtain ⟨g0, ql, qr, Fl, Fr, hp, hF, hM, hL, hR⟩ := h
  cases hp
  obtain rfl : ql = pl := by have := hM.c0; rw [hN.c0] at this; cases this; rfl
  obtain rfl : qr = pr := by have := hM.c1; rw [hN.c1] at this; cases this; rfl
  subst hF
  have n1 : g ∉ Fl ++ Fr := (List.nodup_cons.1 nd).1
  have nl : g ∉ Fl := fun e => n1 (List.mem_append.2 (.inl e))
  have nr : g ∉ Fr := fun e => n1 (List.mem_append.2 (.inr e))
  have n2 := List.nodup_append.1 (List.nodup_cons.1 nd).2
  have nd2 := (List.nodup_cons.1 nd).2
  cases c
  · refine ⟨Fl, hL, n2.1, fun g1 k w2 hk hP => ?_⟩
    obtain ⟨⟨F', k1, k2, k3⟩, hmd, hk4⟩ := hP
    have hk' : ql = some ⟨g1, 0, none⟩ := hk
    have hN2 : Nd w2 g ql qr o := hN.same (hmd.block g hN.lt nl)
    have hR2 : Holds w2 r qr Fr := hR.same (fun z hz => hmd.block z (hR.lt z hz) (fun e => n2.2.2 z e z hz rfl))
    have hN3 : Nd (w2.setCell ⟨g, 0, none⟩ (.pointer none)) g none qr o := ⟨by rw [set_size]; exact hN2.lt, by rw [set_cell hN2.c0]; rfl, by rw [set_cell hN2.c1]; rfl, by rw [set_cell hN2.c2]; rfl, by rw [set_cell hN2.c3]; rfl, fun i hi => by rw [World.frozen?_setCell]; exact hN2.f i hi⟩
    refine ⟨fun ht => ⟨⟨⟨g :: (F' ++ Fr), ⟨g, ql, qr, F', Fr, rfl, rfl, hN2, by rw [trim_not ht, hk']; exact k1, hR2⟩, ?_, ?_⟩, hmd.sub (fun z hz => List.mem_cons_of_mem _ (List.mem_append.2 (.inl hz))), hk4⟩, hN2⟩, fun ht => ⟨⟨⟨g :: ([] ++ Fr), ⟨g, none, qr, [], Fr, rfl, rfl, hN3, by rw [trim_triv ht]; exact ⟨rfl, rfl⟩, hR2.same (fun z hz => set_other z (hR2.lt z hz) (fun e => nr (e ▸ hz)))⟩, ?_, ?_⟩, ?_, hk4.set_ g 0 (by omega) _⟩, hN3⟩, hN2⟩
    · exact List.nodup_cons.2 ⟨fun hm => by rcases List.mem_append.1 hm with hm | hm; exact nl (k3 g hm); exact nr hm, List.nodup_append.2 ⟨k2, n2.2.1, fun a ha b hb => n2.2.2 a (k3 a ha) b hb⟩⟩
    · intro z hz
      rcases List.mem_cons.1 hz with rfl | hz
      · exact List.mem_cons_self
      · rcases List.mem_append.1 hz with hz | hz
        · exact List.mem_cons_of_mem _ (List.mem_append.2 (.inl (k3 z hz)))
        · exact List.mem_cons_of_mem _ (List.mem_append.2 (.inr hz))
    · exact List.nodup_cons.2 ⟨nr, n2.2.1⟩
    · intro z hz
      rcases List.mem_cons.1 hz with rfl | hz
      · exact List.mem_cons_self
      · exact List.mem_cons_of_mem _ (List.mem_append.2 (.inr hz))
    · exact (hmd.sub (G := g :: (Fl ++ Fr)) (fun z hz => List.mem_cons_of_mem _ (List.mem_append.2 (.inl hz)))).set_ g 0 _ (.inl List.mem_cons_self)
  · refine ⟨Fr, hR, n2.2.1, fun g1 k w2 hk hP => ?_⟩
    obtain ⟨⟨F', k1, k2, k3⟩, hmd, hk4⟩ := hP
    have hk' : qr = some ⟨g1, 0, none⟩ := hk
    have hN2 : Nd w2 g ql qr o := hN.same (hmd.block g hN.lt nr)
    have hL2 : Holds w2 l ql Fl := hL.same (fun z hz => hmd.block z (hL.lt z hz) (fun e => n2.2.2 z hz z e rfl))
    have hN3 : Nd (w2.setCell ⟨g, 1, none⟩ (.pointer none)) g ql none o := ⟨by rw [set_size]; exact hN2.lt, by rw [set_cell hN2.c0]; rfl, by rw [set_cell hN2.c1]; rfl, by rw [set_cell hN2.c2]; rfl, by rw [set_cell hN2.c3]; rfl, fun i hi => by rw [World.frozen?_setCell]; exact hN2.f i hi⟩
    refine ⟨fun ht => ⟨⟨⟨g :: (Fl ++ F'), ⟨g, ql, qr, Fl, F', rfl, rfl, hN2, hL2, by rw [trim_not ht, hk']; exact k1⟩, ?_, ?_⟩, hmd.sub (fun z hz => List.mem_cons_of_mem _ (List.mem_append.2 (.inr hz))), hk4⟩, hN2⟩, fun ht => ⟨⟨⟨g :: (Fl ++ []), ⟨g, ql, none, Fl, [], rfl, rfl, hN3, hL2.same (fun z hz => set_other z (hL2.lt z hz) (fun e => nl (e ▸ hz))), by rw [trim_triv ht]; exact ⟨rfl, rfl⟩⟩, ?_, ?_⟩, ?_, hk4.set_ g 1 (by omega) _⟩, hN3⟩, hN2⟩
    · exact List.nodup_cons.2 ⟨fun hm => by rcases List.mem_append.1 hm with hm | hm; exact nl hm; exact nr (k3 g hm), List.nodup_append.2 ⟨n2.1, k2, fun a ha b hb => n2.2.2 a ha b (k3 b hb)⟩⟩
    · intro z hz
      rcases List.mem_cons.1 hz with rfl | hz
      · exact List.mem_cons_self
      · rcases List.mem_append.1 hz with hz | hz
        · exact List.mem_cons_of_mem _ (List.mem_append.2 (.inl hz))
        · exact List.mem_cons_of_mem _ (List.mem_append.2 (.inr (k3 z hz)))
    · rw [List.append_nil]; exact List.nodup_cons.2 ⟨nl, n2.1⟩
    · intro z hz
      rw [List.append_nil] at hz
      rcases List.mem_cons.1 hz with rfl | hz
      · exact List.mem_cons_self
      · exact List.mem_cons_of_mem _ (List.mem_append.2 (.inl hz))
    · exact (hmd.sub (G := g :: (Fl ++ Fr)) (fun z hz => List.mem_cons_of_mem _ (List.mem_append.2 (.inr hz)))).set_ g 1 _ (.inl List.mem_cons_self)
theorem eq52 (p q : Option Addr) (w : World) : Sem.run Try.prog (Op.equalIn 10000 52 (Value.agg #[.pointer p, .pointer q]) (Value.agg #[.pointer none, .pointer none])) w = .ok (p.isNone && q.isNone) w := by
  cases p <;> cases q <;> kernel_rfl
attribute [local go_sem] eq52
theorem kid_ptr {w : World} {g : Nat} {l r : Tri} {o : Option Int} {F : List Nat} {pl pr : Option Addr} {c : Bool} (h : Holds w (.node l r o) (some ⟨g, 0, none⟩) F) (hN : Nd w g pl pr o) (hne : Tri.kid c (.node l r o) ≠ .nil) : ∃ g1, (if c then pr else pl) = some ⟨g1, 0, none⟩ := by
  obtain ⟨g0, ql, qr, Fl, Fr, hp, hF, hM, hL, hR⟩ := h
  cases hp
  obtain rfl : ql = pl := by have := hM.c0; rw [hN.c0] at this; cases this; rfl
  obtain rfl : qr = pr := by have := hM.c1; rw [hN.c1] at this; cases this; rfl
  have hk : Holds w (Tri.kid c (.node l r o)) (if c then qr else ql) (if c then Fr else Fl) := by cases c; exact hL; exact hR
  cases hc : Tri.kid c (.node l r o) with
  | nil => exact absurd hc hne
  | node a b d =>
    rw [hc] at hk
    obtain ⟨g1, _, _, _, _, hp, _⟩ := hk
    exact ⟨g1, hp⟩
set_option maxHeartbeats 8000000 in
set_option maxRecDepth 100000 in
theorem prune_ok (s : ByteArray) (n : Nat) (hn : n ≤ 8 * s.size) (hs : s.size ≤ 140737488351232) : ∀ (d i : Nat) (iz : Int) (t : Tri) (g : Nat) (F : List Nat) (w : World), iz = i → i + d = n → Holds w t (some ⟨g, 0, none⟩) F → F.Nodup → sub ((kbits s.data.toList n).drop i) t ≠ .nil →
    Calls Try.prog 28 #[.pointer (some ⟨g, 0, none⟩), .string s, .int .i64 iz, .int .i64 n] w fun e w' => e = .returned (.bool (triv (Tri.prune ((kbits s.data.toList n).drop i) t))) ∧ Pruned w F g (Tri.prune ((kbits s.data.toList n).drop i) t) w' := by
  intro d
  have hn1 : (n : Int) ≤ 1125899906809856 := by omega
  have HZ := Aside0.mk hs
  have HF := Aside0.mk hn
  clear hn hs
  induction d with
  | zero =>
    intro i iz t g F w hiz hd hH hnd hsub
    subst hiz
    have hi : i = n := by omega
    subst hi
    have hdr : (kbits s.data.toList i).drop i = [] := by rw [List.drop_eq_nil_iff, bits_length]; omega
    rw [hdr] at hsub ⊢
    cases t with
    | nil => exact absurd rfl hsub
    | node l r o =>
      obtain ⟨pl, pr, hN⟩ : ∃ pl pr, Nd w g pl pr o := by
        obtain ⟨g2, pl, pr, _, _, hp, _, hN, _, _⟩ := hH
        cases hp; exact ⟨pl, pr, hN⟩
      have HT := Aside0.mk (triv_eq hH hN)
      have HH := Aside0.mk (Pruned.mk ⟨F, hH, hnd, fun z hz => hz⟩ (Md.refl F w) (K4.refl w) : Pruned w F g (.node l r o) w)
      have hpr : Tri.prune [] (.node l r o) = .node l r o := rfl
      rw [hpr, HT.out]
      have c0 := hN.c0
      have c1 := hN.c1
      have c2 := hN.c2
      have cl := hN.lt
      clear hH hnd hsub HT hpr hdr hN hd
      go_enter Try.func28, Try.ntmps28
      cases o with
      | some x =>
        go_wp2_with fail
        go_ret
        exact ⟨rfl, HH.out⟩
      | none =>
        go_wp2_with fail
        go_ret
        exact ⟨rfl, HH.out⟩
  | succ d ih =>
    intro i iz t g F w hiz hd hH hnd hsub
    subst hiz
    have hkl : i < (kbits s.data.toList n).length := by rw [bits_length]; omega
    have hkb : (kbits s.data.toList n)[i] = tb s i := by simp [kbits, tb]
    rw [List.drop_eq_getElem_cons hkl, hkb] at hsub ⊢
    have HI := Aside0.mk (show i < 8 * s.size by have := HF.out; omega)
    cases t with
    | nil => exact absurd (sub_nil _) hsub
    | node l r o =>
      obtain ⟨pl, pr, hN⟩ : ∃ pl pr, Nd w g pl pr o := by
        obtain ⟨g2, pl, pr, _, _, hp, _, hN, _, _⟩ := hH
        cases hp; exact ⟨pl, pr, hN⟩
      rw [prune_cons]
      have hlt : (i : Int) < n := by omega
      have HH := Aside0.mk hH
      have HN := Aside0.mk hN
      have ND := Aside0.mk hnd
      have HS := Aside0.mk hsub
      clear hH hN hnd hsub hkb hkl
      have HD := Aside0.mk hd
      clear hd
      cases hb : tb s i
      · obtain ⟨g1, rfl⟩ : ∃ g1, pl = some ⟨g1, 0, none⟩ := by
          have h0 := HS.out
          rw [hb] at h0
          exact kid_ptr (c := false) HH.out HN.out (fun e => h0 (by rw [show sub (false :: (kbits s.data.toList n).drop (i + 1)) (.node l r o) = sub ((kbits s.data.toList n).drop (i + 1)) (Tri.kid false (.node l r o)) from rfl, e]; exact sub_nil _))
        have HSK : Aside0 (sub ((kbits s.data.toList n).drop (i + 1)) (Tri.kid false (.node l r o)) ≠ .nil) := ⟨by have h0 := HS.out; rw [hb] at h0; exact h0⟩
        go_enter Try.func28, Try.ntmps28
        go_wp2_with fail
        refine wp_region_any (by kernel_rfl) ?_
        change wpAny _ _ _ _ _ _ _ (World.drew _)
        refine any_var (fun A hA => ?_)
        have s0 : A.eval (.tmp 0) = Value.pointer (some ⟨g, 0, none⟩) := by rw [hA]; rfl
        have s1 : A.eval (.tmp 1) = Value.string s := by rw [hA]; rfl
        have s2 : A.eval (.tmp 2) = Value.int .i64 (i : Int) := by rw [hA]; rfl
        haveI HFr : Fr 43 A := ⟨by rw [hA]; exact Nat.le_refl _⟩
        have HAA := Aside0.mk hA
        clear hA
        refine reg_pure 0 (some 13) (v := Value.pointer (some ⟨g, 0, none⟩)) rfl (by kernel_rfl) (by kernel_rfl) (by kernel_rfl) rfl (fun _ _ _ h => h) (wanted_none rfl) (ro_move (.inl rfl) s0) ?_
        refine reg_pure 1 (some 14) (v := Value.string s) rfl (by kernel_rfl) (by kernel_rfl) (by kernel_rfl) rfl (fun _ _ _ h => h) (wanted_none rfl) (ro_move (.inl rfl) (ev_ne (by decide) s1)) ?_
        refine reg_pure 2 (some 15) (v := Value.int .i64 (i : Int)) rfl (by kernel_rfl) (by kernel_rfl) (by kernel_rfl) rfl (fun _ _ _ h => h) (wanted_none rfl) (ro_move (.inl rfl) (ev_ne (by decide) (ev_ne (by decide) s2))) ?_
        refine reg_pure 4 (some 17) (v := Value.pointer (some ⟨g, 0, none⟩)) rfl (by kernel_rfl) (by kernel_rfl) (by kernel_rfl) rfl (fun _ _ _ h => h) (wanted_none rfl) (ro_nil rfl (ev_ne (by decide) (ev_ne (by decide) (ev_eq (by decide))))) ?_
        refine reg_pure 5 (some 18) (v := Value.pointer (some ⟨g, 0, none⟩)) rfl (by kernel_rfl) (by kernel_rfl) (by kernel_rfl) rfl (fun _ _ _ h => h) (wanted_none rfl) (ro_field rfl (ev_eq (by decide)) (fun w => by go_simp)) ?_
        refine wpAny_ready (rs := [3]) (by kernel_rfl) (by simp) ?_
        refine br_call 3 (some 16) 24 #[Value.string s, Value.int .i64 (i : Int)] rfl rfl (wanted_none rfl) rfl (map2 (ev_ne (by decide) (ev_ne (by decide) (ev_ne (by decide) (ev_eq (by decide))))) (ev_ne (by decide) (ev_ne (by decide) (ev_eq (by decide))))) (fun args w => by kernel_rfl) (bit_v s i HI.out HZ.out _ 0 (by rw [hb]; rfl)) ?_ ?_
        · rintro e u2 ⟨rfl, hb2⟩
          have hb3 := below_step (pw_below_drewN (Below.refl w.heap.size w) 1) hb2
          obtain ⟨Fc, hHc, hNc, hstep⟩ := kid_step false (HH.out.below hb3) ND.out (HN.out.same (hb3.block g HN.out.lt))
          have HB3 := Aside0.mk hb3
          have HN2 := Aside0.mk (HN.out.same (hb3.block g HN.out.lt))
          have HHC : Aside0 (Holds u2 (Tri.kid false (.node l r o)) (some ⟨g1, 0, none⟩) Fc) := ⟨hHc⟩
          have HNC := Aside0.mk hNc
          have HST := Aside0.mk hstep
          have cc := HN2.out.c0
          have cl := HN2.out.lt
          clear hb2 hb3 hHc hNc hstep
          refine ⟨_, rfl, ?_⟩
          refine reg_pure 6 (some 19) (v := Value.pointer (some ⟨g, 0, none⟩)) rfl (by kernel_rfl) (by kernel_rfl) (by kernel_rfl) rfl (fun _ _ _ h => h) (wanted_none rfl) (ro_iaddr rfl (ev_ne (by decide) (ev_eq (by decide))) (ev_eq (by decide)) (fun w => by go_simp)) ?_
          refine reg_pure 7 (some 9) (v := Value.pointer (some ⟨g, 0, none⟩)) rfl (by kernel_rfl) (by kernel_rfl) (by kernel_rfl) rfl (fun _ _ _ h => h) (wanted_none rfl) (ro_move (.inr rfl) (ev_eq (by decide))) ?_
          refine reg_done (by kernel_rfl) ?_
          have hA := HAA.out
          subst hA
          simp only [Act.put, List.setIfInBounds_toArray, List.set_cons_zero, List.set_cons_succ]
          clear HAA HFr s0 s1 s2
          go_wp2_with fail
          clear cc cl
          go_at_call 28
          (with_reducible refine (ih (i + 1) _ (Tri.kid false (.node l r o)) g1 Fc u2 (by omega) (by have := HD.out; omega) HHC.out HNC.out HSK.out).mono ?_)
          rintro e w2 ⟨rfl, hP⟩
          obtain ⟨h1, h2, hN2⟩ := HST.out g1 _ w2 rfl hP
          cases ht : triv (Tri.prune ((kbits s.data.toList n).drop (i + 1)) (Tri.kid false (.node l r o)))
          · obtain ⟨hp, hn⟩ := h1 ht
            obtain ⟨F2, q1, _⟩ := hp.hold
            have HT := Aside0.mk (triv_eq q1 hn)
            have HP := Aside0.mk (hp.then HB3.out)
            have c0 := hN2.c0
            have c1 := hN2.c1
            have c2 := hN2.c2
            have cl := hN2.lt
            clear hp hn q1 h1 h2 hP hN2 ht
            cases o with
            | some x =>
              go_wp2_with fail
              go_ret
              exact ⟨by rw [HT.out]; first | rfl | simp, HP.out⟩
            | none =>
              go_wp2_with fail
              go_ret
              exact ⟨by rw [HT.out]; first | rfl | simp, HP.out⟩
          · obtain ⟨hp, hn⟩ := h2 ht
            obtain ⟨F2, q1, _⟩ := hp.hold
            have HT := Aside0.mk (triv_eq q1 hn)
            have HP := Aside0.mk (hp.then HB3.out)
            have c0 := hN2.c0
            have c1 := hN2.c1
            have c2 := hN2.c2
            have cl := hN2.lt
            have cf := hN2.f 0 (by omega)
            clear hp hn q1 h1 h2 hP hN2 ht
            cases o with
            | some x =>
              go_wp2_with fail
              go_ret
              exact ⟨by rw [HT.out]; first | rfl | simp, HP.out⟩
            | none =>
              go_wp2_with fail
              go_ret
              exact ⟨by rw [HT.out]; first | rfl | simp, HP.out⟩
        exact AllReady.nil
      · obtain ⟨g1, rfl⟩ : ∃ g1, pr = some ⟨g1, 0, none⟩ := by
          have h0 := HS.out
          rw [hb] at h0
          exact kid_ptr (c := true) HH.out HN.out (fun e => h0 (by rw [show sub (true :: (kbits s.data.toList n).drop (i + 1)) (.node l r o) = sub ((kbits s.data.toList n).drop (i + 1)) (Tri.kid true (.node l r o)) from rfl, e]; exact sub_nil _))
        have HSK : Aside0 (sub ((kbits s.data.toList n).drop (i + 1)) (Tri.kid true (.node l r o)) ≠ .nil) := ⟨by have h0 := HS.out; rw [hb] at h0; exact h0⟩
        go_enter Try.func28, Try.ntmps28
        go_wp2_with fail
        refine wp_region_any (by kernel_rfl) ?_
        change wpAny _ _ _ _ _ _ _ (World.drew _)
        refine any_var (fun A hA => ?_)
        have s0 : A.eval (.tmp 0) = Value.pointer (some ⟨g, 0, none⟩) := by rw [hA]; rfl
        have s1 : A.eval (.tmp 1) = Value.string s := by rw [hA]; rfl
        have s2 : A.eval (.tmp 2) = Value.int .i64 (i : Int) := by rw [hA]; rfl
        haveI HFr : Fr 43 A := ⟨by rw [hA]; exact Nat.le_refl _⟩
        have HAA := Aside0.mk hA
        clear hA
        refine reg_pure 0 (some 13) (v := Value.pointer (some ⟨g, 0, none⟩)) rfl (by kernel_rfl) (by kernel_rfl) (by kernel_rfl) rfl (fun _ _ _ h => h) (wanted_none rfl) (ro_move (.inl rfl) s0) ?_
        refine reg_pure 1 (some 14) (v := Value.string s) rfl (by kernel_rfl) (by kernel_rfl) (by kernel_rfl) rfl (fun _ _ _ h => h) (wanted_none rfl) (ro_move (.inl rfl) (ev_ne (by decide) s1)) ?_
        refine reg_pure 2 (some 15) (v := Value.int .i64 (i : Int)) rfl (by kernel_rfl) (by kernel_rfl) (by kernel_rfl) rfl (fun _ _ _ h => h) (wanted_none rfl) (ro_move (.inl rfl) (ev_ne (by decide) (ev_ne (by decide) s2))) ?_
        refine reg_pure 4 (some 17) (v := Value.pointer (some ⟨g, 0, none⟩)) rfl (by kernel_rfl) (by kernel_rfl) (by kernel_rfl) rfl (fun _ _ _ h => h) (wanted_none rfl) (ro_nil rfl (ev_ne (by decide) (ev_ne (by decide) (ev_eq (by decide))))) ?_
        refine reg_pure 5 (some 18) (v := Value.pointer (some ⟨g, 0, none⟩)) rfl (by kernel_rfl) (by kernel_rfl) (by kernel_rfl) rfl (fun _ _ _ h => h) (wanted_none rfl) (ro_field rfl (ev_eq (by decide)) (fun w => by go_simp)) ?_
        refine wpAny_ready (rs := [3]) (by kernel_rfl) (by simp) ?_
        refine br_call 3 (some 16) 24 #[Value.string s, Value.int .i64 (i : Int)] rfl rfl (wanted_none rfl) rfl (map2 (ev_ne (by decide) (ev_ne (by decide) (ev_ne (by decide) (ev_eq (by decide))))) (ev_ne (by decide) (ev_ne (by decide) (ev_eq (by decide))))) (fun args w => by kernel_rfl) (bit_v s i HI.out HZ.out _ 1 (by rw [hb]; rfl)) ?_ ?_
        · rintro e u2 ⟨rfl, hb2⟩
          have hb3 := below_step (pw_below_drewN (Below.refl w.heap.size w) 1) hb2
          obtain ⟨Fc, hHc, hNc, hstep⟩ := kid_step true (HH.out.below hb3) ND.out (HN.out.same (hb3.block g HN.out.lt))
          have HB3 := Aside0.mk hb3
          have HN2 := Aside0.mk (HN.out.same (hb3.block g HN.out.lt))
          have HHC : Aside0 (Holds u2 (Tri.kid true (.node l r o)) (some ⟨g1, 0, none⟩) Fc) := ⟨hHc⟩
          have HNC := Aside0.mk hNc
          have HST := Aside0.mk hstep
          have cc := HN2.out.c1
          have cl := HN2.out.lt
          clear hb2 hb3 hHc hNc hstep
          refine ⟨_, rfl, ?_⟩
          refine reg_pure 6 (some 19) (v := Value.pointer (some ⟨g, 1, none⟩)) rfl (by kernel_rfl) (by kernel_rfl) (by kernel_rfl) rfl (fun _ _ _ h => h) (wanted_none rfl) (ro_iaddr rfl (ev_ne (by decide) (ev_eq (by decide))) (ev_eq (by decide)) (fun w => by go_simp)) ?_
          refine reg_pure 7 (some 9) (v := Value.pointer (some ⟨g, 1, none⟩)) rfl (by kernel_rfl) (by kernel_rfl) (by kernel_rfl) rfl (fun _ _ _ h => h) (wanted_none rfl) (ro_move (.inr rfl) (ev_eq (by decide))) ?_
          refine reg_done (by kernel_rfl) ?_
          have hA := HAA.out
          subst hA
          simp only [Act.put, List.setIfInBounds_toArray, List.set_cons_zero, List.set_cons_succ]
          clear HAA HFr s0 s1 s2
          go_wp2_with fail
          clear cc cl
          go_at_call 28
          (with_reducible refine (ih (i + 1) _ (Tri.kid true (.node l r o)) g1 Fc u2 (by omega) (by have := HD.out; omega) HHC.out HNC.out HSK.out).mono ?_)
          rintro e w2 ⟨rfl, hP⟩
          obtain ⟨h1, h2, hN2⟩ := HST.out g1 _ w2 rfl hP
          cases ht : triv (Tri.prune ((kbits s.data.toList n).drop (i + 1)) (Tri.kid true (.node l r o)))
          · obtain ⟨hp, hn⟩ := h1 ht
            obtain ⟨F2, q1, _⟩ := hp.hold
            have HT := Aside0.mk (triv_eq q1 hn)
            have HP := Aside0.mk (hp.then HB3.out)
            have c0 := hN2.c0
            have c1 := hN2.c1
            have c2 := hN2.c2
            have cl := hN2.lt
            clear hp hn q1 h1 h2 hP hN2 ht
            cases o with
            | some x =>
              go_wp2_with fail
              go_ret
              exact ⟨by rw [HT.out]; first | rfl | simp, HP.out⟩
            | none =>
              go_wp2_with fail
              go_ret
              exact ⟨by rw [HT.out]; first | rfl | simp, HP.out⟩
          · obtain ⟨hp, hn⟩ := h2 ht
            obtain ⟨F2, q1, _⟩ := hp.hold
            have HT := Aside0.mk (triv_eq q1 hn)
            have HP := Aside0.mk (hp.then HB3.out)
            have c0 := hN2.c0
            have c1 := hN2.c1
            have c2 := hN2.c2
            have cl := hN2.lt
            have cf := hN2.f 1 (by omega)
            clear hp hn q1 h1 h2 hP hN2 ht
            cases o with
            | some x =>
              go_wp2_with fail
              go_ret
              exact ⟨by rw [HT.out]; first | rfl | simp, HP.out⟩
            | none =>
              go_wp2_with fail
              go_ret
              exact ⟨by rw [HT.out]; first | rfl | simp, HP.out⟩
        exact AllReady.nil

end Go.Proofs.Ytpchlnbnpgaocaa.PTrie
