/- A trie in memory: what New and at do. -/
import Derived.Test.YtpchlnbnpgaocaaKTrie0
namespace Go.Proofs.Ytpchlnbnpgaocaa.PTrie
open Go.Proofs.Ytpchlnbnpgaocaa.KTree Go.Proofs.Ytpchlnbnpgaocaa.KReg Go.Proofs.Ytpchlnbnpgaocaa.KBits Go.RowKit Go.Proofs.YtpchlnbnpgaocaaW.PrintWords Go.Proofs.YtpchlnbnpgaocaaW.PrintLast Go.Proofs.YtpchlnbnpgaocaaW.PrintMore
set_option linter.unusedVariables false
set_option linter.unusedSimpArgs false
/-- A node's four cells in block b. -/
structure Nd (w : World) (b : Nat) (l r : Option Addr) (o : Option Int) : Prop where
  lt : b < w.heap.size
  c0 : w.cell? ⟨b, 0, none⟩ = some (.pointer l)
  c1 : w.cell? ⟨b, 1, none⟩ = some (.pointer r)
  c2 : w.cell? ⟨b, 2, none⟩ = some (.bool o.isSome)
  c3 : w.cell? ⟨b, 3, none⟩ = some (.int .i64 (o.getD 0))
  f : ∀ i, i < 4 → w.frozen? ⟨b, i, none⟩ = false
theorem Nd.same {w w' : World} {b : Nat} {l r : Option Addr} {o : Option Int} (h : Nd w b l r o) (e : w'.heap[b]? = w.heap[b]?) : Nd w' b l r o := by
  have hc : ∀ j, w'.cell? ⟨b, j, none⟩ = w.cell? ⟨b, j, none⟩ := fun j => World.cell?_of_block (a := ⟨b, j, none⟩) e
  have hf : ∀ j, w'.frozen? ⟨b, j, none⟩ = w.frozen? ⟨b, j, none⟩ := fun j => World.frozen?_of_block (a := ⟨b, j, none⟩) e
  refine ⟨?_, (hc 0).trans h.c0, (hc 1).trans h.c1, (hc 2).trans h.c2, (hc 3).trans h.c3, fun i hi => (hf i).trans (h.f i hi)⟩
  have h1 := Array.getElem?_eq_getElem h.lt
  rw [← e] at h1
  exact (Array.getElem?_eq_some_iff.1 h1).1
/-- The tree lies at the pointer p; its nodes are the blocks F. -/
def Holds (w : World) : Tri → Option Addr → List Nat → Prop
  | .nil, p, F => p = none ∧ F = []
  | .node l r o, p, F => ∃ b pl pr Fl Fr, p = some ⟨b, 0, none⟩ ∧ F = b :: (Fl ++ Fr) ∧ Nd w b pl pr o ∧ Holds w l pl Fl ∧ Holds w r pr Fr
theorem Holds.same {w w' : World} : ∀ {t : Tri} {p : Option Addr} {F : List Nat}, Holds w t p F → (∀ b, b ∈ F → w'.heap[b]? = w.heap[b]?) → Holds w' t p F
  | .nil, _, _, h, _ => h
  | .node l r o, _, _, ⟨b, pl, pr, Fl, Fr, hp, hF, hn, hl, hr⟩, e => by
    subst hF
    exact ⟨b, pl, pr, Fl, Fr, hp, rfl, hn.same (e b List.mem_cons_self), Holds.same hl (fun z hz => e z (by simp [hz])), Holds.same hr (fun z hz => e z (by simp [hz]))⟩
theorem Holds.lt {w : World} : ∀ {t : Tri} {p : Option Addr} {F : List Nat}, Holds w t p F → ∀ b, b ∈ F → b < w.heap.size
  | .nil, _, _, h, b, hb => by rw [h.2] at hb; cases hb
  | .node l r o, _, _, ⟨b0, pl, pr, Fl, Fr, hp, hF, hn, hl, hr⟩, b, hb => by
    subst hF
    rcases List.mem_cons.1 hb with rfl | hb
    · exact hn.lt
    · rcases List.mem_append.1 hb with hb | hb
      · exact Holds.lt hl b hb
      · exact Holds.lt hr b hb
theorem Holds.below {w w' : World} {t : Tri} {p : Option Addr} {F : List Nat} (h : Holds w t p F) (hb : Below w.heap.size w w') : Holds w' t p F := h.same (fun b hm => hb.block b (h.lt b hm))
/-- The subtree behind bits. -/
def sub : List Bool → Tri → Tri
  | [], t => t
  | b :: bs, t => sub bs (t.kid b)
theorem sub_nil : ∀ bs, sub bs .nil = .nil
  | [] => rfl
  | b :: bs => by cases b <;> exact sub_nil bs
theorem sub_append : ∀ (bs cs : List Bool) (t : Tri), sub (bs ++ cs) t = sub cs (sub bs t)
  | [], _, _ => rfl
  | b :: bs, cs, t => sub_append bs cs (t.kid b)
theorem get_sub : ∀ (bs : List Bool) (t : Tri), Tri.get bs t = (sub bs t).val
  | [], _ => rfl
  | b :: bs, t => get_sub bs (t.kid b)
/-- The pointer that bits lead to. -/
def Loc (w : World) : List Bool → Tri → Option Addr → Option Addr → Prop
  | [], _, p, x => x = p
  | _ :: _, .nil, _, x => x = none
  | b :: bs, .node l r o, p, x => ∃ g pl pr, p = some ⟨g, 0, none⟩ ∧ w.cell? ⟨g, 0, none⟩ = some (.pointer pl) ∧ w.cell? ⟨g, 1, none⟩ = some (.pointer pr) ∧ Loc w bs (Tri.kid b (.node l r o)) (if b then pr else pl) x
/-- Pieces of a node. -/
theorem Holds.kid {w : World} {l r : Tri} {o : Option Int} {p : Option Addr} {F : List Nat} (h : Holds w (.node l r o) p F) (b : Bool) :
    ∃ g pl pr Fx, p = some ⟨g, 0, none⟩ ∧ g ∈ F ∧ Nd w g pl pr o ∧ Holds w (Tri.kid b (.node l r o)) (if b then pr else pl) Fx ∧ ∀ z, z ∈ Fx → z ∈ F := by
  obtain ⟨g, pl, pr, Fl, Fr, hp, hF, hn, hl, hr⟩ := h
  subst hF
  cases b
  · exact ⟨g, pl, pr, Fl, hp, List.mem_cons_self, hn, hl, fun z hz => by simp [hz]⟩
  · exact ⟨g, pl, pr, Fr, hp, List.mem_cons_self, hn, hr, fun z hz => by simp [hz]⟩
theorem Loc.snoc {w : World} (b : Bool) : ∀ (bs : List Bool) (t : Tri) (p : Option Addr) (F : List Nat) (g : Nat) (pl pr : Option Addr) (o : Option Int), Holds w t p F → Loc w bs t p (some ⟨g, 0, none⟩) → Nd w g pl pr o →
    Loc w (bs ++ [b]) t p (if b then pr else pl)
  | [], .nil, p, F, g, pl, pr, o, h, hl, hn => by rw [h.1] at hl; cases hl
  | [], .node l r o', p, F, g, pl, pr, o, h, hl, hn => ⟨g, pl, pr, hl.symm, hn.c0, hn.c1, rfl⟩
  | c :: bs, .nil, p, F, g, pl, pr, o, h, hl, hn => by cases hl
  | c :: bs, .node l r o', p, F, g, pl, pr, o, h, hl, hn => by
    obtain ⟨g', pl', pr', Fx, hp, _, hn', hk, _⟩ := h.kid c
    obtain ⟨g2, pl2, pr2, hp2, hc0, hc1, hl2⟩ := hl
    obtain rfl : g2 = g' := by rw [hp] at hp2; cases hp2; rfl
    obtain rfl : pl2 = pl' := by rw [hn'.c0] at hc0; cases hc0; rfl
    obtain rfl : pr2 = pr' := by rw [hn'.c1] at hc1; cases hc1; rfl
    exact ⟨g2, pl2, pr2, hp, hc0, hc1, Loc.snoc b bs _ _ Fx g pl pr o hk hl2 hn⟩
theorem Loc.none {w : World} : ∀ (bs cs : List Bool) (t : Tri) (p : Option Addr) (F : List Nat), Holds w t p F → Loc w bs t p none → Loc w (bs ++ cs) t p none
  | [], [], t, p, F, h, hl => hl
  | [], c :: cs, .nil, p, F, h, hl => rfl
  | [], c :: cs, .node l r o, p, F, h, hl => by obtain ⟨g, _, _, _, _, hp, _⟩ := h; rw [hp] at hl; cases hl
  | b :: bs, cs, .nil, p, F, h, hl => rfl
  | b :: bs, cs, .node l r o, p, F, h, hl => by
    obtain ⟨g', pl', pr', Fx, hp, _, hn', hk, _⟩ := h.kid b
    obtain ⟨g2, pl2, pr2, hp2, hc0, hc1, hl2⟩ := hl
    obtain rfl : g2 = g' := by rw [hp] at hp2; cases hp2; rfl
    obtain rfl : pl2 = pl' := by rw [hn'.c0] at hc0; cases hc0; rfl
    obtain rfl : pr2 = pr' := by rw [hn'.c1] at hc1; cases hc1; rfl
    exact ⟨g2, pl2, pr2, hp, hc0, hc1, Loc.none bs cs _ _ Fx hk hl2⟩
theorem Loc.below {w w' : World} : ∀ (bs : List Bool) (t : Tri) (p x : Option Addr) (F : List Nat), Holds w t p F → Below w.heap.size w w' → Loc w bs t p x → Loc w' bs t p x
  | [], _, _, _, _, _, _, hl => hl
  | b :: bs, .nil, _, _, _, _, _, hl => hl
  | b :: bs, .node l r o, p, x, F, h, hb, hl => by
    obtain ⟨g', pl', pr', Fx, hp, _, hn', hk, _⟩ := h.kid b
    obtain ⟨g2, pl2, pr2, hp2, hc0, hc1, hl2⟩ := hl
    obtain rfl : g2 = g' := by rw [hp] at hp2; cases hp2; rfl
    obtain rfl : pl2 = pl' := by rw [hn'.c0] at hc0; cases hc0; rfl
    obtain rfl : pr2 = pr' := by rw [hn'.c1] at hc1; cases hc1; rfl
    have hn2 := hn'.same (hb.block g2 hn'.lt)
    exact ⟨g2, pl2, pr2, hp, hn2.c0, hn2.c1, Loc.below bs _ _ x Fx hk hb hl2⟩
theorem Holds.sub {w : World} : ∀ (bs : List Bool) (t : Tri) (p x : Option Addr) (F : List Nat), Holds w t p F → Loc w bs t p x → ∃ Fx, Holds w (sub bs t) x Fx ∧ ∀ z, z ∈ Fx → z ∈ F
  | [], t, p, x, F, h, hl => ⟨F, by rw [show x = p from hl]; exact h, fun z hz => hz⟩
  | b :: bs, .nil, p, x, F, h, hl => ⟨[], by rw [show x = none from hl, sub_nil]; exact ⟨rfl, rfl⟩, fun z hz => by cases hz⟩
  | b :: bs, .node l r o, p, x, F, h, hl => by
    obtain ⟨g', pl', pr', Fx, hp, _, hn', hk, hs⟩ := h.kid b
    obtain ⟨g2, pl2, pr2, hp2, hc0, hc1, hl2⟩ := hl
    obtain rfl : g2 = g' := by rw [hp] at hp2; cases hp2; rfl
    obtain rfl : pl2 = pl' := by rw [hn'.c0] at hc0; cases hc0; rfl
    obtain rfl : pr2 = pr' := by rw [hn'.c1] at hc1; cases hc1; rfl
    obtain ⟨Fy, h1, h2⟩ := Holds.sub bs _ _ x Fx hk hl2
    exact ⟨Fy, h1, fun z hz => hs z (h2 z hz)⟩
/-- A trie: its root, and how many there are. -/
structure Tr (w : World) (b : Nat) (t : Tri) (F : List Nat) : Prop where
  hold : Holds w t (some ⟨b, 0, none⟩) F
  nd : F.Nodup
  many : w.cell? ⟨b, 4, none⟩ = some (.int .i64 (Tri.cnt t : Nat))
  fm : w.frozen? ⟨b, 4, none⟩ = false
theorem Holds.mem {w : World} {t : Tri} {b : Nat} {F : List Nat} (h : Holds w t (some ⟨b, 0, none⟩) F) : b ∈ F := by
  cases t with
  | nil => cases h.1
  | node l r o => obtain ⟨g, pl, pr, Fl, Fr, hp, hF, _⟩ := h; cases hp; rw [hF]; exact List.mem_cons_self
theorem Tr.same {w w' : World} {b : Nat} {t : Tri} {F : List Nat} (h : Tr w b t F) (e : ∀ z, z ∈ F → w'.heap[z]? = w.heap[z]?) : Tr w' b t F :=
  ⟨h.hold.same e, h.nd, (World.cell?_of_block (a := ⟨b, 4, none⟩) (e b h.hold.mem)).trans h.many, (World.frozen?_of_block (a := ⟨b, 4, none⟩) (e b h.hold.mem)).trans h.fm⟩
theorem Tr.below {w w' : World} {b : Nat} {t : Tri} {F : List Nat} (h : Tr w b t F) (hb : Below w.heap.size w w') : Tr w' b t F := h.same (fun z hz => hb.block z (h.hold.lt z hz))
theorem Nd.of_blk {w : World} {b : Nat} {cs : Array Value} {ty : TypeId} {l r : Option Addr} {o : Option Int} (h : w.heap[b]? = some (.cells cs ty (0, 0))) (h0 : cs[0]? = some (.pointer l)) (h1 : cs[1]? = some (.pointer r)) (h2 : cs[2]? = some (.bool o.isSome)) (h3 : cs[3]? = some (.int .i64 (o.getD 0))) : Nd w b l r o :=
  ⟨blk_lt h, (blk_cell h 0).trans h0, (blk_cell h 1).trans h1, (blk_cell h 2).trans h2, (blk_cell h 3).trans h3, fun i _ => blk_frozen h i⟩
set_option maxHeartbeats 4000000 in
set_option maxRecDepth 100000 in
theorem new_c (w : World) : Calls Try.prog 13 #[] w fun e w' => e = .returned (.pointer (some ⟨w.heap.size, 0, none⟩)) ∧ Below w.heap.size w w' ∧ Tr w' w.heap.size (.node .nil .nil none) [w.heap.size] := by
  go_enter Try.func13, Try.ntmps13
  go_wp2_with fail
  go_ret
  have hb := blk_new w (.cells #[.pointer none, .pointer none, .bool false, .int .i64 0, .int .i64 0] 56)
  exact ⟨rfl, below_alloc (Below.refl _ _) _, ⟨⟨w.heap.size, none, none, [], [], rfl, rfl, Nd.of_blk hb rfl rfl rfl rfl, ⟨rfl, rfl⟩, ⟨rfl, rfl⟩⟩, by simp, (blk_cell hb 4).trans rfl, blk_frozen hb 4⟩⟩
theorem bits_take (D : List UInt8) (n i : Nat) (h : i < n) : (kbits D n).take (i + 1) = (kbits D n).take i ++ [bitAt D i] := by
  have hl : i < (kbits D n).length := by rw [bits_length]; exact h
  rw [List.take_succ_eq_append_getElem hl]
  congr 2
  simp [kbits]
theorem loadP {w : World} {b o : Nat} {x : Option Addr} (hc : w.cell? ⟨b, o, none⟩ = some (.pointer x)) : (Instr.loadAt 51 (.pointer (some ⟨b, o, none⟩)) : Sem Value).run Try.prog w = .ok (.pointer x) w := by
  go_simp
theorem bit_v (s : ByteArray) (i : Nat) (h : i < 8 * s.size) (hs : s.size ≤ 140737488351232) (w : World) (v : Int) (hv : bI (tb s i) = v) : Calls Try.prog 24 #[.string s, .int .i64 i] w fun e w' => e = .returned (.int .i64 v) ∧ Below w.heap.size w w' := by
  subst hv; exact bit_c s i h hs w
set_option maxHeartbeats 4000000 in
set_option maxRecDepth 100000 in
theorem at_bad (b : Nat) (s : ByteArray) (n x : Int) (hx : ∃ k, trie_prefix.f k s n = some x) (hne : x ≠ 0) (w : World) :
    Calls Try.prog 27 #[.pointer (some ⟨b, 0, none⟩), .string s, .int .i64 n] w fun e w' => e = .returned (.pointer none) ∧ Below w.heap.size w w' := by
  have hb : (x == 0) = false := beq_false_of_ne hne
  go_enter Try.func27, Try.ntmps27
  go_wp2_with fail
  go_at_call 26
  (with_reducible refine (pre_c s n x hx _).mono ?_)
  rintro e u ⟨rfl, hb1⟩
  have HB := Aside0.mk hb1
  clear hb1
  go_wp2_with fail
  go_ret
  exact ⟨rfl, HB.out⟩
set_option maxHeartbeats 8000000 in
set_option maxRecDepth 100000 in
theorem at_ok (b : Nat) (t : Tri) (F : List Nat) (s : ByteArray) (n : Nat) (hn : n ≤ 8 * s.size) (hs : s.size ≤ 140737488351232) (w : World) (hx : ∃ k, trie_prefix.f k s n = some 0) (hT : Holds w t (some ⟨b, 0, none⟩) F) :
    Calls Try.prog 27 #[.pointer (some ⟨b, 0, none⟩), .string s, .int .i64 n] w fun e w' => ∃ x, e = .returned (.pointer x) ∧ Below w.heap.size w w' ∧ Loc w' (kbits s.data.toList n) t (some ⟨b, 0, none⟩) x := by
  have HT := Aside0.mk hT
  clear hT
  have hn1 : (n : Int) ≤ 1125899906809856 := by omega
  have HF := Aside0.mk (And.intro hn hs)
  clear hn hs
  go_enter Try.func27, Try.ntmps27
  go_wp2_with fail
  go_at_call 26
  (with_reducible refine (pre_c s n 0 hx _).mono ?_)
  rintro e u ⟨rfl, hb1⟩
  have HB := Aside0.mk hb1
  clear hb1
  go_wp2_with fail
  go_loopg [7, 8] n (fun d v7 v8 wr => ∃ (i : Nat) (x : Option Addr), v7 = .pointer x ∧ v8 = .int .i64 i ∧ Aside0 (i + d = n) ∧ Aside0 (Below w.heap.size w wr ∧ Loc wr ((kbits s.data.toList n).take i) t (some ⟨b, 0, none⟩) x))
  case atStart => exact ⟨0, _, rfl, rfl, ⟨by omega⟩, ⟨HB.out, rfl⟩⟩
  case round =>
    clear HB
    obtain ⟨i, x, h7, h8, HD, HL⟩ := hrel
    subst h7 h8
    have hTw : Holds wr t (some ⟨b, 0, none⟩) F := HT.out.below HL.out.1
    by_cases hi : i < n
    · cases x with
      | none =>
        have HL2 := Aside0.mk (And.intro HL.out.1 (show Loc wr (kbits s.data.toList n) t (some ⟨b, 0, none⟩) none by
          have := Loc.none ((kbits s.data.toList n).take i) ((kbits s.data.toList n).drop i) t _ F hTw HL.out.2
          rwa [List.take_append_drop] at this))
        clear HL hTw
        go_wp2_with fail
        go_ret
        exact ⟨none, rfl, HL2.out.1, HL2.out.2⟩
      | some y =>
        obtain ⟨Fx, hS, _⟩ := Holds.sub _ t _ _ F hTw HL.out.2
        obtain ⟨l, r, o, hsub⟩ : ∃ l r o, sub ((kbits s.data.toList n).take i) t = .node l r o := by
          cases h : sub ((kbits s.data.toList n).take i) t with
          | nil => rw [h] at hS; exact absurd hS.1 (by simp)
          | node l r o => exact ⟨l, r, o, rfl⟩
        rw [hsub] at hS
        obtain ⟨g, pl, pr, Gl, Gr, hp, _, hN, _, _⟩ := hS
        obtain rfl : y = ⟨g, 0, none⟩ := by cases hp; rfl
        have HN := Aside0.mk (And.intro hTw hN)
        clear hTw hN hsub hp
        have hi8 : i < 8 * s.size := by have := HF.out; omega
        have HI := Aside0.mk hi8
        clear hi8
        cases hb : tb s i
        · go_wp2_with fail
          refine wp_region_any (by kernel_rfl) ?_
          change wpAny _ _ _ _ _ _ _ (World.drew _)
          refine any_var (fun A hA => ?_)
          have s1 : A.eval (.tmp 1) = Value.string s := by rw [hA]; rfl
          have s7 : A.eval (.tmp 7) = Value.pointer (some ⟨g, 0, none⟩) := by rw [hA]; rfl
          have s8 : A.eval (.tmp 8) = Value.int .i64 (i : Int) := by rw [hA]; rfl
          haveI HFr : Fr 38 A := ⟨by rw [hA]; exact Nat.le_refl _⟩
          have HAA := Aside0.mk hA
          clear hA
          refine reg_pure 0 (some 29) (v := Value.pointer (some ⟨g, 0, none⟩)) rfl (by kernel_rfl) (by kernel_rfl) (by kernel_rfl) rfl (fun _ _ _ h => h) (wanted_none rfl) (ro_move (.inl rfl) s7) ?_
          refine reg_pure 1 (some 30) (v := Value.string s) rfl (by kernel_rfl) (by kernel_rfl) (by kernel_rfl) rfl (fun _ _ _ h => h) (wanted_none rfl) (ro_move (.inl rfl) (ev_ne (by decide) s1)) ?_
          refine reg_pure 2 (some 31) (v := Value.int .i64 (i : Int)) rfl (by kernel_rfl) (by kernel_rfl) (by kernel_rfl) rfl (fun _ _ _ h => h) (wanted_none rfl) (ro_move (.inl rfl) (ev_ne (by decide) (ev_ne (by decide) s8))) ?_
          refine reg_pure 4 (some 33) (v := Value.pointer (some ⟨g, 0, none⟩)) rfl (by kernel_rfl) (by kernel_rfl) (by kernel_rfl) rfl (fun _ _ _ h => h) (wanted_none rfl) (ro_nil rfl (ev_ne (by decide) (ev_ne (by decide) (ev_eq (by decide))))) ?_
          refine reg_pure 5 (some 34) (v := Value.pointer (some ⟨g, 0, none⟩)) rfl (by kernel_rfl) (by kernel_rfl) (by kernel_rfl) rfl (fun _ _ _ h => h) (wanted_none rfl) (ro_field rfl (ev_eq (by decide)) (fun w => by go_simp)) ?_
          refine wpAny_ready (rs := [3]) (by kernel_rfl) (by simp) ?_
          refine br_call 3 (some 32) 24 #[Value.string s, Value.int .i64 (i : Int)] rfl rfl (wanted_none rfl) rfl (map2 (ev_ne (by decide) (ev_ne (by decide) (ev_ne (by decide) (ev_eq (by decide))))) (ev_ne (by decide) (ev_ne (by decide) (ev_eq (by decide))))) (fun args w => by kernel_rfl) (bit_v s i HI.out HF.out.2 _ 0 (by rw [hb]; rfl)) ?_ ?_
          · rintro e u2 ⟨rfl, hb2⟩
            have HN2 := Aside0.mk (And.intro (HN.out.1.below (below_step (pw_below_drewN (Below.refl _ _) 1) hb2)) (HN.out.2.same ((below_step (pw_below_drewN (Below.refl wr.heap.size wr) 1) hb2).block g HN.out.2.lt))); have HB2 := Aside0.mk (below_step HL.out.1 (below_step (pw_below_drewN (Below.refl wr.heap.size wr) 1) hb2)); have HL2 := Aside0.mk (Loc.below _ t _ _ F HN.out.1 (below_step (pw_below_drewN (Below.refl wr.heap.size wr) 1) hb2) HL.out.2); clear HN HL hb2
            refine ⟨_, rfl, ?_⟩
            refine reg_pure 6 (some 35) (v := Value.pointer (some ⟨g, 0, none⟩)) rfl (by kernel_rfl) (by kernel_rfl) (by kernel_rfl) rfl (fun _ _ _ h => h) (wanted_none rfl) (ro_iaddr rfl (ev_ne (by decide) (ev_eq (by decide))) (ev_eq (by decide)) (fun w => by go_simp)) ?_
            refine wpAny_ready (rs := [7]) (by kernel_rfl) (by simp) ?_
            refine br_load 7 (some 36) (v := Value.pointer pl) rfl rfl (wanted_none rfl) (ro_load rfl (ev_eq (by decide)) (loadP HN2.out.2.c0)) ?_ ?_
            · skip
              refine reg_pure 8 (some 7) (v := Value.pointer pl) rfl (by kernel_rfl) (by kernel_rfl) (by kernel_rfl) rfl (fun _ _ _ h => h) (wanted_none rfl) (ro_move (.inr rfl) (ev_eq (by decide))) ?_
              refine reg_done (by kernel_rfl) ?_
              have hA := HAA.out
              subst hA
              simp only [Act.put, List.setIfInBounds_toArray, List.set_cons_zero, List.set_cons_succ]
              clear HAA HFr s1 s7 s8
              go_wp2_with fail
              go_roundg (n - 1 - i)
              case measure => have := HD.out; omega
              case rel => exact ⟨i + 1, pl, rfl, by go_num, ⟨by have := HD.out; omega⟩, ⟨HB2.out, by rw [bits_take _ _ _ hi, show bitAt s.data.toList i = false from hb]; exact Loc.snoc false _ t _ F g pl pr o HN2.out.1 HL2.out HN2.out.2⟩⟩
            exact AllReady.nil
          exact AllReady.nil
        · go_wp2_with fail
          refine wp_region_any (by kernel_rfl) ?_
          change wpAny _ _ _ _ _ _ _ (World.drew _)
          refine any_var (fun A hA => ?_)
          have s1 : A.eval (.tmp 1) = Value.string s := by rw [hA]; rfl
          have s7 : A.eval (.tmp 7) = Value.pointer (some ⟨g, 0, none⟩) := by rw [hA]; rfl
          have s8 : A.eval (.tmp 8) = Value.int .i64 (i : Int) := by rw [hA]; rfl
          haveI HFr : Fr 38 A := ⟨by rw [hA]; exact Nat.le_refl _⟩
          have HAA := Aside0.mk hA
          clear hA
          refine reg_pure 0 (some 29) (v := Value.pointer (some ⟨g, 0, none⟩)) rfl (by kernel_rfl) (by kernel_rfl) (by kernel_rfl) rfl (fun _ _ _ h => h) (wanted_none rfl) (ro_move (.inl rfl) s7) ?_
          refine reg_pure 1 (some 30) (v := Value.string s) rfl (by kernel_rfl) (by kernel_rfl) (by kernel_rfl) rfl (fun _ _ _ h => h) (wanted_none rfl) (ro_move (.inl rfl) (ev_ne (by decide) s1)) ?_
          refine reg_pure 2 (some 31) (v := Value.int .i64 (i : Int)) rfl (by kernel_rfl) (by kernel_rfl) (by kernel_rfl) rfl (fun _ _ _ h => h) (wanted_none rfl) (ro_move (.inl rfl) (ev_ne (by decide) (ev_ne (by decide) s8))) ?_
          refine reg_pure 4 (some 33) (v := Value.pointer (some ⟨g, 0, none⟩)) rfl (by kernel_rfl) (by kernel_rfl) (by kernel_rfl) rfl (fun _ _ _ h => h) (wanted_none rfl) (ro_nil rfl (ev_ne (by decide) (ev_ne (by decide) (ev_eq (by decide))))) ?_
          refine reg_pure 5 (some 34) (v := Value.pointer (some ⟨g, 0, none⟩)) rfl (by kernel_rfl) (by kernel_rfl) (by kernel_rfl) rfl (fun _ _ _ h => h) (wanted_none rfl) (ro_field rfl (ev_eq (by decide)) (fun w => by go_simp)) ?_
          refine wpAny_ready (rs := [3]) (by kernel_rfl) (by simp) ?_
          refine br_call 3 (some 32) 24 #[Value.string s, Value.int .i64 (i : Int)] rfl rfl (wanted_none rfl) rfl (map2 (ev_ne (by decide) (ev_ne (by decide) (ev_ne (by decide) (ev_eq (by decide))))) (ev_ne (by decide) (ev_ne (by decide) (ev_eq (by decide))))) (fun args w => by kernel_rfl) (bit_v s i HI.out HF.out.2 _ 1 (by rw [hb]; rfl)) ?_ ?_
          · rintro e u2 ⟨rfl, hb2⟩
            have HN2 := Aside0.mk (And.intro (HN.out.1.below (below_step (pw_below_drewN (Below.refl _ _) 1) hb2)) (HN.out.2.same ((below_step (pw_below_drewN (Below.refl wr.heap.size wr) 1) hb2).block g HN.out.2.lt))); have HB2 := Aside0.mk (below_step HL.out.1 (below_step (pw_below_drewN (Below.refl wr.heap.size wr) 1) hb2)); have HL2 := Aside0.mk (Loc.below _ t _ _ F HN.out.1 (below_step (pw_below_drewN (Below.refl wr.heap.size wr) 1) hb2) HL.out.2); clear HN HL hb2
            refine ⟨_, rfl, ?_⟩
            refine reg_pure 6 (some 35) (v := Value.pointer (some ⟨g, 1, none⟩)) rfl (by kernel_rfl) (by kernel_rfl) (by kernel_rfl) rfl (fun _ _ _ h => h) (wanted_none rfl) (ro_iaddr rfl (ev_ne (by decide) (ev_eq (by decide))) (ev_eq (by decide)) (fun w => by go_simp)) ?_
            refine wpAny_ready (rs := [7]) (by kernel_rfl) (by simp) ?_
            refine br_load 7 (some 36) (v := Value.pointer pr) rfl rfl (wanted_none rfl) (ro_load rfl (ev_eq (by decide)) (loadP HN2.out.2.c1)) ?_ ?_
            · skip
              refine reg_pure 8 (some 7) (v := Value.pointer pr) rfl (by kernel_rfl) (by kernel_rfl) (by kernel_rfl) rfl (fun _ _ _ h => h) (wanted_none rfl) (ro_move (.inr rfl) (ev_eq (by decide))) ?_
              refine reg_done (by kernel_rfl) ?_
              have hA := HAA.out
              subst hA
              simp only [Act.put, List.setIfInBounds_toArray, List.set_cons_zero, List.set_cons_succ]
              clear HAA HFr s1 s7 s8
              go_wp2_with fail
              go_roundg (n - 1 - i)
              case measure => have := HD.out; omega
              case rel => exact ⟨i + 1, pr, rfl, by go_num, ⟨by have := HD.out; omega⟩, ⟨HB2.out, by rw [bits_take _ _ _ hi, show bitAt s.data.toList i = true from hb]; exact Loc.snoc true _ t _ F g pl pr o HN2.out.1 HL2.out HN2.out.2⟩⟩
            exact AllReady.nil
          exact AllReady.nil
    · go_wp2_with fail
      go_ret
      have hin : n = i := by have := HD.out; omega
      have h2 := HL.out.2
      rw [← hin, List.take_of_length_le (by rw [bits_length]; exact Nat.le_refl _)] at h2
      exact ⟨x, rfl, HL.out.1, h2⟩
end Go.Proofs.Ytpchlnbnpgaocaa.PTrie
