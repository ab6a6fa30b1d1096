/- A trie in memory: a change at a place; what Put does. -/
import Derived.Test.YtpchlnbnpgaocaaKTrie2
import Derived.BigRegion
namespace Go.Proofs.Ytpchlnbnpgaocaa.PTrie
open Go.Proofs.Ytpchlnbnpgaocaa.KTree Go.Proofs.Ytpchlnbnpgaocaa.KReg Go.Proofs.Ytpchlnbnpgaocaa.KBits Go.RowKit Go.Proofs.YtpchlnbnpgaocaaW.PrintWords Go.Proofs.YtpchlnbnpgaocaaW.PrintLast Go.Proofs.YtpchlnbnpgaocaaW.PrintMore
set_option linter.unusedVariables false
set_option linter.unusedSimpArgs false
/-- The subtree at a place becomes another one. -/
def at_ (f : Tri → Tri) : List Bool → Tri → Tri
  | [], t => f t
  | _ :: _, .nil => .nil
  | false :: bs, .node l r o => .node (at_ f bs l) r o
  | true :: bs, .node l r o => .node l (at_ f bs r) o
def ens : Tri → Tri
  | .nil => .node .nil .nil none
  | .node l r o => .node l r o
def mkk (b : Bool) : Tri → Tri
  | .nil => .nil
  | .node l r o => if b then .node l (ens r) o else .node (ens l) r o
def setv (v : Option Int) : Tri → Tri
  | .nil => .nil
  | .node l r _ => .node l r v
theorem put_ens (v : Int) (t : Tri) : ∀ cs, Tri.put v cs (ens t) = Tri.put v cs t := by
  intro cs
  cases t with
  | nil => cases cs with
    | nil => rfl
    | cons c cs => cases c <;> rfl
  | node l r o => rfl
theorem get_ens (t : Tri) : ∀ cs, Tri.get cs (ens t) = Tri.get cs t := by
  intro cs
  cases t with
  | nil =>
    rw [Tri.get_nil]
    cases cs with
    | nil => rfl
    | cons c cs => cases c <;> simp [Tri.get, ens, Tri.kid, Tri.left, Tri.right, Tri.get_nil]
  | node l r o => rfl
theorem put_mk (v : Int) (b : Bool) (cs : List Bool) : ∀ (bs : List Bool) (t : Tri), sub bs t ≠ .nil → Tri.put v (bs ++ b :: cs) (at_ (mkk b) bs t) = Tri.put v (bs ++ b :: cs) t
  | [], .nil, h => absurd rfl h
  | [], .node l r o, _ => by cases b <;> simp [at_, mkk, Tri.put, Tri.left, Tri.right, Tri.val, put_ens]
  | c :: bs, .nil, h => absurd (sub_nil _) h
  | false :: bs, .node l r o, h => by simp [at_, Tri.put, Tri.left, Tri.right, Tri.val, put_mk v b cs bs l h]
  | true :: bs, .node l r o, h => by simp [at_, Tri.put, Tri.left, Tri.right, Tri.val, put_mk v b cs bs r h]
theorem get_mk (b : Bool) : ∀ (bs cs : List Bool) (t : Tri), Tri.get cs (at_ (mkk b) bs t) = Tri.get cs t
  | [], cs, .nil => rfl
  | [], [], .node l r o => by cases b <;> rfl
  | [], c :: cs, .node l r o => by cases b <;> cases c <;> simp [at_, mkk, Tri.get, Tri.kid, Tri.left, Tri.right, get_ens]
  | _ :: bs, cs, .nil => rfl
  | false :: bs, [], .node l r o => rfl
  | true :: bs, [], .node l r o => rfl
  | false :: bs, false :: cs, .node l r o => by simp [at_, Tri.get, Tri.kid, Tri.left, get_mk b bs cs l]
  | false :: bs, true :: cs, .node l r o => by simp [at_, Tri.get, Tri.kid, Tri.right]
  | true :: bs, false :: cs, .node l r o => by simp [at_, Tri.get, Tri.kid, Tri.left]
  | true :: bs, true :: cs, .node l r o => by simp [at_, Tri.get, Tri.kid, Tri.right, get_mk b bs cs r]
theorem put_set (v : Int) : ∀ (bs : List Bool) (t : Tri), sub bs t ≠ .nil → at_ (setv (some v)) bs t = Tri.put v bs t
  | [], .nil, h => absurd rfl h
  | [], .node l r o, _ => rfl
  | c :: bs, .nil, h => absurd (sub_nil _) h
  | false :: bs, .node l r o, h => by simp [at_, Tri.put, Tri.left, Tri.right, Tri.val, put_set v bs l h]
  | true :: bs, .node l r o, h => by simp [at_, Tri.put, Tri.left, Tri.right, Tri.val, put_set v bs r h]
theorem clear_set : ∀ (bs : List Bool) (t : Tri), at_ (setv none) bs t = Tri.clear bs t
  | [], .nil => rfl
  | [], .node l r o => rfl
  | c :: bs, .nil => by cases c <;> rfl
  | false :: bs, .node l r o => by simp [at_, Tri.clear, clear_set bs l]
  | true :: bs, .node l r o => by simp [at_, Tri.clear, clear_set bs r]
theorem h_at {w w' : World} (f : Tri → Tri) (g : Nat) (hw : ∀ k, k < w.heap.size → k ≠ g → w'.heap[k]? = w.heap[k]?) :
    ∀ (bs : List Bool) (t : Tri) (p : Option Addr) (F : List Nat), Holds w t p F → F.Nodup → Loc w bs t p (some ⟨g, 0, none⟩) →
      (∀ Fg, Holds w (sub bs t) (some ⟨g, 0, none⟩) Fg → Fg.Nodup → ∃ Fg', Holds w' (f (sub bs t)) (some ⟨g, 0, none⟩) Fg' ∧ Fg'.Nodup ∧ ∀ z, z ∈ Fg' → z ∈ Fg ∨ w.heap.size ≤ z) →
      ∃ F', Holds w' (at_ f bs t) p F' ∧ F'.Nodup ∧ ∀ z, z ∈ F' → z ∈ F ∨ w.heap.size ≤ z
  | [], t, p, F, h, hn, hl, hf => by
    rw [← (show some ⟨g, 0, none⟩ = p from hl)] at h ⊢
    exact hf F h hn
  | b :: bs, .nil, p, F, h, hn, hl, hf => by cases hl
  | b :: bs, .node l r o, p, F, h, hn, hl, hf => by
    have hlt := h.lt
    obtain ⟨g0, pl, pr, Fl, Gr, hp, hF, hN, hL, hR⟩ := h
    obtain ⟨g2, pl2, pr2, hp2, hc0, hc1, hl2⟩ := hl
    obtain rfl : g2 = g0 := by rw [hp] at hp2; cases hp2; rfl
    obtain rfl : pl2 = pl := by rw [hN.c0] at hc0; cases hc0; rfl
    obtain rfl : pr2 = pr := by rw [hN.c1] at hc1; cases hc1; rfl
    subst hF
    have n1 : g2 ∉ Fl ++ Gr := (List.nodup_cons.1 hn).1
    have n2 := List.nodup_append.1 (List.nodup_cons.1 hn).2
    cases b
    · obtain ⟨Fx, hx, hxs⟩ := Holds.sub bs l _ _ Fl hL hl2
      have hg : g ∈ Fl := hxs g hx.mem
      obtain ⟨Fl', k1, k2, k3⟩ := h_at f g hw bs l _ Fl hL n2.1 hl2 hf
      have hne : g2 ≠ g := fun e => n1 (by rw [e]; simp [hg])
      refine ⟨g2 :: (Fl' ++ Gr), ⟨g2, pl2, pr2, Fl', Gr, hp, rfl, hN.same (hw g2 hN.lt hne), k1, hR.same (fun z hz => hw z (hR.lt z hz) (fun e => n2.2.2 g hg z hz e.symm))⟩, ?_, ?_⟩
      · refine List.nodup_cons.2 ⟨fun hm => ?_, List.nodup_append.2 ⟨k2, n2.2.1, fun a ha c hc e => ?_⟩⟩
        · rcases List.mem_append.1 hm with hm | hm
          · rcases k3 g2 hm with hm | hm
            · exact n1 (by simp [hm])
            · have := hN.lt; omega
          · exact n1 (by simp [hm])
        · subst e
          rcases k3 a ha with hm | hm
          · exact n2.2.2 a hm a hc rfl
          · have := hR.lt a hc; omega
      · intro z hz
        rcases List.mem_cons.1 hz with rfl | hz
        · exact .inl List.mem_cons_self
        · rcases List.mem_append.1 hz with hz | hz
          · rcases k3 z hz with hm | hm
            · exact .inl (by simp [hm])
            · exact .inr hm
          · exact .inl (by simp [hz])
    · obtain ⟨Fx, hx, hxs⟩ := Holds.sub bs r _ _ Gr hR hl2
      have hg : g ∈ Gr := hxs g hx.mem
      obtain ⟨Gr', k1, k2, k3⟩ := h_at f g hw bs r _ Gr hR n2.2.1 hl2 hf
      have hne : g2 ≠ g := fun e => n1 (by rw [e]; simp [hg])
      refine ⟨g2 :: (Fl ++ Gr'), ⟨g2, pl2, pr2, Fl, Gr', hp, rfl, hN.same (hw g2 hN.lt hne), hL.same (fun z hz => hw z (hL.lt z hz) (fun e => n2.2.2 z hz g hg e)), k1⟩, ?_, ?_⟩
      · refine List.nodup_cons.2 ⟨fun hm => ?_, List.nodup_append.2 ⟨n2.1, k2, fun a ha c hc e => ?_⟩⟩
        · rcases List.mem_append.1 hm with hm | hm
          · exact n1 (by simp [hm])
          · rcases k3 g2 hm with hm | hm
            · exact n1 (by simp [hm])
            · have := hN.lt; omega
        · subst e
          rcases k3 a hc with hm | hm
          · exact n2.2.2 a ha a hm rfl
          · have := hL.lt a ha; omega
      · intro z hz
        rcases List.mem_cons.1 hz with rfl | hz
        · exact .inl List.mem_cons_self
        · rcases List.mem_append.1 hz with hz | hz
          · exact .inl (by simp [hz])
          · rcases k3 z hz with hm | hm
            · exact .inl (by simp [hm])
            · exact .inr hm
theorem l_same {w w' : World} (hc : ∀ g j, j < 2 → ∀ v, w.cell? ⟨g, j, none⟩ = some v → w'.cell? ⟨g, j, none⟩ = some v) : ∀ (bs : List Bool) (t : Tri) (p x : Option Addr), Loc w bs t p x → Loc w' bs t p x
  | [], _, _, _, h => h
  | _ :: _, .nil, _, _, h => h
  | b :: bs, .node l r o, p, x, ⟨g, pl, pr, hp, h0, h1, h2⟩ => ⟨g, pl, pr, hp, hc g 0 (by omega) _ h0, hc g 1 (by omega) _ h1, l_same hc bs _ _ x h2⟩
/-- The way to a place goes through kids alone that a change at the place lets be. -/
theorem l_at {w w' : World} (f : Tri → Tri) (g : Nat) (hw : ∀ k, k < w.heap.size → k ≠ g → w'.heap[k]? = w.heap[k]?) :
    ∀ (bs : List Bool) (t : Tri) (p : Option Addr) (F : List Nat), Holds w t p F → F.Nodup → Loc w bs t p (some ⟨g, 0, none⟩) → Loc w' bs (at_ f bs t) p (some ⟨g, 0, none⟩)
  | [], t, p, F, h, hn, hl => hl
  | b :: bs, .nil, p, F, h, hn, hl => by cases hl
  | b :: bs, .node l r o, p, F, h, hn, hl => by
    obtain ⟨g0, pl, pr, Fl, Gr, hp, hF, hN, hL, hR⟩ := h
    obtain ⟨g2, pl2, pr2, hp2, hc0, hc1, hl2⟩ := hl
    obtain rfl : g2 = g0 := by rw [hp] at hp2; cases hp2; rfl
    obtain rfl : pl2 = pl := by rw [hN.c0] at hc0; cases hc0; rfl
    obtain rfl : pr2 = pr := by rw [hN.c1] at hc1; cases hc1; rfl
    subst hF
    have n1 : g2 ∉ Fl ++ Gr := (List.nodup_cons.1 hn).1
    have n2 := List.nodup_append.1 (List.nodup_cons.1 hn).2
    cases b
    · obtain ⟨Fx, hx, hxs⟩ := Holds.sub bs l _ _ Fl hL hl2
      have hne : g2 ≠ g := fun e => n1 (by rw [e]; exact List.mem_append.2 (.inl (hxs g hx.mem)))
      have hN2 := hN.same (hw g2 hN.lt hne)
      exact ⟨g2, pl2, pr2, hp, hN2.c0, hN2.c1, l_at f g hw bs l _ Fl hL n2.1 hl2⟩
    · obtain ⟨Fx, hx, hxs⟩ := Holds.sub bs r _ _ Gr hR hl2
      have hne : g2 ≠ g := fun e => n1 (by rw [e]; exact List.mem_append.2 (.inr (hxs g hx.mem)))
      have hN2 := hN.same (hw g2 hN.lt hne)
      exact ⟨g2, pl2, pr2, hp, hN2.c0, hN2.c1, l_at f g hw bs r _ Gr hR n2.2.1 hl2⟩
theorem sub_at (f : Tri → Tri) : ∀ (bs : List Bool) (t : Tri), sub bs t ≠ .nil → sub bs (at_ f bs t) = f (sub bs t)
  | [], _, _ => rfl
  | c :: bs, .nil, h => absurd (sub_nil _) h
  | false :: bs, .node l r o, h => sub_at f bs l h
  | true :: bs, .node l r o, h => sub_at f bs r h
/-- A store into a node's cell. -/
theorem set_other {w : World} {g i : Nat} {v : Value} : ∀ k, k < w.heap.size → k ≠ g → (w.setCell ⟨g, i, none⟩ v).heap[k]? = w.heap[k]? := fun k _ hk => Below.heap_setCell w ⟨g, i, none⟩ v k hk
theorem set_cell {w : World} {g i j : Nat} {v u : Value} (h : w.cell? ⟨g, j, none⟩ = some u) : (w.setCell ⟨g, i, none⟩ v).cell? ⟨g, j, none⟩ = some (if i = j then v else u) := by
  by_cases e : i = j
  · subst e; rw [if_pos rfl]; exact World.cell?_setCell_same _ _ _ h
  · rw [if_neg e, World.cell?_setCell_other _ _ _ _ (by intro hh; cases hh; exact e rfl)]; exact h
theorem set_size {w : World} {a : Addr} {v : Value} : (w.setCell a v).heap.size = w.heap.size := by simp [World.setCell]
/-- The world is as it was, but for some of its blocks. -/
structure Md (F : List Nat) (w w' : World) : Prop where
  os : w'.os = w.os
  tape : w'.tape = w.tape
  output : w'.output = w.output
  size : w.heap.size ≤ w'.heap.size
  block : ∀ k, k < w.heap.size → k ∉ F → w'.heap[k]? = w.heap[k]?
theorem Md.refl (F : List Nat) (w : World) : Md F w w := ⟨rfl, rfl, rfl, Nat.le_refl _, fun _ _ _ => rfl⟩
theorem Md.below {F : List Nat} {a b c : World} (h : Md F a b) (k : Below b.heap.size b c) : Md F a c :=
  ⟨k.os.trans h.os, k.tape.trans h.tape, k.output.trans h.output, Nat.le_trans h.size k.size, fun i hi hn => (k.block i (Nat.lt_of_lt_of_le hi h.size)).trans (h.block i hi hn)⟩
theorem Md.set_ {F : List Nat} {a b : World} (h : Md F a b) (g i : Nat) (v : Value) (hg : g ∈ F ∨ a.heap.size ≤ g) : Md F a (b.setCell ⟨g, i, none⟩ v) :=
  ⟨h.os, h.tape, h.output, by rw [set_size]; exact h.size, fun k hk hn => (set_other k (Nat.lt_of_lt_of_le hk h.size) (fun e => by subst e; rcases hg with hg | hg; exact hn hg; omega)).trans (h.block k hk hn)⟩
theorem Md.trans {F : List Nat} {a b c : World} (h : Md F a b) (k : Md F b c) : Md F a c :=
  ⟨k.os.trans h.os, k.tape.trans h.tape, k.output.trans h.output, Nat.le_trans h.size k.size, fun i hi hn => (k.block i (Nat.lt_of_lt_of_le hi h.size) hn).trans (h.block i hi hn)⟩
def nodeO : Obj := .cells #[.pointer none, .pointer none, .bool false, .int .i64 0] 54
/-- Where Put stands. -/
structure PutAt (w0 : World) (b : Nat) (t : Tri) (F : List Nat) (kb : List Bool) (i : Nat) (wr : World) (ti : Tri) (Fi : List Nat) (g : Nat) : Prop where
  hold : Holds wr ti (some ⟨b, 0, none⟩) Fi
  nd : Fi.Nodup
  fresh : ∀ z, z ∈ Fi → z ∈ F ∨ w0.heap.size ≤ z
  loc : Loc wr (kb.take i) ti (some ⟨b, 0, none⟩) (some ⟨g, 0, none⟩)
  put : ∀ v, Tri.put v kb ti = Tri.put v kb t
  get : Tri.get kb ti = Tri.get kb t
  many : wr.cell? ⟨b, 4, none⟩ = some (.int .i64 (Tri.cnt t : Nat))
  fm : wr.frozen? ⟨b, 4, none⟩ = false
  md : Md F w0 wr
section
variable {w0 wr wr' : World} {b : Nat} {t ti : Tri} {F Fi : List Nat} {kb : List Bool} {i g : Nat}
theorem PutAt.below (h : PutAt w0 b t F kb i wr ti Fi g) (hb : Below wr.heap.size wr wr') : PutAt w0 b t F kb i wr' ti Fi g :=
  ⟨h.hold.below hb, h.nd, h.fresh, Loc.below _ ti _ _ Fi h.hold hb h.loc, h.put, h.get, (World.cell?_of_block (a := ⟨b, 4, none⟩) (hb.block b (h.hold.lt b h.hold.mem))).trans h.many, (World.frozen?_of_block (a := ⟨b, 4, none⟩) (hb.block b (h.hold.lt b h.hold.mem))).trans h.fm, h.md.below hb⟩
theorem PutAt.node (h : PutAt w0 b t F kb i wr ti Fi g) : ∃ l r o pl pr, sub (kb.take i) ti = .node l r o ∧ Nd wr g pl pr o ∧ g ∈ Fi := by
  obtain ⟨Fx, hS, hsub⟩ := Holds.sub _ ti _ _ Fi h.hold h.loc
  cases hs : sub (kb.take i) ti with
  | nil => rw [hs] at hS; exact absurd hS.1 (by simp)
  | node l r o =>
    have hm := hsub g hS.mem
    rw [hs] at hS
    obtain ⟨g2, pl, pr, Gl, Gr, hp, _, hN, _, _⟩ := hS
    cases hp
    exact ⟨l, r, o, pl, pr, rfl, hN, hm⟩
theorem PutAt.down (h : PutAt w0 b t F kb i wr ti Fi g) (hi : i < kb.length) {c : Bool} (hc : kb[i] = c) {pl pr : Option Addr} {o : Option Int} (hN : Nd wr g pl pr o) {g2 : Addr} (hk : (if c then pr else pl) = some g2) :
    ∃ g3, g2 = ⟨g3, 0, none⟩ ∧ PutAt w0 b t F kb (i + 1) wr ti Fi g3 := by
  have hl := Loc.snoc c _ ti _ Fi g pl pr o h.hold h.loc hN
  rw [hk, ← hc, ← List.take_succ_eq_append_getElem hi] at hl
  obtain ⟨Fx, hS, _⟩ := Holds.sub _ ti _ _ Fi h.hold hl
  cases hs : sub (kb.take (i + 1)) ti with
  | nil => rw [hs] at hS; exact absurd hS.1 (by simp)
  | node l r o =>
    rw [hs] at hS
    obtain ⟨g3, pl', pr', Gl, Gr, hp, _, hN', _, _⟩ := hS
    cases hp
    exact ⟨g3, rfl, h.hold, h.nd, h.fresh, hl, h.put, h.get, h.many, h.fm, h.md⟩
theorem PutAt.make (h : PutAt w0 b t F kb i wr ti Fi g) (hi : i < kb.length) {c : Bool} (hc : kb[i] = c) {pl pr : Option Addr} {o : Option Int} (hN : Nd wr g pl pr o) (hk : (if c then pr else pl) = none) {j : Nat} (hj : j = if c then 1 else 0) :
    ∃ tj Fj, PutAt w0 b t F kb (i + 1) ((wr.alloc nodeO).setCell ⟨g, j, none⟩ (.pointer (some ⟨wr.heap.size, 0, none⟩))) tj Fj wr.heap.size := by
  obtain ⟨w', hw'⟩ : ∃ w', w' = (wr.alloc nodeO).setCell ⟨g, j, none⟩ (.pointer (some ⟨wr.heap.size, 0, none⟩)) := ⟨_, rfl⟩
  rw [← hw']
  have hba : Below wr.heap.size wr (wr.alloc nodeO) := below_alloc (Below.refl _ _) _
  have hot : ∀ k, k < wr.heap.size → k ≠ g → w'.heap[k]? = wr.heap[k]? := fun k hk hne => by
    rw [hw', Below.heap_setCell _ ⟨g, j, none⟩ _ k hne]; exact hba.block k hk
  have hnb : w'.heap[wr.heap.size]? = some nodeO := by
    rw [hw', Below.heap_setCell _ ⟨g, j, none⟩ _ _ (by have := hN.lt; show wr.heap.size ≠ g; omega)]; exact blk_new wr nodeO
  have hNa : Nd (wr.alloc nodeO) g pl pr o := hN.same (hba.block g hN.lt)
  have hN' : Nd w' g (if c then pl else some ⟨wr.heap.size, 0, none⟩) (if c then some ⟨wr.heap.size, 0, none⟩ else pr) o := by
    subst hw' hj
    refine ⟨by rw [set_size]; exact hNa.lt, ?_, ?_, ?_, ?_, fun k hk => by rw [World.frozen?_setCell]; exact hNa.f k hk⟩
    · rw [set_cell hNa.c0]; cases c <;> rfl
    · rw [set_cell hNa.c1]; cases c <;> rfl
    · rw [set_cell hNa.c2]; cases c <;> rfl
    · rw [set_cell hNa.c3]; cases c <;> rfl
  have hnode : Nd w' wr.heap.size none none none := Nd.of_blk hnb rfl rfl rfl rfl
  obtain ⟨l, r, o', pl', pr', hs, hN2, hgm⟩ := h.node
  obtain rfl : pl' = pl := by have := hN2.c0; rw [hN.c0] at this; cases this; rfl
  obtain rfl : pr' = pr := by have := hN2.c1; rw [hN.c1] at this; cases this; rfl
  have hloc' := l_at (w' := w') (mkk c) g hot (kb.take i) ti _ Fi h.hold h.nd h.loc
  obtain ⟨Fj, k1, k2, k3⟩ := h_at (w' := w') (mkk c) g hot (kb.take i) ti _ Fi h.hold h.nd h.loc (fun Fg hg hgn => by
    rw [hs] at hg ⊢
    obtain ⟨g3, ql, qr, Gl, Gr, hp, hF, hM, hL, hR⟩ := hg
    cases hp
    obtain rfl : ql = pl' := by have := hM.c0; rw [hN.c0] at this; cases this; rfl
    obtain rfl : qr = pr' := by have := hM.c1; rw [hN.c1] at this; cases this; rfl
    subst hF
    have n1 : g ∉ Gl ++ Gr := (List.nodup_cons.1 hgn).1
    have n2 := List.nodup_append.1 (List.nodup_cons.1 hgn).2
    have hoo : o' = o := by
      have e2 := hM.c2; have e3 := hM.c3
      rw [hN.c2] at e2; rw [hN.c3] at e3
      cases o <;> cases o' <;> simp_all
    subst hoo
    cases c
    · have hl0 : l = .nil ∧ Gl = [] := by
        cases l with
        | nil => exact ⟨rfl, hL.2⟩
        | node a b c => obtain ⟨_, _, _, _, _, hq, _⟩ := hL; rw [show ql = none from hk] at hq; cases hq
      obtain ⟨rfl, rfl⟩ := hl0
      refine ⟨g :: ([wr.heap.size] ++ Gr), ⟨g, _, _, [wr.heap.size], Gr, rfl, rfl, hN', ⟨wr.heap.size, none, none, [], [], rfl, rfl, hnode, ⟨rfl, rfl⟩, ⟨rfl, rfl⟩⟩, hR.same (fun z hz => hot z (hR.lt z hz) (fun e => n1 (by rw [← e]; simp [hz])))⟩, ?_, ?_⟩
      · have := hN.lt
        refine List.nodup_cons.2 ⟨fun hm => ?_, List.nodup_cons.2 ⟨fun hm => ?_, n2.2.1⟩⟩
        · rcases List.mem_cons.1 hm with hm | hm
          · omega
          · exact n1 hm
        · have := hR.lt _ hm; omega
      · intro z hz
        rcases List.mem_cons.1 hz with rfl | hz
        · exact .inl List.mem_cons_self
        · rcases List.mem_cons.1 hz with rfl | hz
          · exact .inr (Nat.le_refl _)
          · exact .inl (List.mem_cons_of_mem _ hz)
    · have hr0 : r = .nil ∧ Gr = [] := by
        cases r with
        | nil => exact ⟨rfl, hR.2⟩
        | node a b c => obtain ⟨_, _, _, _, _, hq, _⟩ := hR; rw [show qr = none from hk] at hq; cases hq
      obtain ⟨rfl, rfl⟩ := hr0
      refine ⟨g :: (Gl ++ [wr.heap.size]), ⟨g, _, _, Gl, [wr.heap.size], rfl, rfl, hN', hL.same (fun z hz => hot z (hL.lt z hz) (fun e => n1 (by rw [← e]; simp [hz]))), ⟨wr.heap.size, none, none, [], [], rfl, rfl, hnode, ⟨rfl, rfl⟩, ⟨rfl, rfl⟩⟩⟩, ?_, ?_⟩
      · have := hN.lt
        refine List.nodup_cons.2 ⟨fun hm => ?_, List.nodup_append.2 ⟨n2.1, by simp, fun a ha c hc e => ?_⟩⟩
        · rcases List.mem_append.1 hm with hm | hm
          · exact n1 (by simp [hm])
          · have := List.mem_singleton.1 hm; omega
        · have h1 := List.mem_singleton.1 hc; have h2 := hL.lt _ ha; omega
      · intro z hz
        rcases List.mem_cons.1 hz with rfl | hz
        · exact .inl List.mem_cons_self
        · rcases List.mem_append.1 hz with hz | hz
          · exact .inl (by simp [hz])
          · exact .inr (by have := List.mem_singleton.1 hz; omega))
  have hne : sub (kb.take i) ti ≠ .nil := by rw [hs]; exact fun e => by cases e
  have hkb : kb = kb.take i ++ c :: kb.drop (i + 1) := by rw [← hc, ← List.drop_eq_getElem_cons hi, List.take_append_drop]
  have hlt := h.hold.lt b h.hold.mem
  refine ⟨_, Fj, k1, k2, fun z hz => ?_, ?_, fun v => ?_, ?_, ?_, ?_, ?_⟩
  · rcases k3 z hz with hm | hm
    · exact h.fresh z hm
    · exact .inr (Nat.le_trans h.md.size hm)
  · have := Loc.snoc c _ _ _ Fj g _ _ o k1 hloc' hN'
    have ht : kb.take i ++ [c] = kb.take (i + 1) := by rw [← hc, List.take_succ_eq_append_getElem hi]
    have e : (if c = true then (if c = true then some ⟨wr.heap.size, 0, none⟩ else pr') else (if c = true then pl' else some ⟨wr.heap.size, 0, none⟩)) = some (⟨wr.heap.size, 0, none⟩ : Addr) := by cases c <;> rfl
    rw [e, ht] at this
    exact this
  · rw [← h.put v]
    have := put_mk v c (kb.drop (i + 1)) (kb.take i) ti hne
    rw [← hkb] at this
    exact this
  · rw [get_mk]; exact h.get
  · have e : (wr.alloc nodeO).cell? ⟨b, 4, none⟩ = some (.int .i64 (Tri.cnt t : Nat)) := (World.cell?_of_block (a := ⟨b, 4, none⟩) (hba.block b hlt)).trans h.many
    rw [hw']
    by_cases hbg : b = g
    · subst hbg; rw [set_cell e, if_neg (by rw [hj]; split <;> omega)]
    · rw [World.cell?_setCell_other _ _ _ _ (by intro hh; cases hh; exact hbg rfl)]; exact e
  · rw [hw', World.frozen?_setCell]; exact (World.frozen?_of_block (a := ⟨b, 4, none⟩) (hba.block b hlt)).trans h.fm
  · rw [hw']; exact (h.md.below hba).set_ g j _ (h.fresh g hgm)
end
theorem far4 {w : World} {b g j : Nat} {v : Value} (hj : j < 4) : (w.setCell ⟨b, 4, none⟩ v).cell? ⟨g, j, none⟩ = w.cell? ⟨g, j, none⟩ :=
  World.cell?_setCell_other _ _ _ _ (by intro hh; cases hh; omega)
theorem Nd.set4 {w : World} {b g : Nat} {v : Value} {l r : Option Addr} {o : Option Int} (h : Nd w g l r o) : Nd (w.setCell ⟨b, 4, none⟩ v) g l r o :=
  ⟨by rw [set_size]; exact h.lt, (far4 (by omega)).trans h.c0, (far4 (by omega)).trans h.c1, (far4 (by omega)).trans h.c2, (far4 (by omega)).trans h.c3, fun i hi => by rw [World.frozen?_setCell]; exact h.f i hi⟩
theorem h_set4 {w : World} {b : Nat} {v : Value} : ∀ (t : Tri) (p : Option Addr) (F : List Nat), Holds w t p F → Holds (w.setCell ⟨b, 4, none⟩ v) t p F
  | .nil, _, _, h => h
  | .node l r o, _, _, ⟨g, pl, pr, Fl, Gr, hp, hF, hN, hL, hR⟩ => ⟨g, pl, pr, Fl, Gr, hp, hF, hN.set4, h_set4 l _ _ hL, h_set4 r _ _ hR⟩
theorem PutAt.set4 {w0 wr : World} {b : Nat} {t ti : Tri} {F Fi : List Nat} {kb : List Bool} {i g : Nat} (h : PutAt w0 b t F kb i wr ti Fi g) (v : Value) :
    Holds (wr.setCell ⟨b, 4, none⟩ v) ti (some ⟨b, 0, none⟩) Fi ∧ Loc (wr.setCell ⟨b, 4, none⟩ v) (kb.take i) ti (some ⟨b, 0, none⟩) (some ⟨g, 0, none⟩) ∧ (wr.setCell ⟨b, 4, none⟩ v).cell? ⟨b, 4, none⟩ = some v ∧ Md F w0 (wr.setCell ⟨b, 4, none⟩ v) :=
  ⟨h_set4 _ _ _ h.hold, l_same (fun g' j hj u hu => (far4 (by omega)).trans hu) _ _ _ _ h.loc, World.cell?_setCell_same _ _ _ h.many, h.md.set_ b 4 v (h.fresh b h.hold.mem)⟩
/-- The value at a place is set. -/
theorem fin_set {w0 wx : World} {b g : Nat} {t : Tri} {F Fi : List Nat} {kb : List Bool} {m : Int} {l r : Option Addr} {o : Option Int} (x : Option Int)
    (hold : Holds wx t (some ⟨b, 0, none⟩) Fi) (nd : Fi.Nodup) (fresh : ∀ z, z ∈ Fi → z ∈ F ∨ w0.heap.size ≤ z) (loc : Loc wx kb t (some ⟨b, 0, none⟩) (some ⟨g, 0, none⟩)) (many : wx.cell? ⟨b, 4, none⟩ = some (.int .i64 m)) (fm : wx.frozen? ⟨b, 4, none⟩ = false) (md : Md F w0 wx) (hN : Nd wx g l r o) :
    ∃ F', Holds ((wx.setCell ⟨g, 2, none⟩ (.bool x.isSome)).setCell ⟨g, 3, none⟩ (.int .i64 (x.getD 0))) (at_ (setv x) kb t) (some ⟨b, 0, none⟩) F' ∧ F'.Nodup ∧ (∀ z, z ∈ F' → z ∈ F ∨ w0.heap.size ≤ z) ∧
      ((wx.setCell ⟨g, 2, none⟩ (.bool x.isSome)).setCell ⟨g, 3, none⟩ (.int .i64 (x.getD 0))).cell? ⟨b, 4, none⟩ = some (.int .i64 m) ∧ ((wx.setCell ⟨g, 2, none⟩ (.bool x.isSome)).setCell ⟨g, 3, none⟩ (.int .i64 (x.getD 0))).frozen? ⟨b, 4, none⟩ = false ∧
      Md F w0 ((wx.setCell ⟨g, 2, none⟩ (.bool x.isSome)).setCell ⟨g, 3, none⟩ (.int .i64 (x.getD 0))) ∧ sub kb t ≠ .nil ∧ Loc ((wx.setCell ⟨g, 2, none⟩ (.bool x.isSome)).setCell ⟨g, 3, none⟩ (.int .i64 (x.getD 0))) kb (at_ (setv x) kb t) (some ⟨b, 0, none⟩) (some ⟨g, 0, none⟩) := by
  obtain ⟨w', hw'⟩ : ∃ w', w' = (wx.setCell ⟨g, 2, none⟩ (.bool x.isSome)).setCell ⟨g, 3, none⟩ (.int .i64 (x.getD 0)) := ⟨_, rfl⟩
  rw [← hw']
  obtain ⟨Fx, hS, hsub⟩ := Holds.sub _ t _ _ Fi hold loc
  have hgm := hsub g hS.mem
  have hne : sub kb t ≠ .nil := fun e => by rw [e] at hS; exact absurd hS.1 (by simp)
  have hot : ∀ k, k < wx.heap.size → k ≠ g → w'.heap[k]? = wx.heap[k]? := fun k hk hk2 => by
    rw [hw', set_other k (by rw [set_size]; exact hk) hk2, set_other k hk hk2]
  have hN' : Nd w' g l r x := by
    subst hw'
    refine ⟨by rw [set_size, set_size]; exact hN.lt, ?_, ?_, ?_, ?_, fun k hk => by rw [World.frozen?_setCell, World.frozen?_setCell]; exact hN.f k hk⟩
    · rw [set_cell (set_cell hN.c0)]; rfl
    · rw [set_cell (set_cell hN.c1)]; rfl
    · rw [set_cell (set_cell hN.c2)]; rfl
    · rw [set_cell (set_cell hN.c3)]; rfl
  obtain ⟨F', k1, k2, k3⟩ := h_at (w' := w') (setv x) g hot kb t _ Fi hold nd loc (fun Fg hg hgn => by
    cases hs : sub kb t with
    | nil => exact absurd hs hne
    | node a c d =>
      rw [hs] at hg
      obtain ⟨g3, ql, qr, Gl, Gr, hp, hF, hM, hL, hR⟩ := hg
      cases hp
      obtain rfl : ql = l := by have := hM.c0; rw [hN.c0] at this; cases this; rfl
      obtain rfl : qr = r := by have := hM.c1; rw [hN.c1] at this; cases this; rfl
      subst hF
      have n1 : g ∉ Gl ++ Gr := (List.nodup_cons.1 hgn).1
      exact ⟨_, ⟨g, ql, qr, Gl, Gr, rfl, rfl, hN', hL.same (fun z hz => hot z (hL.lt z hz) (fun e => n1 (e ▸ List.mem_append.2 (.inl hz)))), hR.same (fun z hz => hot z (hR.lt z hz) (fun e => n1 (e ▸ List.mem_append.2 (.inr hz))))⟩, hgn, fun z hz => .inl hz⟩)
  have hsz : w0.heap.size ≤ wx.heap.size := md.size
  refine ⟨F', k1, k2, fun z hz => ?_, ?_, ?_, ?_, hne, l_at (w' := w') (setv x) g hot kb t _ Fi hold nd loc⟩
  · rcases k3 z hz with hm | hm
    · exact fresh z hm
    · exact .inr (Nat.le_trans hsz hm)
  · rw [hw']
    by_cases hbg : b = g
    · subst hbg; rw [set_cell (set_cell many)]; rfl
    · rw [World.cell?_setCell_other _ _ _ _ (by intro hh; cases hh), World.cell?_setCell_other _ _ _ _ (by intro hh; cases hh)]; exact many
  · rw [hw', World.frozen?_setCell, World.frozen?_setCell]; exact fm
  · rw [hw']; exact (md.set_ g 2 _ (fresh g hgm)).set_ g 3 _ (fresh g hgm)
/-- What a writer leaves. -/
def Wrote (w0 : World) (b : Nat) (F : List Nat) (t' : Tri) (w' : World) : Prop := Md F w0 w' ∧ ∃ F', Tr w' b t' F' ∧ ∀ z, z ∈ F' → z ∈ F ∨ w0.heap.size ≤ z
theorem fin_tr {w0 wx : World} {b g : Nat} {t : Tri} {F Fi : List Nat} {kb : List Bool} {l r : Option Addr} {o : Option Int} (x : Option Int) {m : Int} (hm : m = (Tri.cnt (at_ (setv x) kb t) : Nat))
    (hold : Holds wx t (some ⟨b, 0, none⟩) Fi) (nd : Fi.Nodup) (fresh : ∀ z, z ∈ Fi → z ∈ F ∨ w0.heap.size ≤ z) (loc : Loc wx kb t (some ⟨b, 0, none⟩) (some ⟨g, 0, none⟩)) (many : wx.cell? ⟨b, 4, none⟩ = some (.int .i64 m)) (fm : wx.frozen? ⟨b, 4, none⟩ = false) (md : Md F w0 wx) (hN : Nd wx g l r o) :
    Wrote w0 b F (at_ (setv x) kb t) ((wx.setCell ⟨g, 2, none⟩ (.bool x.isSome)).setCell ⟨g, 3, none⟩ (.int .i64 (x.getD 0))) := by
  obtain ⟨F', k1, k2, k3, k4, k5, k6, _⟩ := fin_set x hold nd fresh loc many fm md hN
  exact ⟨k6, F', ⟨k1, k2, by rw [k4, hm], k5⟩, k3⟩
theorem put_fin {w0 wr : World} {b : Nat} {t ti : Tri} {F Fi : List Nat} {kb : List Bool} {i g : Nat} (h : PutAt w0 b t F kb i wr ti Fi g) (hi : kb.length = i) {l r : Tri} {pl pr : Option Addr} {o : Option Int} (hN : Nd wr g pl pr o) (hs : sub (kb.take i) ti = .node l r o) (v : Int) :
    (o = none → Wrote w0 b F (Tri.put v kb t) (((wr.setCell ⟨b, 4, none⟩ (.int .i64 ((Tri.cnt t : Nat) + 1))).setCell ⟨g, 2, none⟩ (.bool true)).setCell ⟨g, 3, none⟩ (.int .i64 v))) ∧
    (o ≠ none → Wrote w0 b F (Tri.put v kb t) ((wr.setCell ⟨g, 2, none⟩ (.bool true)).setCell ⟨g, 3, none⟩ (.int .i64 v))) := by
  have hk : kb.take i = kb := by rw [← hi, List.take_length]
  have hloc := h.loc
  rw [hk] at hs hloc
  have hne : sub kb ti ≠ .nil := by rw [hs]; exact fun e => by cases e
  have hp : at_ (setv (some v)) kb ti = Tri.put v kb t := by rw [put_set v kb ti hne, h.put]
  have hg : Tri.get kb t = o := by rw [← h.get, get_sub, hs]; rfl
  have hc := Tri.cnt_put v kb t
  rw [hg] at hc
  constructor
  · rintro rfl
    obtain ⟨a1, a2, a3, a4⟩ := h.set4 (.int .i64 ((Tri.cnt t : Nat) + 1))
    rw [hk] at a2
    rw [← hp]
    exact fin_tr (some v) (by rw [hp, hc]; simp) a1 h.nd h.fresh a2 a3 (by rw [World.frozen?_setCell]; exact h.fm) a4 hN.set4
  · intro ho
    rw [← hp]
    refine fin_tr (some v) ?_ h.hold h.nd h.fresh hloc h.many h.fm h.md hN
    rw [hp, hc]
    cases o with
    | none => exact absurd rfl ho
    | some x => simp
set_option maxHeartbeats 4000000 in
set_option maxRecDepth 100000 in
theorem put_bad (b : Nat) (s : ByteArray) (n v x : Int) (hx : ∃ k, trie_prefix.f k s n = some x) (hne : x ≠ 0) (w : World) :
    Calls Try.prog 14 #[.pointer (some ⟨b, 0, none⟩), .string s, .int .i64 n, .int .i64 v] w fun e w' => e = .returned (.int .i64 x) ∧ Below w.heap.size w w' := by
  have hb : (x == 0) = false := beq_false_of_ne hne
  go_enter Try.func14, Try.ntmps14
  go_wp2_with fail
  go_at_call 26
  (with_reducible refine (pre_c s n x hx _).mono ?_)
  rintro e u ⟨rfl, hb1⟩
  have HB := Aside0.mk hb1
  clear hb1
  go_wp2_with fail
  go_ret
  exact ⟨rfl, HB.out⟩
set_option maxHeartbeats 8000000 in
set_option maxRecDepth 100000 in
theorem put_ok (b : Nat) (t : Tri) (F : List Nat) (s : ByteArray) (n : Nat) (v : Int) (hn : n ≤ 8 * s.size) (hs : s.size ≤ 140737488351232) (w : World) (hx : ∃ k, trie_prefix.f k s n = some 0) (hT : Tr w b t F) (hcnt : Tri.cnt t ≤ 1000000) :
    Calls Try.prog 14 #[.pointer (some ⟨b, 0, none⟩), .string s, .int .i64 n, .int .i64 v] w fun e w' => e = .returned (.int .i64 0) ∧ Wrote w b F (Tri.put v (kbits s.data.toList n) t) w' := by
  have HT := Aside0.mk hT
  clear hT
  have hn1 : (n : Int) ≤ 1125899906809856 := by omega
  have HZ := Aside0.mk hs
  have HF := Aside0.mk hn
  have HC := Aside0.mk hcnt
  have hc1 : ((Tri.cnt t : Nat) : Int) ≤ 1000000 := by omega
  clear hn hs hcnt
  go_enter Try.func14, Try.ntmps14
  go_wp2_with fail
  go_at_call 26
  (with_reducible refine (pre_c s n 0 hx _).mono ?_)
  rintro e u ⟨rfl, hb1⟩
  have HB := Aside0.mk hb1
  clear hb1
  go_wp2_with fail
  go_loopg [10, 25] n (fun d v10 v25 wr => ∃ (i : Nat) (ti : Tri) (Fi : List Nat) (g : Nat), v10 = .pointer (some ⟨g, 0, none⟩) ∧ v25 = .int .i64 i ∧ Aside0 (i + d = n) ∧ Aside0 (PutAt w b t F (kbits s.data.toList n) i wr ti Fi g))
  case atStart =>
    have h := HT.out.below HB.out
    exact ⟨0, t, F, b, rfl, rfl, ⟨by omega⟩, ⟨h.hold, h.nd, fun z hz => .inl hz, rfl, fun _ => rfl, rfl, h.many, h.fm, (Md.refl F w).below HB.out⟩⟩
  case round =>
    clear HB
    obtain ⟨i, ti, Fi, g, h10, h25, HD, HP⟩ := hrel
    subst h10 h25
    obtain ⟨l, r, o, pl, pr, hsub, hN, hgm⟩ := HP.out.node
    have HN := Aside0.mk hN
    have HS := Aside0.mk hsub
    clear hsub hgm
    by_cases hi : i < n
    · have HI := Aside0.mk (show i < 8 * s.size by have := HF.out; omega)
      have hkl : i < (kbits s.data.toList n).length := by rw [bits_length]; exact hi
      have hkb : (kbits s.data.toList n)[i] = tb s i := by simp [kbits, tb]
      cases hb : tb s i
      · rw [hb] at hkb
        have HKB := Aside0.mk (show ∃ h : i < (kbits s.data.toList n).length, (kbits s.data.toList n)[i] = _ from ⟨hkl, hkb⟩)
        cases pl with
        | none =>
          clear hN hkb hkl
          go_wp2_with fail
          refine wp_region_any (by kernel_rfl) ?_
          change wpAny _ _ _ _ _ _ _ (World.drew _)
          refine any_var (fun A hA => ?_)
          have s1 : A.eval (.tmp 1) = Value.string s := by rw [hA]; rfl
          have s10 : A.eval (.tmp 10) = Value.pointer (some ⟨g, 0, none⟩) := by rw [hA]; rfl
          have s11 : A.eval (.tmp 11) = Value.int .i64 (i : Int) := by rw [hA]; rfl
          haveI HFr : Fr 66 A := ⟨by rw [hA]; exact Nat.le_refl _⟩
          have HAA := Aside0.mk hA
          clear hA
          refine reg_pure 0 (some 28) (v := Value.pointer (some ⟨g, 0, none⟩)) rfl (by kernel_rfl) (by kernel_rfl) (by kernel_rfl) rfl (fun _ _ _ h => h) (wanted_none rfl) (ro_move (.inl rfl) s10) ?_
          refine reg_pure 1 (some 29) (v := Value.string s) rfl (by kernel_rfl) (by kernel_rfl) (by kernel_rfl) rfl (fun _ _ _ h => h) (wanted_none rfl) (ro_move (.inl rfl) (ev_ne (by decide) s1)) ?_
          refine reg_pure 2 (some 30) (v := Value.int .i64 (i : Int)) rfl (by kernel_rfl) (by kernel_rfl) (by kernel_rfl) rfl (fun _ _ _ h => h) (wanted_none rfl) (ro_move (.inl rfl) (ev_ne (by decide) (ev_ne (by decide) s11))) ?_
          refine reg_pure 4 (some 32) (v := Value.pointer (some ⟨g, 0, none⟩)) rfl (by kernel_rfl) (by kernel_rfl) (by kernel_rfl) rfl (fun _ _ _ h => h) (wanted_none rfl) (ro_nil rfl (ev_ne (by decide) (ev_ne (by decide) (ev_eq (by decide))))) ?_
          refine reg_pure 5 (some 33) (v := Value.pointer (some ⟨g, 0, none⟩)) rfl (by kernel_rfl) (by kernel_rfl) (by kernel_rfl) rfl (fun _ _ _ h => h) (wanted_none rfl) (ro_field rfl (ev_eq (by decide)) (fun w => by go_simp)) ?_
          refine wpAny_ready (rs := [3]) (by kernel_rfl) (by simp) ?_
          refine br_call 3 (some 31) 24 #[Value.string s, Value.int .i64 (i : Int)] rfl rfl (wanted_none rfl) rfl (map2 (ev_ne (by decide) (ev_ne (by decide) (ev_ne (by decide) (ev_eq (by decide))))) (ev_ne (by decide) (ev_ne (by decide) (ev_eq (by decide))))) (fun args w => by kernel_rfl) (bit_v s i HI.out HZ.out _ 0 (by rw [hb]; rfl)) ?_ ?_
          · rintro e u2 ⟨rfl, hb2⟩
            have hb3 := below_step (pw_below_drewN (Below.refl wr.heap.size wr) 1) hb2
            have HP2 := Aside0.mk (HP.out.below hb3)
            have hN2 := HN.out.same (hb3.block g HN.out.lt)
            have HN2 := Aside0.mk hN2
            have cc := hN2.c0
            have cf := hN2.f 0 (by omega)
            have cl := hN2.lt
            clear hb2 hb3 hN2
            refine ⟨_, rfl, ?_⟩
            refine reg_pure 6 (some 34) (v := Value.pointer (some ⟨g, 0, none⟩)) rfl (by kernel_rfl) (by kernel_rfl) (by kernel_rfl) rfl (fun _ _ _ h => h) (wanted_none rfl) (ro_iaddr rfl (ev_ne (by decide) (ev_eq (by decide))) (ev_eq (by decide)) (fun w => by go_simp)) ?_
            refine reg_pure 7 (some 12) (v := Value.pointer (some ⟨g, 0, none⟩)) rfl (by kernel_rfl) (by kernel_rfl) (by kernel_rfl) rfl (fun _ _ _ h => h) (wanted_none rfl) (ro_move (.inr rfl) (ev_eq (by decide))) ?_
            refine reg_done (by kernel_rfl) ?_
            have hA := HAA.out
            subst hA
            simp only [Act.put, List.setIfInBounds_toArray, List.set_cons_zero, List.set_cons_succ]
            clear HAA HFr s1 s10 s11
            go_wp2_with fail
            clear cc cf cl
            obtain ⟨tj, Fj, HM⟩ := HP2.out.make HKB.out.1 (c := false) HKB.out.2 HN2.out rfl (j := 0) rfl
            rw [World.setCell_alloc_past _ _ _ _ HN2.out.lt] at HM
            go_roundg (n - 1 - i)
            case measure => have := HD.out; omega
            case rel => exact ⟨i + 1, tj, Fj, _, rfl, by go_num, ⟨by have := HD.out; omega⟩, ⟨HM⟩⟩
          exact AllReady.nil
        | some y =>
          obtain ⟨g3, rfl, h3⟩ := HP.out.down hkl hkb hN (g2 := y) rfl
          have H3 := Aside0.mk h3
          clear hN hkb hkl h3
          go_wp2_with fail
          refine wp_region_any (by kernel_rfl) ?_
          change wpAny _ _ _ _ _ _ _ (World.drew _)
          refine any_var (fun A hA => ?_)
          have s1 : A.eval (.tmp 1) = Value.string s := by rw [hA]; rfl
          have s10 : A.eval (.tmp 10) = Value.pointer (some ⟨g, 0, none⟩) := by rw [hA]; rfl
          have s11 : A.eval (.tmp 11) = Value.int .i64 (i : Int) := by rw [hA]; rfl
          haveI HFr : Fr 66 A := ⟨by rw [hA]; exact Nat.le_refl _⟩
          have HAA := Aside0.mk hA
          clear hA
          refine reg_pure 0 (some 28) (v := Value.pointer (some ⟨g, 0, none⟩)) rfl (by kernel_rfl) (by kernel_rfl) (by kernel_rfl) rfl (fun _ _ _ h => h) (wanted_none rfl) (ro_move (.inl rfl) s10) ?_
          refine reg_pure 1 (some 29) (v := Value.string s) rfl (by kernel_rfl) (by kernel_rfl) (by kernel_rfl) rfl (fun _ _ _ h => h) (wanted_none rfl) (ro_move (.inl rfl) (ev_ne (by decide) s1)) ?_
          refine reg_pure 2 (some 30) (v := Value.int .i64 (i : Int)) rfl (by kernel_rfl) (by kernel_rfl) (by kernel_rfl) rfl (fun _ _ _ h => h) (wanted_none rfl) (ro_move (.inl rfl) (ev_ne (by decide) (ev_ne (by decide) s11))) ?_
          refine reg_pure 4 (some 32) (v := Value.pointer (some ⟨g, 0, none⟩)) rfl (by kernel_rfl) (by kernel_rfl) (by kernel_rfl) rfl (fun _ _ _ h => h) (wanted_none rfl) (ro_nil rfl (ev_ne (by decide) (ev_ne (by decide) (ev_eq (by decide))))) ?_
          refine reg_pure 5 (some 33) (v := Value.pointer (some ⟨g, 0, none⟩)) rfl (by kernel_rfl) (by kernel_rfl) (by kernel_rfl) rfl (fun _ _ _ h => h) (wanted_none rfl) (ro_field rfl (ev_eq (by decide)) (fun w => by go_simp)) ?_
          refine wpAny_ready (rs := [3]) (by kernel_rfl) (by simp) ?_
          refine br_call 3 (some 31) 24 #[Value.string s, Value.int .i64 (i : Int)] rfl rfl (wanted_none rfl) rfl (map2 (ev_ne (by decide) (ev_ne (by decide) (ev_ne (by decide) (ev_eq (by decide))))) (ev_ne (by decide) (ev_ne (by decide) (ev_eq (by decide))))) (fun args w => by kernel_rfl) (bit_v s i HI.out HZ.out _ 0 (by rw [hb]; rfl)) ?_ ?_
          · rintro e u2 ⟨rfl, hb2⟩
            have hb3 := below_step (pw_below_drewN (Below.refl wr.heap.size wr) 1) hb2
            have HP2 := Aside0.mk (HP.out.below hb3)
            have hN2 := HN.out.same (hb3.block g HN.out.lt)
            have HN2 := Aside0.mk hN2
            have cc := hN2.c0
            have cf := hN2.f 0 (by omega)
            have cl := hN2.lt
            have HB2 := Aside0.mk hb3
            clear hb2 hb3 hN2
            refine ⟨_, rfl, ?_⟩
            refine reg_pure 6 (some 34) (v := Value.pointer (some ⟨g, 0, none⟩)) rfl (by kernel_rfl) (by kernel_rfl) (by kernel_rfl) rfl (fun _ _ _ h => h) (wanted_none rfl) (ro_iaddr rfl (ev_ne (by decide) (ev_eq (by decide))) (ev_eq (by decide)) (fun w => by go_simp)) ?_
            refine reg_pure 7 (some 12) (v := Value.pointer (some ⟨g, 0, none⟩)) rfl (by kernel_rfl) (by kernel_rfl) (by kernel_rfl) rfl (fun _ _ _ h => h) (wanted_none rfl) (ro_move (.inr rfl) (ev_eq (by decide))) ?_
            refine reg_done (by kernel_rfl) ?_
            have hA := HAA.out
            subst hA
            simp only [Act.put, List.setIfInBounds_toArray, List.set_cons_zero, List.set_cons_succ]
            clear HAA HFr s1 s10 s11
            go_wp2_with fail
            clear cc cf cl
            go_roundg (n - 1 - i)
            case measure => have := HD.out; omega
            case rel => exact ⟨i + 1, ti, Fi, g3, rfl, by go_num, ⟨by have := HD.out; omega⟩, ⟨H3.out.below HB2.out⟩⟩
          exact AllReady.nil
      · rw [hb] at hkb
        have HKB := Aside0.mk (show ∃ h : i < (kbits s.data.toList n).length, (kbits s.data.toList n)[i] = _ from ⟨hkl, hkb⟩)
        cases pr with
        | none =>
          clear hN hkb hkl
          go_wp2_with fail
          refine wp_region_any (by kernel_rfl) ?_
          change wpAny _ _ _ _ _ _ _ (World.drew _)
          refine any_var (fun A hA => ?_)
          have s1 : A.eval (.tmp 1) = Value.string s := by rw [hA]; rfl
          have s10 : A.eval (.tmp 10) = Value.pointer (some ⟨g, 0, none⟩) := by rw [hA]; rfl
          have s11 : A.eval (.tmp 11) = Value.int .i64 (i : Int) := by rw [hA]; rfl
          haveI HFr : Fr 66 A := ⟨by rw [hA]; exact Nat.le_refl _⟩
          have HAA := Aside0.mk hA
          clear hA
          refine reg_pure 0 (some 28) (v := Value.pointer (some ⟨g, 0, none⟩)) rfl (by kernel_rfl) (by kernel_rfl) (by kernel_rfl) rfl (fun _ _ _ h => h) (wanted_none rfl) (ro_move (.inl rfl) s10) ?_
          refine reg_pure 1 (some 29) (v := Value.string s) rfl (by kernel_rfl) (by kernel_rfl) (by kernel_rfl) rfl (fun _ _ _ h => h) (wanted_none rfl) (ro_move (.inl rfl) (ev_ne (by decide) s1)) ?_
          refine reg_pure 2 (some 30) (v := Value.int .i64 (i : Int)) rfl (by kernel_rfl) (by kernel_rfl) (by kernel_rfl) rfl (fun _ _ _ h => h) (wanted_none rfl) (ro_move (.inl rfl) (ev_ne (by decide) (ev_ne (by decide) s11))) ?_
          refine reg_pure 4 (some 32) (v := Value.pointer (some ⟨g, 0, none⟩)) rfl (by kernel_rfl) (by kernel_rfl) (by kernel_rfl) rfl (fun _ _ _ h => h) (wanted_none rfl) (ro_nil rfl (ev_ne (by decide) (ev_ne (by decide) (ev_eq (by decide))))) ?_
          refine reg_pure 5 (some 33) (v := Value.pointer (some ⟨g, 0, none⟩)) rfl (by kernel_rfl) (by kernel_rfl) (by kernel_rfl) rfl (fun _ _ _ h => h) (wanted_none rfl) (ro_field rfl (ev_eq (by decide)) (fun w => by go_simp)) ?_
          refine wpAny_ready (rs := [3]) (by kernel_rfl) (by simp) ?_
          refine br_call 3 (some 31) 24 #[Value.string s, Value.int .i64 (i : Int)] rfl rfl (wanted_none rfl) rfl (map2 (ev_ne (by decide) (ev_ne (by decide) (ev_ne (by decide) (ev_eq (by decide))))) (ev_ne (by decide) (ev_ne (by decide) (ev_eq (by decide))))) (fun args w => by kernel_rfl) (bit_v s i HI.out HZ.out _ 1 (by rw [hb]; rfl)) ?_ ?_
          · rintro e u2 ⟨rfl, hb2⟩
            have hb3 := below_step (pw_below_drewN (Below.refl wr.heap.size wr) 1) hb2
            have HP2 := Aside0.mk (HP.out.below hb3)
            have hN2 := HN.out.same (hb3.block g HN.out.lt)
            have HN2 := Aside0.mk hN2
            have cc := hN2.c1
            have cf := hN2.f 1 (by omega)
            have cl := hN2.lt
            clear hb2 hb3 hN2
            refine ⟨_, rfl, ?_⟩
            refine reg_pure 6 (some 34) (v := Value.pointer (some ⟨g, 1, none⟩)) rfl (by kernel_rfl) (by kernel_rfl) (by kernel_rfl) rfl (fun _ _ _ h => h) (wanted_none rfl) (ro_iaddr rfl (ev_ne (by decide) (ev_eq (by decide))) (ev_eq (by decide)) (fun w => by go_simp)) ?_
            refine reg_pure 7 (some 12) (v := Value.pointer (some ⟨g, 1, none⟩)) rfl (by kernel_rfl) (by kernel_rfl) (by kernel_rfl) rfl (fun _ _ _ h => h) (wanted_none rfl) (ro_move (.inr rfl) (ev_eq (by decide))) ?_
            refine reg_done (by kernel_rfl) ?_
            have hA := HAA.out
            subst hA
            simp only [Act.put, List.setIfInBounds_toArray, List.set_cons_zero, List.set_cons_succ]
            clear HAA HFr s1 s10 s11
            go_wp2_with fail
            clear cc cf cl
            obtain ⟨tj, Fj, HM⟩ := HP2.out.make HKB.out.1 (c := true) HKB.out.2 HN2.out rfl (j := 1) rfl
            rw [World.setCell_alloc_past _ _ _ _ HN2.out.lt] at HM
            go_roundg (n - 1 - i)
            case measure => have := HD.out; omega
            case rel => exact ⟨i + 1, tj, Fj, _, rfl, by go_num, ⟨by have := HD.out; omega⟩, ⟨HM⟩⟩
          exact AllReady.nil
        | some y =>
          obtain ⟨g3, rfl, h3⟩ := HP.out.down hkl hkb hN (g2 := y) rfl
          have H3 := Aside0.mk h3
          clear hN hkb hkl h3
          go_wp2_with fail
          refine wp_region_any (by kernel_rfl) ?_
          change wpAny _ _ _ _ _ _ _ (World.drew _)
          refine any_var (fun A hA => ?_)
          have s1 : A.eval (.tmp 1) = Value.string s := by rw [hA]; rfl
          have s10 : A.eval (.tmp 10) = Value.pointer (some ⟨g, 0, none⟩) := by rw [hA]; rfl
          have s11 : A.eval (.tmp 11) = Value.int .i64 (i : Int) := by rw [hA]; rfl
          haveI HFr : Fr 66 A := ⟨by rw [hA]; exact Nat.le_refl _⟩
          have HAA := Aside0.mk hA
          clear hA
          refine reg_pure 0 (some 28) (v := Value.pointer (some ⟨g, 0, none⟩)) rfl (by kernel_rfl) (by kernel_rfl) (by kernel_rfl) rfl (fun _ _ _ h => h) (wanted_none rfl) (ro_move (.inl rfl) s10) ?_
          refine reg_pure 1 (some 29) (v := Value.string s) rfl (by kernel_rfl) (by kernel_rfl) (by kernel_rfl) rfl (fun _ _ _ h => h) (wanted_none rfl) (ro_move (.inl rfl) (ev_ne (by decide) s1)) ?_
          refine reg_pure 2 (some 30) (v := Value.int .i64 (i : Int)) rfl (by kernel_rfl) (by kernel_rfl) (by kernel_rfl) rfl (fun _ _ _ h => h) (wanted_none rfl) (ro_move (.inl rfl) (ev_ne (by decide) (ev_ne (by decide) s11))) ?_
          refine reg_pure 4 (some 32) (v := Value.pointer (some ⟨g, 0, none⟩)) rfl (by kernel_rfl) (by kernel_rfl) (by kernel_rfl) rfl (fun _ _ _ h => h) (wanted_none rfl) (ro_nil rfl (ev_ne (by decide) (ev_ne (by decide) (ev_eq (by decide))))) ?_
          refine reg_pure 5 (some 33) (v := Value.pointer (some ⟨g, 0, none⟩)) rfl (by kernel_rfl) (by kernel_rfl) (by kernel_rfl) rfl (fun _ _ _ h => h) (wanted_none rfl) (ro_field rfl (ev_eq (by decide)) (fun w => by go_simp)) ?_
          refine wpAny_ready (rs := [3]) (by kernel_rfl) (by simp) ?_
          refine br_call 3 (some 31) 24 #[Value.string s, Value.int .i64 (i : Int)] rfl rfl (wanted_none rfl) rfl (map2 (ev_ne (by decide) (ev_ne (by decide) (ev_ne (by decide) (ev_eq (by decide))))) (ev_ne (by decide) (ev_ne (by decide) (ev_eq (by decide))))) (fun args w => by kernel_rfl) (bit_v s i HI.out HZ.out _ 1 (by rw [hb]; rfl)) ?_ ?_
          · rintro e u2 ⟨rfl, hb2⟩
            have hb3 := below_step (pw_below_drewN (Below.refl wr.heap.size wr) 1) hb2
            have HP2 := Aside0.mk (HP.out.below hb3)
            have hN2 := HN.out.same (hb3.block g HN.out.lt)
            have HN2 := Aside0.mk hN2
            have cc := hN2.c1
            have cf := hN2.f 1 (by omega)
            have cl := hN2.lt
            have HB2 := Aside0.mk hb3
            clear hb2 hb3 hN2
            refine ⟨_, rfl, ?_⟩
            refine reg_pure 6 (some 34) (v := Value.pointer (some ⟨g, 1, none⟩)) rfl (by kernel_rfl) (by kernel_rfl) (by kernel_rfl) rfl (fun _ _ _ h => h) (wanted_none rfl) (ro_iaddr rfl (ev_ne (by decide) (ev_eq (by decide))) (ev_eq (by decide)) (fun w => by go_simp)) ?_
            refine reg_pure 7 (some 12) (v := Value.pointer (some ⟨g, 1, none⟩)) rfl (by kernel_rfl) (by kernel_rfl) (by kernel_rfl) rfl (fun _ _ _ h => h) (wanted_none rfl) (ro_move (.inr rfl) (ev_eq (by decide))) ?_
            refine reg_done (by kernel_rfl) ?_
            have hA := HAA.out
            subst hA
            simp only [Act.put, List.setIfInBounds_toArray, List.set_cons_zero, List.set_cons_succ]
            clear HAA HFr s1 s10 s11
            go_wp2_with fail
            clear cc cf cl
            go_roundg (n - 1 - i)
            case measure => have := HD.out; omega
            case rel => exact ⟨i + 1, ti, Fi, g3, rfl, by go_num, ⟨by have := HD.out; omega⟩, ⟨H3.out.below HB2.out⟩⟩
          exact AllReady.nil
    · have hin : i = n := by have := HD.out; omega
      subst hin
      have cv := hN.c2
      have cw := hN.c3
      have cvf := hN.f 2 (by omega)
      have cwf := hN.f 3 (by omega)
      have cl := hN.lt
      have cm := HP.out.many
      have cmf := HP.out.fm
      have hbl := HP.out.hold.lt b HP.out.hold.mem
      cases o with
      | none =>
        clear hN
        go_wp2_with fail
        clear cv cw cvf cwf cl cm cmf hbl
        go_ret
        have hw : IntKind.i64.wrap ((Tri.cnt t : Nat) + 1 : Int) = (Tri.cnt t : Nat) + 1 := by rw [IntKind.wrap_i64]; omega
        try rw [hw]
        exact ⟨rfl, (put_fin HP.out (bits_length _ _) HN.out HS.out v).1 rfl⟩
      | some x =>
        clear hN
        go_wp2_with fail
        clear cv cw cvf cwf cl cm cmf hbl
        go_ret
        exact ⟨rfl, (put_fin HP.out (bits_length _ _) HN.out HS.out v).2 (by simp)⟩
end Go.Proofs.Ytpchlnbnpgaocaa.PTrie
