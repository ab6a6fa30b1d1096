/- A trie in memory: what Del does. -/
import Derived.Test.YtpchlnbnpgaocaaKTrie4
namespace Go.Proofs.Ytpchlnbnpgaocaa.PTrie
open Go.Proofs.Ytpchlnbnpgaocaa.KTree Go.Proofs.Ytpchlnbnpgaocaa.KReg Go.Proofs.Ytpchlnbnpgaocaa.KBits Go.RowKit Go.Proofs.YtpchlnbnpgaocaaW.PrintWords Go.Proofs.YtpchlnbnpgaocaaW.PrintLast Go.Proofs.YtpchlnbnpgaocaaW.PrintMore
set_option linter.unusedVariables false
set_option linter.unusedSimpArgs false
theorem Md.mix {F G : List Nat} {a b c : World} (h : Md F a b) (k : Md G b c) (hf : ∀ z, z ∈ G → z ∈ F ∨ a.heap.size ≤ z) : Md F a c :=
  ⟨k.os.trans h.os, k.tape.trans h.tape, k.output.trans h.output, Nat.le_trans h.size k.size, fun i hi hn => (k.block i (Nat.lt_of_lt_of_le hi h.size) (fun hm => by rcases hf i hm with e | e; exact hn e; omega)).trans (h.block i hi hn)⟩
theorem del_a {w0 wx : World} {b g : Nat} {t : Tri} {F Fi : List Nat} {kb : List Bool} {m m2 : Int} {l r : Option Addr} {o : Option Int}
    (hold : Holds wx t (some ⟨b, 0, none⟩) Fi) (nd : Fi.Nodup) (fresh : ∀ z, z ∈ Fi → z ∈ F ∨ w0.heap.size ≤ z) (loc : Loc wx kb t (some ⟨b, 0, none⟩) (some ⟨g, 0, none⟩)) (many : wx.cell? ⟨b, 4, none⟩ = some (.int .i64 m)) (fm : wx.frozen? ⟨b, 4, none⟩ = false) (md : Md F w0 wx) (hN : Nd wx g l r o) :
    ∃ F', Holds (((wx.setCell ⟨g, 2, none⟩ (.bool false)).setCell ⟨g, 3, none⟩ (.int .i64 0)).setCell ⟨b, 4, none⟩ (.int .i64 m2)) (Tri.clear kb t) (some ⟨b, 0, none⟩) F' ∧ F'.Nodup ∧ (∀ z, z ∈ F' → z ∈ F ∨ w0.heap.size ≤ z) ∧
      (((wx.setCell ⟨g, 2, none⟩ (.bool false)).setCell ⟨g, 3, none⟩ (.int .i64 0)).setCell ⟨b, 4, none⟩ (.int .i64 m2)).cell? ⟨b, 4, none⟩ = some (.int .i64 m2) ∧ (((wx.setCell ⟨g, 2, none⟩ (.bool false)).setCell ⟨g, 3, none⟩ (.int .i64 0)).setCell ⟨b, 4, none⟩ (.int .i64 m2)).frozen? ⟨b, 4, none⟩ = false ∧
      Md F w0 (((wx.setCell ⟨g, 2, none⟩ (.bool false)).setCell ⟨g, 3, none⟩ (.int .i64 0)).setCell ⟨b, 4, none⟩ (.int .i64 m2)) ∧ sub kb (Tri.clear kb t) ≠ .nil := by
  obtain ⟨F', k1, k2, k3, k4, k5, k6, k7, k8⟩ := fin_set none hold nd fresh loc many fm md hN
  rw [clear_set] at k1 k8
  have hb := k3 b k1.mem
  refine ⟨F', h_set4 _ _ _ k1, k2, k3, World.cell?_setCell_same _ _ _ k4, by rw [World.frozen?_setCell]; exact k5, k6.set_ b 4 _ hb, ?_⟩
  obtain ⟨Fx, hS, _⟩ := Holds.sub _ _ _ _ F' k1 k8
  intro e
  rw [e] at hS
  exact absurd hS.1 (by simp)
theorem del_b {w0 w3 w4 : World} {b : Nat} {t : Tri} {F F' : List Nat} {kb : List Bool} {m : Int} (hm : m = (Tri.cnt (Tri.del kb t) : Nat)) (k3 : ∀ z, z ∈ F' → z ∈ F ∨ w0.heap.size ≤ z) (hold : Holds w3 (Tri.clear kb t) (some ⟨b, 0, none⟩) F') (many : w3.cell? ⟨b, 4, none⟩ = some (.int .i64 m)) (fm : w3.frozen? ⟨b, 4, none⟩ = false) (md : Md F w0 w3)
    (hP : Pruned w3 F' b (Tri.prune kb (Tri.clear kb t)) w4) : Wrote w0 b F (Tri.del kb t) w4 := by
  obtain ⟨⟨F2, h1, h2, h3⟩, hmd, hk⟩ := hP
  have hk4 := hk b (hold.lt b hold.mem)
  exact ⟨md.mix hmd k3, F2, ⟨h1, h2, by rw [hk4.1, many, hm], by rw [hk4.2, fm]⟩, fun z hz => k3 z (h3 z hz)⟩
theorem cnt_del {t : Tri} {kb : List Bool} {x : Int} (h : Tri.get kb t = some x) : ((Tri.cnt (Tri.del kb t) : Nat) : Int) = (Tri.cnt t : Nat) - 1 := by
  have := Tri.cnt_clear kb t
  rw [h] at this
  have h2 := Tri.cnt_prune kb (Tri.clear kb t)
  simp only [Tri.del]
  simp at this
  omega
theorem Wrote.below {w w' : World} {b : Nat} {t : Tri} {F : List Nat} (hT : Tr w b t F) (hb : Below w.heap.size w w') : Wrote w b F t w' := ⟨(Md.refl F w).below hb, F, hT.below hb, fun z hz => .inl hz⟩
set_option maxHeartbeats 8000000 in
set_option maxRecDepth 100000 in
theorem del_bad (b : Nat) (s : ByteArray) (n x : Int) (hx : ∃ k, trie_prefix.f k s n = some x) (hne : x ≠ 0) (w : World) :
    Calls Try.prog 17 #[.pointer (some ⟨b, 0, none⟩), .string s, .int .i64 n] w fun e w' => e = .returned (.bool false) ∧ Below w.heap.size w w' := by
  go_enter Try.func17, Try.ntmps17
  go_wp2_with fail
  go_at_call 27
  (with_reducible refine (at_bad b s n x hx hne _).mono ?_)
  rintro e u ⟨rfl, hb1⟩
  have HB := Aside0.mk hb1
  clear hb1
  go_wp2_with fail
  go_ret
  exact ⟨rfl, HB.out⟩
set_option maxHeartbeats 8000000 in
set_option maxRecDepth 100000 in
theorem del_ok (b : Nat) (t : Tri) (F : List Nat) (s : ByteArray) (n : Nat) (hn : n ≤ 8 * s.size) (hs : s.size ≤ 140737488351232) (w : World) (hx : ∃ k, trie_prefix.f k s n = some 0) (hT : Tr w b t F) (hcnt : Tri.cnt t ≤ 1000000) :
    Calls Try.prog 17 #[.pointer (some ⟨b, 0, none⟩), .string s, .int .i64 n] w fun e w' => e = .returned (.bool (Tri.get (kbits s.data.toList n) t).isSome) ∧ Wrote w b F (if (Tri.get (kbits s.data.toList n) t).isSome then Tri.del (kbits s.data.toList n) t else t) w' := by
  have HT := Aside0.mk hT
  clear hT
  obtain ⟨y, hy⟩ : ∃ y, y = Tri.get (kbits s.data.toList n) t := ⟨_, rfl⟩
  rw [← hy]
  have HG := Aside0.mk hy
  have hy2 := hy
  rw [get_sub] at hy2
  clear hy
  have HF := Aside0.mk (And.intro hn hs)
  clear hn hs
  have hc1 : ((Tri.cnt t : Nat) : Int) ≤ 1000000 := by omega
  clear hcnt
  cases hsub : sub (kbits s.data.toList n) t with
  | nil =>
    obtain rfl : y = none := by rw [hy2, hsub]; rfl
    have HS := Aside0.mk hsub
    clear hsub hy2
    go_enter Try.func17, Try.ntmps17
    go_wp2_with fail
    go_at_call 27
    (with_reducible refine (at_ok b t F s n HF.out.1 HF.out.2 _ hx HT.out.hold).mono ?_)
    rintro e u ⟨x, rfl, hb1, hl⟩
    have HB := Aside0.mk hb1
    obtain ⟨Fx, hS, _⟩ := Holds.sub _ t _ _ F (HT.out.hold.below hb1) hl
    rw [HS.out] at hS
    obtain rfl : x = none := hS.1
    clear hS hb1 hl
    go_wp2_with fail
    go_ret
    exact ⟨rfl, Wrote.below HT.out HB.out⟩
  | node l r o =>
    obtain rfl : y = o := by rw [hy2, hsub]; rfl
    have HS := Aside0.mk hsub
    clear hsub hy2
    go_enter Try.func17, Try.ntmps17
    go_wp2_with fail
    go_at_call 27
    (with_reducible refine (at_ok b t F s n HF.out.1 HF.out.2 _ hx HT.out.hold).mono ?_)
    rintro e u ⟨x, rfl, hb1, hl⟩
    have hT1 := HT.out.below hb1
    obtain ⟨Fx, hS, _⟩ := Holds.sub _ t _ _ F hT1.hold hl
    rw [HS.out] at hS
    obtain ⟨g, pl, pr, Gl, Gr, hp, _, hN, _, _⟩ := hS
    subst hp
    have HN := Aside0.mk hN
    have HL := Aside0.mk hl
    have HT1 := Aside0.mk hT1
    have HB := Aside0.mk hb1
    have c2 := hN.c2
    have c3 := hN.c3
    have cf2 := hN.f 2 (by omega)
    have cf3 := hN.f 3 (by omega)
    have cl := hN.lt
    have cm := hT1.many
    have cmf := hT1.fm
    have hbl := hT1.hold.lt b hT1.hold.mem
    clear hN hl hT1 hb1
    cases y with
    | none =>
      go_wp2_with fail
      go_ret
      exact ⟨rfl, Wrote.below HT.out HB.out⟩
    | some v =>
      go_wp2_with fail
      clear c2 c3 cf2 cf3 cl cm cmf hbl
      obtain ⟨F', k1, k2, k3, k4, k5, k6, k7⟩ := del_a (w0 := w) (F := F) (m2 := (Tri.cnt t : Nat) - 1) HT1.out.hold HT1.out.nd (fun z hz => .inl hz) HL.out HT1.out.many HT1.out.fm ((Md.refl F w).below HB.out) HN.out
      (with_reducible refine (prune_ok s n HF.out.1 HF.out.2 n 0 0 (Tri.clear (kbits s.data.toList n) t) b F' _ rfl (by omega) k1 k2 (by rw [List.drop_zero]; exact k7)).mono ?_)
      rintro e w4 ⟨rfl, hP⟩
      rw [List.drop_zero] at hP
      have HW := Aside0.mk (del_b (cnt_del HG.out.symm).symm k3 k1 k4 k5 k6 hP)
      clear k1 k2 k3 k4 k5 k6 k7 hP
      go_wp2_with fail
      go_ret
      exact ⟨rfl, HW.out⟩
end Go.Proofs.Ytpchlnbnpgaocaa.PTrie
