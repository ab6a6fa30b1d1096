/- Tries: how deep and how many; finds, awake. -/
import Derived.Test.YtpchlnbnpgaocaaKTrie9
namespace Go.Proofs.Ytpchlnbnpgaocaa.PTrie
open Go.Proofs.Ytpchlnbnpgaocaa.KTree Go.Proofs.Ytpchlnbnpgaocaa.KReg Go.Proofs.Ytpchlnbnpgaocaa.KBits Go.RowKit Go.Proofs.YtpchlnbnpgaocaaW.PrintWords Go.Proofs.YtpchlnbnpgaocaaW.PrintLast Go.Proofs.YtpchlnbnpgaocaaW.PrintMore
set_option linter.unusedVariables false
set_option linter.unusedSimpArgs false
theorem depth_put (v : Int) : ∀ (bs : List Bool) (t : Tri), depth (Tri.put v bs t) ≤ max (depth t) (bs.length + 1)
  | [], .nil => by simp [Tri.put, depth, Tri.left, Tri.right]
  | [], .node l r o => by simp [Tri.put, depth, Tri.left, Tri.right]
  | false :: bs, .nil => by have := depth_put v bs .nil; simp only [Tri.put, depth, Tri.left, Tri.right, List.length_cons] at *; omega
  | true :: bs, .nil => by have := depth_put v bs .nil; simp only [Tri.put, depth, Tri.left, Tri.right, List.length_cons] at *; omega
  | false :: bs, .node l r o => by have := depth_put v bs l; simp only [Tri.put, depth, Tri.left, Tri.right, List.length_cons] at *; omega
  | true :: bs, .node l r o => by have := depth_put v bs r; simp only [Tri.put, depth, Tri.left, Tri.right, List.length_cons] at *; omega
theorem depth_trim (t : Tri) : depth (Tri.trim t) ≤ depth t := by
  unfold Tri.trim; split
  · simp [depth]
  · exact Nat.le_refl _
theorem depth_clear : ∀ (bs : List Bool) (t : Tri), depth (Tri.clear bs t) ≤ depth t
  | bs, .nil => by simp [Tri.clear]
  | [], .node l r o => by simp [Tri.clear, depth]
  | false :: bs, .node l r o => by have := depth_clear bs l; simp only [Tri.clear, depth]; omega
  | true :: bs, .node l r o => by have := depth_clear bs r; simp only [Tri.clear, depth]; omega
theorem depth_prune : ∀ (bs : List Bool) (t : Tri), depth (Tri.prune bs t) ≤ depth t
  | bs, .nil => by simp [Tri.prune]
  | [], .node l r o => by simp [Tri.prune, depth]
  | false :: bs, .node l r o => by have := depth_prune bs l; have := depth_trim (Tri.prune bs l); simp only [Tri.prune, depth]; omega
  | true :: bs, .node l r o => by have := depth_prune bs r; have := depth_trim (Tri.prune bs r); simp only [Tri.prune, depth]; omega
/-- Few, and not deep. -/
def Sm (N : Nat) (t : Tri) : Prop := Tri.cnt t ≤ N ∧ depth t ≤ 257
theorem kb_length (s : ByteArray) (n : Int) : (kb s n).length = n.toNat := bits_length _ _
theorem Sm.put {N : Nat} {t : Tri} (h : Sm N t) (s : ByteArray) (n v : Int) : Sm (N + 1) (tput s n v t) := by
  unfold tput
  split
  · rename_i hp
    have h1 := Tri.cnt_put v (kb s n) t
    have h2 := depth_put v (kb s n) t
    rw [kb_length] at h2
    have h3 := hp.2.1
    refine ⟨?_, ?_⟩
    · have := h.1; rw [h1]; split <;> omega
    · have := h.2; omega
  · exact ⟨Nat.le_succ_of_le h.1, h.2⟩
theorem Sm.del {N : Nat} {t : Tri} (h : Sm N t) (s : ByteArray) (n : Int) : Sm N (tdel s n t) := by
  unfold tdel
  split
  · split
    · have h1 := Tri.cnt_clear (kb s n) t
      have h2 := Tri.cnt_prune (kb s n) (Tri.clear (kb s n) t)
      have h3 := depth_clear (kb s n) t
      have h4 := depth_prune (kb s n) (Tri.clear (kb s n) t)
      have h5 := h.1
      have h6 := h.2
      unfold Tri.del
      refine ⟨?_, by omega⟩
      rw [h2]
      omega
    · exact h
  · exact h
theorem Sm.up {N M : Nat} {t : Tri} (h : Sm N t) (hN : N ≤ M) : Sm M t := ⟨Nat.le_trans h.1 hN, h.2⟩
theorem Sm.c {N : Nat} {t : Tri} (h : Sm N t) (hN : N ≤ 1000000) : Tri.cnt t ≤ 1000000 := Nat.le_trans h.1 hN
theorem Sm.d {N : Nat} {t : Tri} (h : Sm N t) : depth t ≤ 1000000 := Nat.le_trans h.2 (by decide)
/-- Whether it is a prefix, reckoned. -/
def okB (s : ByteArray) (m : Nat) : Bool := decide (m ≤ 256) && (s.size == (m + 7) / 8) && (List.range (8 * s.size)).all (fun i => decide (i < m) || !tb s i)
theorem ok_iff (s : ByteArray) (m : Nat) : OkPre s (m : Int) ↔ okB s m = true := by
  unfold okB OkPre
  simp only [Bool.and_eq_true, decide_eq_true_eq, beq_iff_eq, List.all_eq_true, List.mem_range, Bool.or_eq_true, Bool.not_eq_true']
  constructor
  · rintro ⟨h1, h2, h3, h4⟩
    refine ⟨⟨by omega, by omega⟩, fun i hi => ?_⟩
    by_cases h : i < m
    · exact .inl h
    · exact .inr (h4 i (by omega) hi)
  · rintro ⟨⟨h1, h2⟩, h3⟩
    refine ⟨by omega, by omega, by omega, fun i hi hi2 => ?_⟩
    rcases h3 i hi2 with h | h
    · omega
    · exact h
theorem ok_of {s : ByteArray} {m : Nat} (h : okB s m = true) : OkPre s (m : Int) := (ok_iff s m).2 h
theorem form_of {s : ByteArray} {m : Nat} (h : okB s m = false) (hm : m ≤ 256) : pcode s (m : Int) = 3 := pcode_form (by omega) (fun e => by rw [(ok_iff s m).1 e] at h; exact absurd h (by decide))
theorem not_of {s : ByteArray} {m : Nat} (h : okB s m = false) : ¬ OkPre s (m : Int) := fun e => by rw [(ok_iff s m).1 e] at h; exact absurd h (by decide)
theorem tput_of {s : ByteArray} {n v : Int} {t : Tri} (h : OkPre s n) : tput s n v t = Tri.put v (kb s n) t := by unfold tput; rw [if_pos h]
theorem tput_no {s : ByteArray} {n v : Int} {t : Tri} (h : ¬ OkPre s n) : tput s n v t = t := by unfold tput; rw [if_neg h]
theorem tget_of {s : ByteArray} {n : Int} {t : Tri} (h : OkPre s n) : tget s n t = Tri.get (kb s n) t := by unfold tget; rw [if_pos h]
theorem tget_no {s : ByteArray} {n : Int} {t : Tri} (h : ¬ OkPre s n) : tget s n t = none := by unfold tget; rw [if_neg h]
theorem tdel_of {s : ByteArray} {n : Int} {t : Tri} (h : OkPre s n) {v : Int} (hg : Tri.get (kb s n) t = some v) : tdel s n t = Tri.del (kb s n) t := by unfold tdel; rw [if_pos h, hg]; rfl
theorem tdel_none {s : ByteArray} {n : Int} {t : Tri} (h : tget s n t = none) : tdel s n t = t := by
  unfold tget at h; unfold tdel
  split at h
  · rename_i hp
    rw [if_pos hp, h]; rfl
  · rename_i hp
    rw [if_neg hp]
section
variable {w0 u : World} {L : List (Nat × Tri)} {R : List Rw} {b : Nat} {t : Tri}
/-- A put that is done, and one that is refused. -/
theorem inv_put_y (h : Inv w0 u ((b, t) :: L) R) (s : ByteArray) (m : Nat) (v : Int) (hs : s.size ≤ 140737488351232) (hc : Tri.cnt t ≤ 1000000) (ho : okB s m = true) {n : Int} (hn : n = m) :
    Calls Try.prog 14 #[.pointer (some ⟨b, 0, none⟩), .string s, .int .i64 n, .int .i64 v] u fun e u' => e = .returned (.int .i64 0) ∧ Inv w0 u' ((b, Tri.put v (kb s n) t) :: L) R := by
  subst hn
  have := inv_put h s m v hs hc
  rw [(pcode_zero _ _).2 (ok_of ho), tput_of (ok_of ho)] at this
  exact this
theorem inv_put_n (h : Inv w0 u ((b, t) :: L) R) (s : ByteArray) (m : Nat) (v : Int) (hs : s.size ≤ 140737488351232) (hc : Tri.cnt t ≤ 1000000) (ho : okB s m = false) (hm : m ≤ 256) {n : Int} (hn : n = m) :
    Calls Try.prog 14 #[.pointer (some ⟨b, 0, none⟩), .string s, .int .i64 n, .int .i64 v] u fun e u' => e = .returned (.int .i64 3) ∧ Inv w0 u' ((b, t) :: L) R := by
  subst hn
  have := inv_put h s m v hs hc
  rw [form_of ho hm, tput_no (not_of ho)] at this
  exact this
end
set_option maxHeartbeats 8000000 in
set_option maxRecDepth 100000 in
theorem finds_c {w0 u : World} {L : List (Nat × Tri)} {R : List Rw} {x : Nat × Tri} (h : Inv w0 u L R) (hx : x ∈ L) (s : ByteArray) (hs : s.size ≤ 140737488351232) (n : Nat) (v : Int) (hf : tlon s x.2 = some (n, v)) :
    Calls Try.prog 23 #[.pointer (some ⟨x.1, 0, none⟩), .string s, .int .i64 n, .int .i64 v] u fun e u' => e = .returned (.bool true) ∧ Inv w0 u' L R := by
  have HI := Aside0.mk h
  have HL := inv_lon HI.out hx s hs
  rw [hf] at HL
  have HC := Aside0.mk HL
  clear h HL HI
  go_enter Try.func23, Try.ntmps23
  go_wp2_with fail
  go_at_call 11
  (with_reducible refine HC.out.mono ?_)
  rintro e u1 ⟨rfl, h1⟩
  have H1 := Aside0.mk h1
  clear h1 HC
  simp only [lonV, Option.map_some, Option.getD_some, Option.isSome_some]
  go_wp2_with fail
  go_ret
  exact ⟨rfl, H1.out⟩
def aw0 : Tri := .node .nil .nil none
def aw1 : Tri := Tri.put 1 (kb ⟨#[]⟩ 0) aw0
def aw2 : Tri := Tri.put 2 (kb ⟨#[128]⟩ 1) aw1
def aw3 : Tri := Tri.put 3 (kb ⟨#[128, 64]⟩ 10) aw2
def awI : List S32 := [⟨⟨#[]⟩, 0, 1⟩, ⟨⟨#[128]⟩, 1, 2⟩, ⟨⟨#[128, 64]⟩, 10, 3⟩]
theorem awI_eq : items aw3 [] = awI := by kernel_rfl
section
variable {w0 u : World} {b : Nat} {L : List (Nat × Tri)} {R : List Rw}
theorem aw_put0 (h : Inv w0 u ((b, aw0) :: L) R) : Calls Try.prog 14 #[.pointer (some ⟨b, 0, none⟩), .string ⟨#[]⟩, .int .i64 0, .int .i64 1] u fun e u' => e = .returned (.int .i64 0) ∧ Inv w0 u' ((b, aw1) :: L) R :=
  inv_put_y h ⟨#[]⟩ 0 1 (by decide) (by decide +kernel) (by decide +kernel) rfl
theorem aw_put1 (h : Inv w0 u ((b, aw1) :: L) R) : Calls Try.prog 14 #[.pointer (some ⟨b, 0, none⟩), .string ⟨#[128]⟩, .int .i64 1, .int .i64 2] u fun e u' => e = .returned (.int .i64 0) ∧ Inv w0 u' ((b, aw2) :: L) R :=
  inv_put_y h ⟨#[128]⟩ 1 2 (by decide) (by decide +kernel) (by decide +kernel) rfl
theorem aw_put2 (h : Inv w0 u ((b, aw2) :: L) R) : Calls Try.prog 14 #[.pointer (some ⟨b, 0, none⟩), .string ⟨#[128, 64]⟩, .int .i64 10, .int .i64 3] u fun e u' => e = .returned (.int .i64 0) ∧ Inv w0 u' ((b, aw3) :: L) R :=
  inv_put_y h ⟨#[128, 64]⟩ 10 3 (by decide) (by decide +kernel) (by decide +kernel) rfl
theorem aw_find0 (h : Inv w0 u ((b, aw3) :: L) R) : Calls Try.prog 23 #[.pointer (some ⟨b, 0, none⟩), .string ⟨#[128, 127]⟩, .int .i64 10, .int .i64 3] u fun e u' => e = .returned (.bool true) ∧ Inv w0 u' ((b, aw3) :: L) R :=
  finds_c (x := (b, aw3)) h List.mem_cons_self ⟨#[128, 127]⟩ (by decide) 10 3 (by kernel_rfl)
theorem aw_find1 (h : Inv w0 u ((b, aw3) :: L) R) : Calls Try.prog 23 #[.pointer (some ⟨b, 0, none⟩), .string ⟨#[128, 0]⟩, .int .i64 1, .int .i64 2] u fun e u' => e = .returned (.bool true) ∧ Inv w0 u' ((b, aw3) :: L) R :=
  finds_c (x := (b, aw3)) h List.mem_cons_self ⟨#[128, 0]⟩ (by decide) 1 2 (by kernel_rfl)
theorem aw_find2 (h : Inv w0 u ((b, aw3) :: L) R) : Calls Try.prog 23 #[.pointer (some ⟨b, 0, none⟩), .string ⟨#[128]⟩, .int .i64 1, .int .i64 2] u fun e u' => e = .returned (.bool true) ∧ Inv w0 u' ((b, aw3) :: L) R :=
  finds_c (x := (b, aw3)) h List.mem_cons_self ⟨#[128]⟩ (by decide) 1 2 (by kernel_rfl)
theorem aw_find3 (h : Inv w0 u ((b, aw3) :: L) R) : Calls Try.prog 23 #[.pointer (some ⟨b, 0, none⟩), .string ⟨#[0]⟩, .int .i64 0, .int .i64 1] u fun e u' => e = .returned (.bool true) ∧ Inv w0 u' ((b, aw3) :: L) R :=
  finds_c (x := (b, aw3)) h List.mem_cons_self ⟨#[0]⟩ (by decide) 0 1 (by kernel_rfl)
theorem aw_find4 (h : Inv w0 u ((b, aw3) :: L) R) : Calls Try.prog 23 #[.pointer (some ⟨b, 0, none⟩), .string ⟨#[]⟩, .int .i64 0, .int .i64 1] u fun e u' => e = .returned (.bool true) ∧ Inv w0 u' ((b, aw3) :: L) R :=
  finds_c (x := (b, aw3)) h List.mem_cons_self ⟨#[]⟩ (by decide) 0 1 (by kernel_rfl)
theorem aw_all (h : Inv w0 u ((b, aw3) :: L) R) : Calls Try.prog 12 #[.pointer (some ⟨b, 0, none⟩)] u fun e u' => ∃ g c, e = .returned (.slice (some ⟨g, 0, none⟩) 3 c) ∧ Aside0 (Inv w0 u' ((b, aw3) :: L) (⟨some ⟨g, 0, none⟩, c, awI⟩ :: R)) := by
  refine (inv_all (x := (b, aw3)) h List.mem_cons_self (show depth aw3 ≤ 1000000 by decide +kernel) (show Tri.cnt aw3 ≤ 1000000 by decide +kernel)).mono fun e u' hd => ?_
  obtain ⟨a, c, he, hc, hI⟩ := hd
  dsimp only at he hc hI
  rw [awI_eq] at he hc hI
  obtain ⟨g, ha, _⟩ := hI.at (r := ⟨a, c, awI⟩) List.mem_cons_self 0 (show 0 < 3 by decide)
  dsimp only at ha
  subst ha
  exact ⟨g, c, he, ⟨hI⟩⟩
theorem aw_no0 (h : Inv w0 u ((b, aw3) :: L) R) : Calls Try.prog 14 #[.pointer (some ⟨b, 0, none⟩), .string ⟨#[128]⟩, .int .i64 0, .int .i64 1] u fun e u' => e = .returned (.int .i64 3) ∧ Inv w0 u' ((b, aw3) :: L) R :=
  inv_put_n h ⟨#[128]⟩ 0 1 (by decide) (by decide +kernel) (by decide +kernel) (by decide) rfl
theorem aw_no1 (h : Inv w0 u ((b, aw3) :: L) R) : Calls Try.prog 14 #[.pointer (some ⟨b, 0, none⟩), .string ⟨#[192]⟩, .int .i64 1, .int .i64 1] u fun e u' => e = .returned (.int .i64 3) ∧ Inv w0 u' ((b, aw3) :: L) R :=
  inv_put_n h ⟨#[192]⟩ 1 1 (by decide) (by decide +kernel) (by decide +kernel) (by decide) rfl
theorem aw_no2 (h : Inv w0 u ((b, aw3) :: L) R) : Calls Try.prog 14 #[.pointer (some ⟨b, 0, none⟩), .string ⟨#[128, 0]⟩, .int .i64 1, .int .i64 1] u fun e u' => e = .returned (.int .i64 3) ∧ Inv w0 u' ((b, aw3) :: L) R :=
  inv_put_n h ⟨#[128, 0]⟩ 1 1 (by decide) (by decide +kernel) (by decide +kernel) (by decide) rfl
end
attribute [local go_sem high] eqA32
set_option maxHeartbeats 8000000 in
set_option maxRecDepth 100000 in
theorem awake_ok (w : World) : Calls Try.prog 9 #[] w fun e w' => e = .returned (.bool true) ∧ Below w.heap.size w w' := by
  go_enter Try.func9, Try.ntmps9
  go_wp2_with fail
  go_at_call 13
  (with_reducible refine (inv_new (Inv.nil w)).mono ?_)
  rintro e u ⟨b, rfl, h⟩
  have HA := Aside0.mk (show Inv w u [(b, aw0)] [] from h)
  clear h
  go_wp2_with fail
  go_at_call 14
  (with_reducible refine (aw_put0 HA.out).mono ?_)
  clear HA; rintro e u0 ⟨rfl, h⟩; have HA := Aside0.mk h; clear h
  go_wp2_with fail
  go_at_call 14
  (with_reducible refine (aw_put1 HA.out).mono ?_)
  clear HA; rintro e u1 ⟨rfl, h⟩; have HA := Aside0.mk h; clear h
  go_wp2_with fail
  go_at_call 14
  (with_reducible refine (aw_put2 HA.out).mono ?_)
  clear HA; rintro e u2 ⟨rfl, h⟩; have HA := Aside0.mk h; clear h
  go_wp2_with fail
  go_at_call 23
  (with_reducible refine (aw_find0 HA.out).mono ?_)
  clear HA; rintro e u3 ⟨rfl, h⟩; have HA := Aside0.mk h; clear h
  go_wp2_with fail
  go_at_call 23
  (with_reducible refine (aw_find1 HA.out).mono ?_)
  clear HA; rintro e u4 ⟨rfl, h⟩; have HA := Aside0.mk h; clear h
  go_wp2_with fail
  go_at_call 23
  (with_reducible refine (aw_find2 HA.out).mono ?_)
  clear HA; rintro e u5 ⟨rfl, h⟩; have HA := Aside0.mk h; clear h
  go_wp2_with fail
  go_at_call 23
  (with_reducible refine (aw_find3 HA.out).mono ?_)
  clear HA; rintro e u6 ⟨rfl, h⟩; have HA := Aside0.mk h; clear h
  go_wp2_with fail
  go_at_call 23
  (with_reducible refine (aw_find4 HA.out).mono ?_)
  clear HA; rintro e u7 ⟨rfl, h⟩; have HA := Aside0.mk h; clear h
  go_wp2_with fail
  go_at_call 12
  (with_reducible refine (aw_all HA.out).mono ?_)
  clear HA; rintro e u20 ⟨g, c, rfl, HA⟩
  go_wp2_with fail
  go_at_call 14
  (with_reducible refine (aw_no0 HA.out).mono ?_)
  clear HA; rintro e u30 ⟨rfl, h⟩; have HA := Aside0.mk h; clear h
  go_wp2_with fail
  go_at_call 14
  (with_reducible refine (aw_no1 HA.out).mono ?_)
  clear HA; rintro e u31 ⟨rfl, h⟩; have HA := Aside0.mk h; clear h
  go_wp2_with fail
  go_at_call 14
  (with_reducible refine (aw_no2 HA.out).mono ?_)
  clear HA; rintro e u32 ⟨rfl, h⟩; have HA := Aside0.mk h; clear h
  obtain ⟨g', hg, a0, a1, a2⟩ := HA.out.at (r := ⟨some ⟨g, 0, none⟩, c, awI⟩) List.mem_cons_self 0 (show 0 < 3 by decide)
  obtain rfl : g = g' := by injection hg with e; injection e
  obtain ⟨g', hg2, b0, b1, b2⟩ := HA.out.at (r := ⟨some ⟨g, 0, none⟩, c, awI⟩) List.mem_cons_self 1 (show 1 < 3 by decide)
  obtain rfl : g = g' := by injection hg2 with e; injection e
  obtain ⟨g', hg3, d0, d1, d2⟩ := HA.out.at (r := ⟨some ⟨g, 0, none⟩, c, awI⟩) List.mem_cons_self 2 (show 2 < 3 by decide)
  obtain rfl : g = g' := by injection hg3 with e; injection e
  clear hg hg2 hg3
  have q0 : u32.cell? ⟨g, 0, none⟩ = some (.string ⟨#[]⟩) := a0
  have q1 : u32.cell? ⟨g, 1, none⟩ = some (.int .i64 0) := a1
  have q2 : u32.cell? ⟨g, 2, none⟩ = some (.int .i64 1) := a2
  have q3 : u32.cell? ⟨g, 3, none⟩ = some (.string ⟨#[128]⟩) := b0
  have q4 : u32.cell? ⟨g, 4, none⟩ = some (.int .i64 1) := b1
  have q5 : u32.cell? ⟨g, 5, none⟩ = some (.int .i64 2) := b2
  have q6 : u32.cell? ⟨g, 6, none⟩ = some (.string ⟨#[128, 64]⟩) := d0
  have q7 : u32.cell? ⟨g, 7, none⟩ = some (.int .i64 10) := d1
  have q8 : u32.cell? ⟨g, 8, none⟩ = some (.int .i64 3) := d2
  clear a0 a1 a2 b0 b1 b2 d0 d1 d2
  have hu := Try.underlying32
  go_wp2_with fail
  go_ret
  exact ⟨rfl, HA.out.bel⟩
end Go.Proofs.Ytpchlnbnpgaocaa.PTrie
