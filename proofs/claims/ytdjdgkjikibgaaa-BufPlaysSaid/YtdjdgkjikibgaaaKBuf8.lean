/- What the functions of package buf do: Sum, Copy, of. -/
import Derived.Test.YtdjdgkjikibgaaaKBuf7
import Derived.Test.YtdjdgkjikibgaaaKBuf5
namespace Go.Proofs.Ytdjdgkjikibgaaa.PBuf
open Go.RowKit Go.Proofs.YtdjdgkjikibgaaaW.PrintWords Go.Proofs.YtdjdgkjikibgaaaW.PrintLast Go.Proofs.YtdjdgkjikibgaaaW.PrintMore Go.Proofs.Ytdjdgkjikibgaaa.KBuf
set_option linter.unusedVariables false
set_option linter.unusedSimpArgs false
theorem one_C (w : World) (s : ByteArray) : Kd.C Kd.string (w.alloc (Obj.cells #[.string s] 9)) (some ⟨w.heap.size, 0, none⟩) [s].length [s] :=
  Kd.C_of_reads (d := ByteArray.empty) (h1 := fun _ => rfl) ⟨rfl, (by show 1 ≤ 9223372036854775807; decide), fun _ => ⟨_, rfl, fun j hj => by
    have : j = 0 := by simp at hj; omega
    subst this
    rw [add_plain]
    exact (blk_cell (blk_new w (Obj.cells #[.string s] 9)) 0).trans rfl⟩⟩
theorem sum_one_calls (k : Nat) (s : ByteArray) (r : Int) (w : World) (h : sum_Sum.f k [s] = some r) :
    Calls Try.prog 23 #[.slice (some ⟨w.heap.size, 0, none⟩) 1 1] (w.alloc (Obj.cells #[.string s] 9)) fun e w' => e = .returned (.int .u16 r) ∧ Below w.heap.size w w' :=
  (sum_Sum.calls k _ 1 [s] r _ (one_C w s) (Nat.le_refl 1) h).mono fun e w' hh => by
    obtain ⟨h1, m, h2⟩ := hh
    exact ⟨h1, by rw [h2]; exact pw_below_drewN (below_alloc (Below.refl _ _) _) m⟩
section
variable {w : World} {p g cap : Nat} {D : List UInt8}
/-- The bytes from a to a+n. -/
def part (D : List UInt8) (a n : Nat) : List UInt8 := (D.drop a).take n
theorem part_len (D : List UInt8) (a n : Nat) (h : a + n ≤ D.length) : (part D a n).length = n := by
  unfold part; rw [List.length_take, List.length_drop]; omega
theorem part_at (D : List UInt8) (a n : Nat) : ∀ j u, (part D a n)[j]? = some u → D[a + j]? = some u := by
  intro j u hu
  unfold part at hu
  rw [List.getElem?_take] at hu
  split at hu
  · rwa [List.getElem?_drop] at hu
  · cases hu
set_option maxHeartbeats 8000000 in
set_option maxRecDepth 100000 in
theorem sum_ok1 (h : KBuf.Buf w p g D cap) (a n : Nat) (k : Nat) (r : Int) (ha : a + n ≤ D.length) (hne : a < cap) (HS : Aside0 (sum_Sum.f k [KBuf.txt (part D a n)] = some r)) :
    Calls Try.prog 21 #[.pointer (some ⟨p, 0, none⟩), .int .i64 a, .int .i64 n] w fun e w' => e = .returned (.tuple #[.int .u16 r, .int .i64 0]) ∧ Below w.heap.size w w' := by
  have hsm := h.small
  have hle := h.row.le
  have h1 : a ≤ cap := by omega
  have h3 : a + n ≤ cap := by omega
  have h4 : (a : Int) + (n : Int) ≤ (cap : Int) := by omega
  have h5 : (0 : Int) ≤ (a : Int) + (n : Int) := by omega
  have h6 : ((a : Int) + (n : Int)).toNat = a + n := by omega
  have h7 : IntKind.i64.wrap ((a : Int) + (n : Int)) = (a : Int) + (n : Int) := by rw [i64_w]; unfold wrap64; omega
  have h8 : (a : Int) ≤ (a : Int) + (n : Int) := by omega
  have h9 : ¬ (cap = a) := by omega
  have hcv := Kd.C_string (P := Try.prog) (dst := 9) (c := (cap - a)) Try.underlying50 Try.underlying5 Try.underlying9 (h.row.Cat a (part D a n) (part_at D a n) (by rw [part_len _ _ _ ha]; omega))
  rw [KBuf.str_num8] at hcv
  rw [part_len _ _ _ ha] at hcv
  have hc := h.cell
  have HA := Aside0.mk h
  have hsc := sum_one_calls k (KBuf.txt (part D a n)) r w HS.out
  have HSC := Aside0.mk hsc
  clear h hsc HS
  go_enter Try.func21, Try.ntmps21
  go_wp2_with fail
  go_at_call 29
  (with_reducible refine (off_ok HA.out a n ha).mono ?_)
  rintro e u1 ⟨rfl, rfl⟩
  go_wp2_with fail
  go_at_call 23
  (with_reducible refine (HSC.out).mono ?_)
  rintro e u2 ⟨rfl, hb⟩
  have HB := Aside0.mk hb
  clear hb hcv hc
  go_wp2_with fail
  go_ret2
  exact ⟨rfl, HB.out⟩
set_option maxHeartbeats 8000000 in
set_option maxRecDepth 100000 in
theorem sum_ok2 (a : Nat) (h : KBuf.Buf w p g D a) (k : Nat) (r : Int) (ha : a ≤ D.length) (HS : Aside0 (sum_Sum.f k [KBuf.txt []] = some r)) :
    Calls Try.prog 21 #[.pointer (some ⟨p, 0, none⟩), .int .i64 a, .int .i64 0] w fun e w' => e = .returned (.tuple #[.int .u16 r, .int .i64 0]) ∧ Below w.heap.size w w' := by
  have hsm := h.small
  have hle := h.row.le
  have h7 : IntKind.i64.wrap (a : Int) = (a : Int) := by rw [i64_w]; unfold wrap64; omega
  have hcv := Kd.C_string (P := Try.prog) (dst := 9) (c := 0) Try.underlying50 Try.underlying5 Try.underlying9 (h.row.Cat 0 [] (fun j u hu => by cases hu) (by simp))
  rw [KBuf.str_num8] at hcv
  simp only [List.length_nil] at hcv
  have hc := h.cell
  have HA := Aside0.mk h
  have hsc := sum_one_calls k (KBuf.txt []) r w HS.out
  have HSC := Aside0.mk hsc
  clear h hsc HS
  go_enter Try.func21, Try.ntmps21
  go_wp2_with fail
  go_at_call 29
  (with_reducible refine (off_zero HA.out a ha).mono ?_)
  rintro e u1 ⟨rfl, rfl⟩
  go_wp2_with fail
  go_at_call 23
  (with_reducible refine (HSC.out).mono ?_)
  rintro e u2 ⟨rfl, hb⟩
  have HB := Aside0.mk hb
  clear hb hcv hc
  go_wp2_with fail
  go_ret2
  exact ⟨rfl, HB.out⟩
theorem sum_ok (h : KBuf.Buf w p g D cap) (a n : Nat) (k : Nat) (r : Int) (ha : a + n ≤ D.length) (HS : Aside0 (sum_Sum.f k [KBuf.txt (part D a n)] = some r)) :
    Calls Try.prog 21 #[.pointer (some ⟨p, 0, none⟩), .int .i64 a, .int .i64 n] w fun e w' => e = .returned (.tuple #[.int .u16 r, .int .i64 0]) ∧ Below w.heap.size w w' := by
  have hle := h.row.le
  by_cases h1 : a < cap
  · exact sum_ok1 h a n k r ha h1 HS
  · have e : cap = a := by omega
    subst e
    have e : n = 0 := by omega
    subst e
    exact sum_ok2 cap h k r (by omega) HS
set_option maxHeartbeats 8000000 in
set_option maxRecDepth 100000 in
theorem sum_bad (h : KBuf.Buf w p g D cap) (a n : Int) (x : Int) (hx : offE D.length a n = x) (hne : x ≠ 0) :
    Calls Try.prog 21 #[.pointer (some ⟨p, 0, none⟩), .int .i64 a, .int .i64 n] w fun e w' => e = .returned (.tuple #[.int .u16 0, .int .i64 x]) ∧ w = w' := by
  have HA := Aside0.mk h
  clear h
  go_enter Try.func21, Try.ntmps21
  go_wp2_with fail
  go_at_call 29
  (with_reducible refine (off_any HA.out a n).mono ?_)
  rintro e u1 ⟨rfl, rfl⟩
  rw [hx]
  clear hx
  go_wp2_with fail
  go_ret2
  exact ⟨rfl, rfl⟩
theorem insert_any (h : KBuf.Buf w p g D cap) (a n : Nat) (ha : a ≤ D.length) (hn : D.length + n ≤ 9216) :
    Calls Try.prog 14 #[.pointer (some ⟨p, 0, none⟩), .int .i64 a, .int .i64 n] w (Inserted w p g (D.take a ++ List.replicate n 0 ++ D.drop a)) := by
  have hle := h.row.le
  by_cases h1 : a < cap
  · exact insert_ok h a n ha hn h1
  · have e : cap = a := by omega
    subst e
    exact insert_full cap n h ha hn
end
/-- of: a new buffer. -/
def Of (w : World) (D : List UInt8) (e : Ending) (w' : World) : Prop :=
  ∃ p g cap, e = .returned (.pointer (some ⟨p, 0, none⟩)) ∧ KBuf.Buf w' p g D cap ∧ w.heap.size ≤ p ∧ w.heap.size ≤ g ∧ Below w.heap.size w w'
set_option maxHeartbeats 4000000 in
set_option maxRecDepth 100000 in
theorem of_ok (s : ByteArray) (w : World) (hs : s.size ≤ 9216) : Calls Try.prog 13 #[.string s] w (Of w s.data.toList) := by
  go_enter Try.func13, Try.ntmps13
  go_wp2_with fail
  go_at_call 24
  (with_reducible refine (new_ok s w hs).mono ?_)
  rintro e u1 ⟨p, g, cap, rfl, hB, hp, hg, hb⟩
  have HB := Aside0.mk hB
  have HP := Aside0.mk hp
  have HG := Aside0.mk hg
  have HBB := Aside0.mk hb
  clear hB hp hg hb
  go_wp2_with fail
  go_ret
  exact ⟨p, g, cap, rfl, HB.out, HP.out, HG.out, HBB.out⟩
end Go.Proofs.Ytdjdgkjikibgaaa.PBuf
