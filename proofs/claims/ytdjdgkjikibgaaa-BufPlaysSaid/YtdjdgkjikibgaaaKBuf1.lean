/- What the functions of package buf do: New, Len, Text, off. -/
import Derived.Test.YtdjdgkjikibgaaaKBuf0
import Derived.Test.YtdjdgkjikibgaaaPBufx2
import Derived.Test.YtdjdgkjikibgaaaPBufx3
import Derived.BigRegion
import Derived.Outline
namespace Go.Proofs.Ytdjdgkjikibgaaa.PBuf
open Go.RowKit Go.Proofs.YtdjdgkjikibgaaaW.PrintWords Go.Proofs.YtdjdgkjikibgaaaW.PrintLast Go.Proofs.YtdjdgkjikibgaaaW.PrintMore Go.Proofs.Ytdjdgkjikibgaaa.KBuf
set_option linter.unusedVariables false
set_option linter.unusedSimpArgs false
def Made (w : World) (D : List UInt8) (e : Ending) (w' : World) : Prop :=
  ∃ p g cap, e = .returned (.tuple #[.pointer (some ⟨p, 0, none⟩), .int .i64 0]) ∧ KBuf.Buf w' p g D cap ∧ w.heap.size ≤ p ∧ w.heap.size ≤ g ∧ Below w.heap.size w w'
set_option maxHeartbeats 4000000 in
set_option maxRecDepth 100000 in
theorem new_ok (s : ByteArray) (w : World) (hs : s.size ≤ 9216) : Calls Try.prog 24 #[.string s] w (Made w s.data.toList) := by
  have kb := fun W => print_bytes (P := Try.prog) 9 50 5 Try.underlying9 Try.underlying50 Try.underlying5 s W
  have hd : decide ((s.size : Int) > 9216) = false := decide_eq_false (by omega)
  go_enter Try.func24, Try.ntmps24
  go_wp2_with fail
  go_ret2
  have hr := KBuf.Row.new w 5 s
  rw [KBuf.bytes_cap] at hr
  have hb : Below w.heap.size w (Lib.bytesWorld w 5 s) := bytes_below (Below.refl _ _) (Nat.le_refl _) 5 s
  have hl : s.data.toList.length = s.size := data_length s
  have hlt := hr.lt
  exact ⟨(Lib.bytesWorld w 5 s).heap.size, w.heap.size, grownCap w s.size 0 5, rfl, ⟨by rw [hl]; exact blk_new _ _, hr.below (below_alloc (Below.refl _ _) _), by omega, by omega⟩, by omega, Nat.le_refl _, below_alloc hb _⟩
set_option maxHeartbeats 4000000 in
set_option maxRecDepth 100000 in
theorem new_long (s : ByteArray) (w : World) (hs : 9216 < s.size) : Calls Try.prog 24 #[.string s] w fun e w' => e = .returned (.tuple #[.pointer none, .int .i64 5]) ∧ w = w' := by
  have hd : decide ((s.size : Int) > 9216) = true := decide_eq_true (by omega)
  go_enter Try.func24, Try.ntmps24
  go_wp2_with fail
  go_ret2
  exact ⟨rfl, rfl⟩
section
variable {w : World} {p g cap : Nat} {D : List UInt8}
set_option maxHeartbeats 4000000 in
set_option maxRecDepth 100000 in
theorem len_any (h : KBuf.Buf w p g D cap) : Calls Try.prog 15 #[.pointer (some ⟨p, 0, none⟩)] w fun e w' => e = .returned (.int .i64 D.length) ∧ w = w' := by
  have hc := h.cell
  go_enter Try.func15, Try.ntmps15
  go_wp2_with fail
  go_ret
  exact ⟨rfl, rfl⟩
set_option maxHeartbeats 4000000 in
set_option maxRecDepth 100000 in
theorem text_any (h : KBuf.Buf w p g D cap) : Calls Try.prog 17 #[.pointer (some ⟨p, 0, none⟩)] w fun e w' => e = .returned (.string (KBuf.txt D)) ∧ w = w' := by
  have hc := h.cell
  have hcv := Kd.C_string (P := Try.prog) (dst := 9) (c := cap) Try.underlying50 Try.underlying5 Try.underlying9 (h.row.Cat 0 D (fun j u hu => by rw [Nat.zero_add]; exact hu) (by have := h.small; omega))
  rw [KBuf.str_num8] at hcv
  go_enter Try.func17, Try.ntmps17
  go_wp2_with fail
  go_ret
  exact ⟨rfl, rfl⟩
set_option maxHeartbeats 4000000 in
set_option maxRecDepth 100000 in
theorem off_ok (h : KBuf.Buf w p g D cap) (a n : Nat) (hn : a + n ≤ D.length) : Calls Try.prog 29 #[.pointer (some ⟨p, 0, none⟩), .int .i64 a, .int .i64 n] w fun e w' => e = .returned (.int .i64 0) ∧ w = w' := by
  have hc := h.cell
  have hsm := h.small
  have h1 : decide ((a : Int) < 0) = false := decide_eq_false (by omega)
  have h2 : decide ((n : Int) < 0) = false := decide_eq_false (by omega)
  have h3 : decide ((a : Int) > (D.length : Int)) = false := decide_eq_false (by omega)
  have h4 : decide ((n : Int) > (D.length : Int) - (a : Int)) = false := decide_eq_false (by omega)
  have h5 : a ≤ D.length := by omega
  go_enter Try.func29, Try.ntmps29
  go_wp2_with fail
  go_ret
  exact ⟨rfl, rfl⟩
set_option maxHeartbeats 4000000 in
set_option maxRecDepth 100000 in
theorem off_arg1 (h : KBuf.Buf w p g D cap) (a n : Int) (ha : a < 0) : Calls Try.prog 29 #[.pointer (some ⟨p, 0, none⟩), .int .i64 a, .int .i64 n] w fun e w' => e = .returned (.int .i64 1) ∧ w = w' := by
  have h1 : decide (a < 0) = true := decide_eq_true ha
  go_enter Try.func29, Try.ntmps29
  go_wp2_with fail
  go_ret
  exact ⟨rfl, rfl⟩
set_option maxHeartbeats 4000000 in
set_option maxRecDepth 100000 in
theorem off_arg2 (h : KBuf.Buf w p g D cap) (a n : Int) (ha : 0 ≤ a) (hn : n < 0) : Calls Try.prog 29 #[.pointer (some ⟨p, 0, none⟩), .int .i64 a, .int .i64 n] w fun e w' => e = .returned (.int .i64 1) ∧ w = w' := by
  have h1 : decide (a < 0) = false := decide_eq_false (by omega)
  have h2 : decide (n < 0) = true := decide_eq_true hn
  go_enter Try.func29, Try.ntmps29
  go_wp2_with fail
  go_ret
  exact ⟨rfl, rfl⟩
set_option maxHeartbeats 4000000 in
set_option maxRecDepth 100000 in
theorem off_short1 (h : KBuf.Buf w p g D cap) (a n : Int) (ha : 0 ≤ a) (hn : 0 ≤ n) (hs : (D.length : Int) < a) : Calls Try.prog 29 #[.pointer (some ⟨p, 0, none⟩), .int .i64 a, .int .i64 n] w fun e w' => e = .returned (.int .i64 4) ∧ w = w' := by
  have hc := h.cell
  have h1 : decide (a < 0) = false := decide_eq_false (by omega)
  have h2 : decide (n < 0) = false := decide_eq_false (by omega)
  have h3 : decide (a > (D.length : Int)) = true := decide_eq_true hs
  go_enter Try.func29, Try.ntmps29
  go_wp2_with fail
  go_ret
  exact ⟨rfl, rfl⟩
set_option maxHeartbeats 4000000 in
set_option maxRecDepth 100000 in
theorem off_short2 (h : KBuf.Buf w p g D cap) (a : Nat) (n : Int) (hn : 0 ≤ n) (ha : a ≤ D.length) (hs : (D.length : Int) - (a : Int) < n) : Calls Try.prog 29 #[.pointer (some ⟨p, 0, none⟩), .int .i64 a, .int .i64 n] w fun e w' => e = .returned (.int .i64 4) ∧ w = w' := by
  have hc := h.cell
  have hsm := h.small
  have h1 : decide ((a : Int) < 0) = false := decide_eq_false (by omega)
  have h2 : decide (n < 0) = false := decide_eq_false (by omega)
  have h3 : decide ((a : Int) > (D.length : Int)) = false := decide_eq_false (by omega)
  have h4 : decide (n > (D.length : Int) - (a : Int)) = true := decide_eq_true hs
  go_enter Try.func29, Try.ntmps29
  go_wp2_with fail
  go_ret
  exact ⟨rfl, rfl⟩
/-- What off tells. -/
def offE (L : Nat) (a n : Int) : Int := if a < 0 ∨ n < 0 then 1 else if a > L ∨ n > L - a then 4 else 0
theorem off_any (h : KBuf.Buf w p g D cap) (a n : Int) : Calls Try.prog 29 #[.pointer (some ⟨p, 0, none⟩), .int .i64 a, .int .i64 n] w fun e w' => e = .returned (.int .i64 (offE D.length a n)) ∧ w = w' := by
  unfold offE
  by_cases h1 : a < 0
  · rw [if_pos (.inl h1)]; exact off_arg1 h a n h1
  · by_cases h2 : n < 0
    · rw [if_pos (.inr h2)]; exact off_arg2 h a n (by omega) h2
    · rw [if_neg (by omega)]
      by_cases h3 : a > D.length
      · rw [if_pos (.inl h3)]; exact off_short1 h a n (by omega) (by omega) h3
      · obtain ⟨b, rfl⟩ := Int.eq_ofNat_of_zero_le (show 0 ≤ a by omega)
        by_cases h4 : n > D.length - (b : Int)
        · rw [if_pos (.inr h4)]; exact off_short2 h b n (by omega) (by omega) h4
        · rw [if_neg (by omega)]
          obtain ⟨m, rfl⟩ := Int.eq_ofNat_of_zero_le (show 0 ≤ n by omega)
          exact off_ok h b m (by omega)
/-- The bytes in which a field stands. -/
def win (D : List UInt8) (o n : Nat) : List UInt8 := (D.drop (o / 8)).take ((o + n + 7) / 8 - o / 8)
theorem win_len (D : List UInt8) (o n : Nat) (h : o + n ≤ 8 * D.length) : (win D o n).length = (o + n + 7) / 8 - o / 8 := by
  unfold win; rw [List.length_take, List.length_drop]; omega
set_option maxHeartbeats 4000000 in
set_option maxRecDepth 100000 in
theorem window_ok (h : KBuf.Buf w p g D cap) (o n : Nat) (hn : 1 ≤ n) (hn' : n ≤ 128) (ho : o + n ≤ 8 * D.length) :
    Calls Try.prog 30 #[.pointer (some ⟨p, 0, none⟩), .int .i64 o, .int .i64 n] w fun e w' => e = .returned (.tuple #[.slice (some ⟨g, o / 8, none⟩) ((o + n + 7) / 8 - o / 8) (cap - o / 8), .int .i64 ((o : Int) / 8)]) ∧ w = w' := by
  have hc := h.cell
  have hsm := h.small
  have hle := h.row.le
  have h1 : decide ((o : Int) < 0) = false := decide_eq_false (by omega)
  have h2 : decide ((n : Int) < 1) = false := decide_eq_false (by omega)
  have h3 : decide ((n : Int) > 128) = false := decide_eq_false (by omega)
  have h4 : decide ((o : Int) > 8 * (D.length : Int) - (n : Int)) = false := decide_eq_false (by omega)
  go_enter Try.func30, Try.ntmps30
  go_wp2_with fail
  go_ret2
  exact ⟨rfl, rfl⟩
set_option maxHeartbeats 4000000 in
set_option maxRecDepth 100000 in
theorem window_bad1 (h : KBuf.Buf w p g D cap) (o n : Int) (q1 : o < 0) :
    Calls Try.prog 30 #[.pointer (some ⟨p, 0, none⟩), .int .i64 o, .int .i64 n] w fun e w' => e = .returned (.tuple #[.slice (some ⟨g, 0, none⟩) D.length cap, .int .i64 0]) ∧ w = w' := by
  have hc := h.cell
  have hsm := h.small
  have hle := h.row.le
  have h1 : decide (o < 0) = true := decide_eq_true (by omega)
  go_enter Try.func30, Try.ntmps30
  go_wp2_with fail
  go_ret2
  exact ⟨rfl, rfl⟩
set_option maxHeartbeats 4000000 in
set_option maxRecDepth 100000 in
theorem window_bad2 (h : KBuf.Buf w p g D cap) (o n : Int) (q1 : 0 ≤ o) (q2 : n < 1) :
    Calls Try.prog 30 #[.pointer (some ⟨p, 0, none⟩), .int .i64 o, .int .i64 n] w fun e w' => e = .returned (.tuple #[.slice (some ⟨g, 0, none⟩) D.length cap, .int .i64 0]) ∧ w = w' := by
  have hc := h.cell
  have hsm := h.small
  have hle := h.row.le
  have h1 : decide (o < 0) = false := decide_eq_false (by omega)
  have h2 : decide (n < 1) = true := decide_eq_true (by omega)
  go_enter Try.func30, Try.ntmps30
  go_wp2_with fail
  go_ret2
  exact ⟨rfl, rfl⟩
set_option maxHeartbeats 4000000 in
set_option maxRecDepth 100000 in
theorem window_bad3 (h : KBuf.Buf w p g D cap) (o n : Int) (q1 : 0 ≤ o) (q3 : 128 < n) :
    Calls Try.prog 30 #[.pointer (some ⟨p, 0, none⟩), .int .i64 o, .int .i64 n] w fun e w' => e = .returned (.tuple #[.slice (some ⟨g, 0, none⟩) D.length cap, .int .i64 0]) ∧ w = w' := by
  have hc := h.cell
  have hsm := h.small
  have hle := h.row.le
  have h1 : decide (o < 0) = false := decide_eq_false (by omega)
  have h2 : decide (n < 1) = false := decide_eq_false (by omega)
  have h3 : decide (n > 128) = true := decide_eq_true (by omega)
  go_enter Try.func30, Try.ntmps30
  go_wp2_with fail
  go_ret2
  exact ⟨rfl, rfl⟩
set_option maxHeartbeats 4000000 in
set_option maxRecDepth 100000 in
theorem window_bad4 (h : KBuf.Buf w p g D cap) (o n : Int) (q1 : 0 ≤ o) (q2 : 1 ≤ n) (q3 : n ≤ 128) (q4 : 8 * (D.length : Int) - n < o) :
    Calls Try.prog 30 #[.pointer (some ⟨p, 0, none⟩), .int .i64 o, .int .i64 n] w fun e w' => e = .returned (.tuple #[.slice (some ⟨g, 0, none⟩) D.length cap, .int .i64 0]) ∧ w = w' := by
  have hc := h.cell
  have hsm := h.small
  have hle := h.row.le
  have h1 : decide (o < 0) = false := decide_eq_false (by omega)
  have h2 : decide (n < 1) = false := decide_eq_false (by omega)
  have h3 : decide (n > 128) = false := decide_eq_false (by omega)
  have h4 : decide (o > 8 * (D.length : Int) - n) = true := decide_eq_true (by omega)
  go_enter Try.func30, Try.ntmps30
  go_wp2_with fail
  go_ret2
  exact ⟨rfl, rfl⟩
theorem window_bad (h : KBuf.Buf w p g D cap) (o n : Int) (hb : o < 0 ∨ n < 1 ∨ 128 < n ∨ 8 * (D.length : Int) - n < o) :
    Calls Try.prog 30 #[.pointer (some ⟨p, 0, none⟩), .int .i64 o, .int .i64 n] w fun e w' => e = .returned (.tuple #[.slice (some ⟨g, 0, none⟩) D.length cap, .int .i64 0]) ∧ w = w' := by
  by_cases q1 : o < 0
  · exact window_bad1 h o n q1
  · by_cases q2 : n < 1
    · exact window_bad2 h o n (by omega) q2
    · by_cases q3 : 128 < n
      · exact window_bad3 h o n (by omega) q3
      · exact window_bad4 h o n (by omega) (by omega) (by omega) (by omega)
theorem win_at (D : List UInt8) (o n : Nat) : ∀ j u, (win D o n)[j]? = some u → D[o / 8 + j]? = some u := by
  intro j u hu
  unfold win at hu
  rw [List.getElem?_take] at hu
  split at hu
  · rwa [List.getElem?_drop] at hu
  · cases hu
set_option maxHeartbeats 4000000 in
set_option maxRecDepth 100000 in
theorem get_ok (h : KBuf.Buf w p g D cap) (o n : Nat) (k : Nat) (r1 r2 : Int) (hn : 1 ≤ n) (hn' : n ≤ 128) (ho : o + n ≤ 8 * D.length) (HG : Aside0 (field_Get.f k (KBuf.txt (win D o n)) ((o : Int) - 8 * ((o : Int) / 8)) n = some (r1, r2, 0))) :
    Calls Try.prog 18 #[.pointer (some ⟨p, 0, none⟩), .int .i64 o, .int .i64 n] w fun e w' => e = .returned (.tuple #[.agg #[.int .u64 r1, .int .u64 r2], .int .i64 0]) ∧ Below w.heap.size w w' := by
  have hu32 := Try.underlying32
  have hsm := h.small
  have HA := Aside0.mk (h.alloc (.cells #[.int .u64 0, .int .u64 0] 32))
  clear h
  go_enter Try.func18, Try.ntmps18
  go_wp2_with fail
  go_at_call 30
  (with_reducible refine (window_ok HA.out o n hn hn' ho).mono ?_)
  rintro e u1 ⟨rfl, rfl⟩
  have hcv := Kd.C_string (P := Try.prog) (dst := 9) (c := (cap - o / 8)) Try.underlying50 Try.underlying5 Try.underlying9 (HA.out.row.Cat (o / 8) (win D o n) (win_at D o n) (by rw [win_len _ _ _ ho]; omega))
  rw [KBuf.str_num8] at hcv
  rw [win_len _ _ _ ho] at hcv
  go_wp2_with fail
  go_at_call 31
  (with_reducible refine (field_Get.calls k _ _ _ r1 r2 0 _ HG.out).mono ?_)
  rintro e u2 ⟨rfl, hb⟩
  have HR := Aside0.mk (blk_below (blk_new w (.cells #[.int .u64 0, .int .u64 0] 32)) hb)
  have HB := Aside0.mk (below_step (below_alloc (Below.refl _ _) _) hb)
  clear hb
  have hz0 : u2.cell? ⟨w.heap.size, 0, none⟩ = some (.int .u64 0) := (blk_cell HR.out 0).trans rfl
  have hz1 : u2.cell? ⟨w.heap.size, 1, none⟩ = some (.int .u64 0) := (blk_cell HR.out 1).trans rfl
  have hf0 := blk_frozen HR.out 0
  have hf1 := blk_frozen HR.out 1
  clear hcv
  go_wp2_with fail
  refine bodyPost_ret (results_ct rfl _ _ w.heap.size 32 #[.int .u64 r1, .int .u64 r2] (0, 0) _ rfl (blk_put (cs := #[.int .u64 r1, .int .u64 0]) (blk_put (cs := #[.int .u64 0, .int .u64 0]) HR.out 0 _ rfl) 1 _ rfl) Try.underlying32 rfl (by kernel_rfl)) rfl ?_
  exact ⟨rfl, below_set (below_set HB.out (Nat.le_refl _)) (Nat.le_refl _)⟩
set_option maxHeartbeats 4000000 in
set_option maxRecDepth 100000 in
theorem get_bad (h : KBuf.Buf w p g D cap) (o n : Int) (k : Nat) (r1 r2 : Int) (hb0 : o < 0 ∨ n < 1 ∨ 128 < n ∨ 8 * (D.length : Int) - n < o) (ho1 : -9223372036854775808 ≤ o) (ho2 : o ≤ 9223372036854775807) (x : Int) (HG : Aside0 (field_Get.f k (KBuf.txt D) o n = some (r1, r2, x))) :
    Calls Try.prog 18 #[.pointer (some ⟨p, 0, none⟩), .int .i64 o, .int .i64 n] w fun e w' => e = .returned (.tuple #[.agg #[.int .u64 r1, .int .u64 r2], .int .i64 x]) ∧ Below w.heap.size w w' := by
  have hu32 := Try.underlying32
  have hsm := h.small
  have HA := Aside0.mk (h.alloc (.cells #[.int .u64 0, .int .u64 0] 32))
  clear h
  go_enter Try.func18, Try.ntmps18
  go_wp2_with fail
  go_at_call 30
  (with_reducible refine (window_bad HA.out o n hb0).mono ?_)
  rintro e u1 ⟨rfl, rfl⟩
  have hcv := Kd.C_string (P := Try.prog) (dst := 9) (c := cap) Try.underlying50 Try.underlying5 Try.underlying9 (HA.out.row.Cat 0 D (fun j u hu => by rw [Nat.zero_add]; exact hu) (by omega))
  rw [KBuf.str_num8] at hcv
  clear hb0
  go_wp2_with fail
  go_at_call 31
  (with_reducible refine (field_Get.calls k _ _ _ r1 r2 x _ HG.out).mono ?_)
  rintro e u2 ⟨rfl, hb⟩
  have HR := Aside0.mk (blk_below (blk_new w (.cells #[.int .u64 0, .int .u64 0] 32)) hb)
  have HB := Aside0.mk (below_step (below_alloc (Below.refl _ _) _) hb)
  clear hb
  have hz0 : u2.cell? ⟨w.heap.size, 0, none⟩ = some (.int .u64 0) := (blk_cell HR.out 0).trans rfl
  have hz1 : u2.cell? ⟨w.heap.size, 1, none⟩ = some (.int .u64 0) := (blk_cell HR.out 1).trans rfl
  have hf0 := blk_frozen HR.out 0
  have hf1 := blk_frozen HR.out 1
  clear hcv
  go_wp2_with fail
  refine bodyPost_ret (results_ct rfl _ _ w.heap.size 32 #[.int .u64 r1, .int .u64 r2] (0, 0) _ rfl (blk_put (cs := #[.int .u64 r1, .int .u64 0]) (blk_put (cs := #[.int .u64 0, .int .u64 0]) HR.out 0 _ rfl) 1 _ rfl) Try.underlying32 rfl (by kernel_rfl)) rfl ?_
  exact ⟨rfl, below_set (below_set HB.out (Nat.le_refl _)) (Nat.le_refl _)⟩
end
end Go.Proofs.Ytdjdgkjikibgaaa.PBuf
