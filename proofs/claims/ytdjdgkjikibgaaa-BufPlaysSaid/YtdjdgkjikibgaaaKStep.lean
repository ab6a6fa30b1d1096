/- step: an act on a buffer. -/
import Derived.Test.YtdjdgkjikibgaaaKAny
namespace Go.Proofs.Ytdjdgkjikibgaaa.PBuf
open Go.RowKit Go.Proofs.YtdjdgkjikibgaaaW.PrintWords Go.Proofs.YtdjdgkjikibgaaaW.PrintLast Go.Proofs.YtdjdgkjikibgaaaW.PrintMore
set_option linter.unusedVariables false
set_option linter.unusedSimpArgs false
def actV (k a n h l : Int) : Value := .agg #[.int .u8 k, .int .i64 a, .int .i64 n, .int .u64 h, .int .u64 l]
def actO (k a n h l : Int) : Obj := .cells #[.int .u8 k, .int .i64 a, .int .i64 n, .int .u64 h, .int .u64 l] 42
section
variable {u : World} {p g cap : Nat} {D D' : List UInt8} {k a n h l : Int}
theorem Does.before {u u2 : World} {o : Obj} {p g : Nat} {D' : List UInt8} {r r2 : Value} {e : Ending} (hp : p < u.heap.size) (hg : g < u.heap.size) (hd : Does (u.alloc o) p g D' r e u2) : Does u p g D' r2 (.returned r2) u2 := by
  obtain ⟨he, g', cap', hB, hg2, hm⟩ := hd
  have hs : u.heap.size ≤ (u.alloc o).heap.size := (below_alloc (Below.refl u.heap.size u) o).size
  exact ⟨rfl, g', cap', hB, by omega, (KBuf.Mod.of_below (below_alloc (Below.refl _ _) o)).trans hm⟩
set_option maxHeartbeats 8000000 in
set_option maxRecDepth 100000 in
theorem step_get (hB : KBuf.Buf u p g D cap) (r1 r2 : Int) (x : Int) (H : Aside0 (Acts 18 D (fun q => #[q, .int .i64 a, .int .i64 n]) (.tuple #[.agg #[.int .u64 r1, .int .u64 r2], .int .i64 x]) D')) :
    Calls Try.prog 20 #[.pointer (some ⟨p, 0, none⟩), actV 0 a n h l] u (Does u p g D' (.int .i64 x)) := by
  unfold actV
  have hpl := Aside0.mk hB.plt
  have hgl := Aside0.mk hB.row.lt
  have HA := Aside0.mk (hB.alloc (.cells #[.int .u8 0, .int .i64 a, .int .i64 n, .int .u64 h, .int .u64 l] 42))
  have hcall := H.out _ p g cap HA.out
  dsimp only at hcall
  have HC := Aside0.mk hcall
  clear hB hcall
  go_enter Try.func20, Try.ntmps20
  go_wp2_with fail
  go_at_call 18
  (with_reducible refine (HC.out).mono ?_)
  rintro e u2 hd
  obtain rfl := hd.1
  have HD := Aside0.mk hd
  clear hd HA H HC
  go_wp2_with fail
  go_ret
  exact Does.before hpl.out hgl.out HD.out
set_option maxHeartbeats 8000000 in
set_option maxRecDepth 100000 in
theorem step_put (hB : KBuf.Buf u p g D cap)  (x : Int) (H : Aside0 (Acts 19 D (fun q => #[q, .int .i64 a, .int .i64 n, .agg #[.int .u64 h, .int .u64 l]]) (.int .i64 x) D')) :
    Calls Try.prog 20 #[.pointer (some ⟨p, 0, none⟩), actV 1 a n h l] u (Does u p g D' (.int .i64 x)) := by
  unfold actV
  have hpl := Aside0.mk hB.plt
  have hgl := Aside0.mk hB.row.lt
  have HA := Aside0.mk (hB.alloc (.cells #[.int .u8 1, .int .i64 a, .int .i64 n, .int .u64 h, .int .u64 l] 42))
  have hcall := H.out _ p g cap HA.out
  dsimp only at hcall
  have HC := Aside0.mk hcall
  clear hB hcall
  go_enter Try.func20, Try.ntmps20
  go_wp2_with fail
  go_at_call 19
  (with_reducible refine (HC.out).mono ?_)
  rintro e u2 hd
  obtain rfl := hd.1
  have HD := Aside0.mk hd
  clear hd HA H HC
  go_wp2_with fail
  go_ret
  exact Does.before hpl.out hgl.out HD.out
set_option maxHeartbeats 8000000 in
set_option maxRecDepth 100000 in
theorem step_ins (hB : KBuf.Buf u p g D cap)  (x : Int) (H : Aside0 (Acts 14 D (fun q => #[q, .int .i64 a, .int .i64 n]) (.int .i64 x) D')) :
    Calls Try.prog 20 #[.pointer (some ⟨p, 0, none⟩), actV 2 a n h l] u (Does u p g D' (.int .i64 x)) := by
  unfold actV
  have hpl := Aside0.mk hB.plt
  have hgl := Aside0.mk hB.row.lt
  have HA := Aside0.mk (hB.alloc (.cells #[.int .u8 2, .int .i64 a, .int .i64 n, .int .u64 h, .int .u64 l] 42))
  have hcall := H.out _ p g cap HA.out
  dsimp only at hcall
  have HC := Aside0.mk hcall
  clear hB hcall
  go_enter Try.func20, Try.ntmps20
  go_wp2_with fail
  go_at_call 14
  (with_reducible refine (HC.out).mono ?_)
  rintro e u2 hd
  obtain rfl := hd.1
  have HD := Aside0.mk hd
  clear hd HA H HC
  go_wp2_with fail
  go_ret
  exact Does.before hpl.out hgl.out HD.out
set_option maxHeartbeats 8000000 in
set_option maxRecDepth 100000 in
theorem step_del (hB : KBuf.Buf u p g D cap)  (x : Int) (H : Aside0 (Acts 16 D (fun q => #[q, .int .i64 a, .int .i64 n]) (.int .i64 x) D')) :
    Calls Try.prog 20 #[.pointer (some ⟨p, 0, none⟩), actV 3 a n h l] u (Does u p g D' (.int .i64 x)) := by
  unfold actV
  have hpl := Aside0.mk hB.plt
  have hgl := Aside0.mk hB.row.lt
  have HA := Aside0.mk (hB.alloc (.cells #[.int .u8 3, .int .i64 a, .int .i64 n, .int .u64 h, .int .u64 l] 42))
  have hcall := H.out _ p g cap HA.out
  dsimp only at hcall
  have HC := Aside0.mk hcall
  clear hB hcall
  go_enter Try.func20, Try.ntmps20
  go_wp2_with fail
  go_at_call 16
  (with_reducible refine (HC.out).mono ?_)
  rintro e u2 hd
  obtain rfl := hd.1
  have HD := Aside0.mk hd
  clear hd HA H HC
  go_wp2_with fail
  go_ret
  exact Does.before hpl.out hgl.out HD.out
set_option maxHeartbeats 8000000 in
set_option maxRecDepth 100000 in
theorem step_sum (hB : KBuf.Buf u p g D cap) (v : Int) (hk : 3 < k) (x : Int) (H : Aside0 (Acts 21 D (fun q => #[q, .int .i64 a, .int .i64 n]) (.tuple #[.int .u16 v, .int .i64 x]) D')) :
    Calls Try.prog 20 #[.pointer (some ⟨p, 0, none⟩), actV k a n h l] u (Does u p g D' (.int .i64 x)) := by
  unfold actV
  have q0 : ¬ k = 0 := by omega
  have q1 : ¬ k = 1 := by omega
  have q2 : ¬ k = 2 := by omega
  have q3 : ¬ k = 3 := by omega
  have hpl := Aside0.mk hB.plt
  have hgl := Aside0.mk hB.row.lt
  have HA := Aside0.mk (hB.alloc (.cells #[.int .u8 k, .int .i64 a, .int .i64 n, .int .u64 h, .int .u64 l] 42))
  have hcall := H.out _ p g cap HA.out
  dsimp only at hcall
  have HC := Aside0.mk hcall
  clear hB hcall
  go_enter Try.func20, Try.ntmps20
  go_wp2_with fail
  go_at_call 21
  (with_reducible refine (HC.out).mono ?_)
  rintro e u2 hd
  obtain rfl := hd.1
  have HD := Aside0.mk hd
  clear hd HA H HC
  go_wp2_with fail
  go_ret
  exact Does.before hpl.out hgl.out HD.out
end
theorem word_split (h l : Int) (hh : 0 ≤ h ∧ h < 18446744073709551616) (hl : 0 ≤ l ∧ l < 18446744073709551616) : ∃ x : MBits.W, MBits.hi x = h ∧ MBits.lo x = l := by
  obtain ⟨a, rfl⟩ := Int.eq_ofNat_of_zero_le hh.1
  obtain ⟨b, rfl⟩ := Int.eq_ofNat_of_zero_le hl.1
  have hlt : a * 2 ^ 64 + b < 2 ^ 128 := by omega
  refine ⟨BitVec.ofNat 128 (a * 2 ^ 64 + b), ?_, ?_⟩
  · rw [MField.hi_v _ hlt]; congr 1; omega
  · rw [MField.lo_v _ hlt]; congr 1; omega
/-- An act at any buffer of the bytes D: its answer and the bytes behind it hang on D and the act alone. -/
theorem step_all (D : List UInt8) (hD : D.length ≤ 9216) (k a n h l : Int) (hk : 0 ≤ k) (ha : -9223372036854775808 ≤ a ∧ a ≤ 9223372036854775807) (hn : -9223372036854775808 ≤ n ∧ n ≤ 9223372036854775807)
    (hh : 0 ≤ h ∧ h < 18446744073709551616) (hl : 0 ≤ l ∧ l < 18446744073709551616) :
    ∃ x D', (x ≠ 0 ∨ k = 0 ∨ 3 < k → D' = D) ∧ ∀ u p g cap, KBuf.Buf u p g D cap → Calls Try.prog 20 #[.pointer (some ⟨p, 0, none⟩), actV k a n h l] u (Does u p g D' (.int .i64 x)) := by
  by_cases h0 : k = 0
  · subst h0
    obtain ⟨r1, r2, x, H⟩ := get_all D hD a n ha
    exact ⟨x, D, fun _ => rfl, fun u p g cap hB => step_get hB r1 r2 x ⟨H⟩⟩
  · by_cases h1 : k = 1
    · subst h1
      obtain ⟨y, rfl, rfl⟩ := word_split h l hh hl
      obtain ⟨x, D', hx, H⟩ := put_all D hD a n ha y
      exact ⟨x, D', fun hc => hx (by omega), fun u p g cap hB => step_put hB x ⟨H⟩⟩
    · by_cases h2 : k = 2
      · subst h2
        obtain ⟨x, D', hx, H⟩ := ins_all D a n hn
        exact ⟨x, D', fun hc => hx (by omega), fun u p g cap hB => step_ins hB x ⟨H⟩⟩
      · by_cases h3 : k = 3
        · subst h3
          obtain ⟨x, D', hx, H⟩ := del_all D a n
          exact ⟨x, D', fun hc => hx (by omega), fun u p g cap hB => step_del hB x ⟨H⟩⟩
        · obtain ⟨v, x, H⟩ := sum_all D hD a n
          exact ⟨x, D, fun _ => rfl, fun u p g cap hB => step_sum hB v (by omega) x ⟨H⟩⟩
end Go.Proofs.Ytdjdgkjikibgaaa.PBuf
