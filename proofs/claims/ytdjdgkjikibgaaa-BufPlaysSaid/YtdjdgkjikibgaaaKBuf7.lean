/- What the functions of package buf do: Put. -/
import Derived.Test.YtdjdgkjikibgaaaKBuf6
namespace Go.Proofs.Ytdjdgkjikibgaaa.PBuf
open Go.RowKit Go.Proofs.YtdjdgkjikibgaaaW.PrintWords Go.Proofs.YtdjdgkjikibgaaaW.PrintLast Go.Proofs.YtdjdgkjikibgaaaW.PrintMore Go.Proofs.Ytdjdgkjikibgaaa.KBuf
set_option linter.unusedVariables false
set_option linter.unusedSimpArgs false
theorem wpList_copy {P : Program} (w : World) {ops : Array Oper} {rest : List Oper} {o : Oper} {a : Act} {Q : Exit → Act → World → Prop}
    (hg : o.guard = none) (s x : Operand) (t tx : TypeId) (hop : o.op = Op.call { callee := Callee.builtin Builtin.copy, args := #[s, x], argTypes := #[t, tx] })
    (vs vx v : Value) (w' : World) (hs : a.eval s = vs) (hx : a.eval x = vx) (hrun : (Builtin.copy_ #[t, tx] o.type #[vs, vx]).run P w = .ok v w')
    (hK : wpList P ops Q rest (a.put o.dst v) w') : wpList P ops Q (o :: rest) a w := by
  refine wpList_plain hg fun K hK' => ?_
  unfold Oper.wp
  simp [execOp, hop, resolve, invoke, builtin, hs, hx, hrun, Result.andThen]
  exact hK' _ _ hK
theorem size5w (w : World) : (Go.sizeOf 5).run Try.prog w = .ok 1 w := by
  first
    | exact run_sizeOf _ _ size5
    | (have h := size5
       cases hq : Try.prog.info? 5 with
       | none => rw [hq] at h; cases h
       | some i =>
         have hi : i.size = 1 := by rw [hq] at h; simpa using h
         simp [sizeOf, typeInfo, hq, hi])
section
variable {w : World} {p g cap : Nat} {D : List UInt8}
set_option maxHeartbeats 8000000 in
set_option maxRecDepth 100000 in
theorem put_ok (h : KBuf.Buf w p g D cap) (o n : Nat) (k : Nat) (lo hi : Int) (s : ByteArray) (hn : 1 ≤ n) (hn' : n ≤ 128) (ho : o + n ≤ 8 * D.length) (hs : s.size = (o + n + 7) / 8 - o / 8)
    (HP : Aside0 (field_Put.f k (KBuf.txt (win D o n)) ((o : Int) - 8 * ((o : Int) / 8)) n hi lo = some (s, 0))) :
    Calls Try.prog 19 #[.pointer (some ⟨p, 0, none⟩), .int .i64 o, .int .i64 n, .agg #[.int .u64 hi, .int .u64 lo]] w fun e w' => e = .returned (.int .i64 0) ∧ KBuf.Buf w' p g (D.take (o / 8) ++ s.data.toList ++ D.drop (o / 8 + s.size)) cap ∧ KBuf.Mod (fun k => k = g) w w' := by
  have hu32 := Try.underlying32
  have hsm := h.small
  have HA := Aside0.mk (h.alloc (.cells #[.int .u64 hi, .int .u64 lo] 32))
  have hl := h.row.le
  clear h
  go_enter Try.func19, Try.ntmps19
  go_wp2_with fail
  go_at_call 30
  (with_reducible refine (window_ok HA.out o n hn hn' ho).mono ?_)
  rintro e u1 ⟨rfl, rfl⟩
  have hcv := Kd.C_string (P := Try.prog) (dst := 9) (c := (cap - o / 8)) Try.underlying50 Try.underlying5 Try.underlying9 (HA.out.row.Cat (o / 8) (win D o n) (win_at D o n) (by rw [win_len _ _ _ ho]; omega))
  rw [KBuf.str_num8] at hcv
  rw [win_len _ _ _ ho] at hcv
  have hz0 : (w.alloc (.cells #[.int .u64 hi, .int .u64 lo] 32)).cell? ⟨w.heap.size, 0, none⟩ = some (.int .u64 hi) := (blk_cell (blk_new w _) 0).trans rfl
  have hz1 : (w.alloc (.cells #[.int .u64 hi, .int .u64 lo] 32)).cell? ⟨w.heap.size, 1, none⟩ = some (.int .u64 lo) := (blk_cell (blk_new w _) 1).trans rfl
  go_wp2_with fail
  go_at_call 32
  (with_reducible refine (field_Put.calls k _ _ _ _ _ _ _ _ HP.out).mono ?_)
  rintro e u2 ⟨rfl, hb⟩
  have hB := HA.out.below hb
  have hrun := run_copy_string (P := Try.prog) u2 50 9 3 5 g (o / 8) ((o + n + 7) / 8 - o / 8) (cap - o / 8) s Try.underlying50 size5w (by omega) (fun j hj => hB.row.more _ (by omega)) (fun j hj => hB.row.free _ (by omega))
  have HRUN := Aside0.mk hrun
  have HM := Aside0.mk ((KBuf.Mod.of_below (S := fun k => k = g) (below_step (below_alloc (Below.refl _ _) (.cells #[.int .u64 hi, .int .u64 lo] 32)) hb)).trans (KBuf.Mod.setCells u2 g (o / 8) (s.data.toList.map fun x => Value.int .u8 (x.toNat : Int)) rfl))
  have HB := Aside0.mk hB
  clear hB hrun hb hcv hz0 hz1
  go_wp2_with (refine wpList_copy _ rfl _ _ 50 9 rfl _ _ _ _ rfl rfl HRUN.out ?_)
  go_ret
  have hlt : s.data.toList.length = s.size := data_length s
  have hrow := HB.out.row.put (N := s.data.toList) (o / 8) (by omega) (by omega)
  rw [hlt] at hrow
  have hlen : (D.take (o / 8) ++ s.data.toList ++ D.drop (o / 8 + s.size)).length = D.length := by rw [List.length_append, List.length_append, hlt, List.length_take, List.length_drop]; omega
  have hbox := ((KBuf.Mod.setCells (S := fun k => k = g) u2 g (o / 8) (s.data.toList.map fun x => Value.int .u8 (x.toNat : Int)) rfl).block p HB.out.plt HB.out.ne).trans HB.out.box
  exact ⟨rfl, ⟨by rw [hlen]; exact hbox, hrow, HB.out.ne, by rw [hlen]; exact hsm⟩, HM.out⟩
/-- Put refused. -/
theorem put_bad (h : KBuf.Buf w p g D cap) (o n : Int) (k : Nat) (lo hi : Int) (s : ByteArray) (x : Int) (hb0 : o < 0 ∨ n < 1 ∨ 128 < n ∨ 8 * (D.length : Int) - n < o) (ho1 : -9223372036854775808 ≤ o) (ho2 : o ≤ 9223372036854775807) (hx : x ≠ 0)
    (HP : Aside0 (field_Put.f k (KBuf.txt D) o n hi lo = some (s, x))) :
    Calls Try.prog 19 #[.pointer (some ⟨p, 0, none⟩), .int .i64 o, .int .i64 n, .agg #[.int .u64 hi, .int .u64 lo]] w fun e w' => e = .returned (.int .i64 x) ∧ Below w.heap.size w w' := by
  have hu32 := Try.underlying32
  have hsm := h.small
  have HA := Aside0.mk (h.alloc (.cells #[.int .u64 hi, .int .u64 lo] 32))
  clear h
  go_enter Try.func19, Try.ntmps19
  go_wp2_with fail
  go_at_call 30
  (with_reducible refine (window_bad HA.out o n hb0).mono ?_)
  rintro e u1 ⟨rfl, rfl⟩
  have hcv := Kd.C_string (P := Try.prog) (dst := 9) (c := cap) Try.underlying50 Try.underlying5 Try.underlying9 (HA.out.row.Cat 0 D (fun j u hu => by rw [Nat.zero_add]; exact hu) (by omega))
  rw [KBuf.str_num8] at hcv
  have hz0 : (w.alloc (.cells #[.int .u64 hi, .int .u64 lo] 32)).cell? ⟨w.heap.size, 0, none⟩ = some (.int .u64 hi) := (blk_cell (blk_new w _) 0).trans rfl
  have hz1 : (w.alloc (.cells #[.int .u64 hi, .int .u64 lo] 32)).cell? ⟨w.heap.size, 1, none⟩ = some (.int .u64 lo) := (blk_cell (blk_new w _) 1).trans rfl
  clear hb0
  go_wp2_with fail
  go_at_call 32
  (with_reducible refine (field_Put.calls k _ _ _ _ _ _ _ _ HP.out).mono ?_)
  rintro e u2 ⟨rfl, hb⟩
  have HB := Aside0.mk (below_step (below_alloc (Below.refl _ _) (.cells #[.int .u64 hi, .int .u64 lo] 32)) hb)
  clear hb hcv hz0 hz1
  go_wp2_with fail
  go_ret
  exact ⟨rfl, HB.out⟩
end
end Go.Proofs.Ytdjdgkjikibgaaa.PBuf
