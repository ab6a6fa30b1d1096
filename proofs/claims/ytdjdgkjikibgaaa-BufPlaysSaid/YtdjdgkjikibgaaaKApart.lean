/- BufApart by hand: Copy, and the walk. -/
import Derived.Test.YtdjdgkjikibgaaaKStays3
namespace Go.Proofs.Ytdjdgkjikibgaaa.PBuf
open Go.RowKit Go.Proofs.YtdjdgkjikibgaaaW.PrintWords Go.Proofs.YtdjdgkjikibgaaaW.PrintLast Go.Proofs.YtdjdgkjikibgaaaW.PrintMore
set_option linter.unusedVariables false
set_option linter.unusedSimpArgs false
set_option maxHeartbeats 4000000 in
set_option maxRecDepth 100000 in
theorem copy_any {w : World} {p g cap : Nat} {D : List UInt8} (h : KBuf.Buf w p g D cap) : Calls Try.prog 25 #[.pointer (some ⟨p, 0, none⟩)] w
    fun e w' => ∃ q g' cap', e = .returned (.pointer (some ⟨q, 0, none⟩)) ∧ KBuf.Buf w' q g' D cap' ∧ w.heap.size ≤ q ∧ w.heap.size ≤ g' ∧ Below w.heap.size w w' := by
  have hc := h.cell
  have hsm := h.small
  have hcv := Kd.C_string (P := Try.prog) (dst := 9) (c := cap) Try.underlying50 Try.underlying5 Try.underlying9 (h.row.Cat 0 D (fun j u hu => by rw [Nat.zero_add]; exact hu) (by have := h.small; omega))
  rw [KBuf.str_num8] at hcv
  have kb := fun W => print_bytes (P := Try.prog) 9 50 5 Try.underlying9 Try.underlying50 Try.underlying5 (KBuf.txt D) W
  have hsz : (KBuf.txt D).size ≤ 9216 := by rw [KBuf.txt_size]; exact hsm
  have HS := Aside0.mk hsz
  clear hsz hsm h
  go_enter Try.func25, Try.ntmps25
  go_wp2_with fail
  go_ret
  have hr := KBuf.Row.new w 5 (KBuf.txt D)
  rw [KBuf.bytes_cap] at hr
  have hb : Below w.heap.size w (Lib.bytesWorld w 5 (KBuf.txt D)) := bytes_below (Below.refl _ _) (Nat.le_refl _) 5 (KBuf.txt D)
  have hl : (KBuf.txt D).data.toList = D := rfl
  have hl2 : (KBuf.txt D).size = D.length := KBuf.txt_size D
  have hlt := hr.lt
  rw [hl] at hr
  have hsm := HS.out
  exact ⟨(Lib.bytesWorld w 5 (KBuf.txt D)).heap.size, w.heap.size, grownCap w (KBuf.txt D).size 0 5, rfl, ⟨by rw [← hl2]; exact blk_new _ _, hr.below (below_alloc (Below.refl _ _) _), by omega, by omega⟩, by omega, Nat.le_refl _, below_alloc hb _⟩
theorem at_copy {w u : World} {p : Nat} {D : List UInt8} (h : At w u p D) : Calls Try.prog 25 #[.pointer (some ⟨p, 0, none⟩)] u fun e u' => ∃ q, e = .returned (.pointer (some ⟨q, 0, none⟩)) ∧ Two w u' q D p D := by
  obtain ⟨g, cap, h1, h2, h3, h4⟩ := h
  refine (copy_any h1).mono fun e u' hd => ?_
  obtain ⟨q, g', cap', he, hB, hq, hg, hb⟩ := hd
  have := h4.size
  have hl1 := h1.plt
  have hl2 := h1.row.lt
  exact ⟨q, he, g', cap', g, cap, hB, h1.below hb, by omega, by omega, h2, h3, by omega, by omega, by omega, by omega, below_step h4 hb⟩
/-- An act's five numbers. -/
structure A5 where
  k : Int
  a : Int
  n : Int
  h : Int
  l : Int
/-- The slice's acts: the i-th is v i. -/
def Sl (w : World) (a : Option Addr) (N : Nat) (v : Nat → A5) : Prop :=
  ∀ i, i < N → ∃ x, a = some x ∧ (∀ j, (x.add j).block < w.heap.size) ∧ ActAt w (x.add (i * 5)) (v i).k (v i).a (v i).n (v i).h (v i).l
theorem sl_of {H : Type} {enc : TypeId × Value → H} {base fuel : Nat} {sp : Nat → Bool} {held : Bool} (a : Option Addr) (N C : Nat) (w : World) (d : DataW H × List MemPlace)
    (h : DataW.trod enc Try.prog w base sp held fuel 39 [.slice a N C] = some d) : N ≤ C ∧ ∃ v, Sl w a N v := by
  rcases Go.Deep.open_slice Try.underlying39 h with ⟨hcs, _⟩ | ⟨x, l, c, m, n', D, Pl, hcs, hb, hl, hmx, hmm, hx, hall⟩
  · simp only [List.cons.injEq, and_true, Value.slice.injEq] at hcs
    obtain ⟨rfl, rfl, rfl⟩ := hcs
    exact ⟨Nat.le_refl _, fun _ => ⟨0, 0, 0, 0, 0⟩, fun i hi => absurd hi (by omega)⟩
  · simp only [List.cons.injEq, and_true, Value.slice.injEq] at hcs
    obtain ⟨rfl, rfl, rfl⟩ := hcs
    have hlm : N ≤ m := by rw [hmm]; split <;> omega
    rw [show Try.prog.cellsOf 42 = 5 from by kernel_rfl] at hall
    have hact : ∀ i, i < N → ∃ v : A5, ActAt w (x.add (i * 5)) v.k v.a v.n v.h v.l := fun i hi => by
      obtain ⟨cs', q1, q2⟩ := hall i (by omega)
      obtain ⟨k, a, n, h, l, hh⟩ := act_at q1 q2
      exact ⟨⟨k, a, n, h, l⟩, hh⟩
    have hlt : 0 < N → ∀ j, (x.add j).block < w.heap.size := fun h0 j => by
      obtain ⟨v, ha⟩ := hact 0 h0
      have := World.block_lt_of_cell? _ _ ha.c0
      have e1 : ∀ j, (x.add j).block = x.block := fun j => by unfold Addr.add; split <;> rfl
      rw [e1] at this ⊢
      exact this
    exact ⟨hl, fun i => if hi : i < N then Classical.choose (hact i hi) else ⟨0, 0, 0, 0, 0⟩, fun i hi => ⟨x, rfl, hlt (by omega), by simp only [dif_pos hi]; exact Classical.choose_spec (hact i hi)⟩⟩
/-- What an act makes of the bytes. -/
def Okay (D : List UInt8) (v : A5) : Prop := D.length ≤ 9216 ∧ 0 ≤ v.k ∧ (-9223372036854775808 ≤ v.a ∧ v.a ≤ 9223372036854775807) ∧ (-9223372036854775808 ≤ v.n ∧ v.n ≤ 9223372036854775807) ∧ (0 ≤ v.h ∧ v.h < 18446744073709551616) ∧ (0 ≤ v.l ∧ v.l < 18446744073709551616)
theorem okay_step {D : List UInt8} {v : A5} (h : Okay D v) : ∃ D' x, ∀ u p g cap, KBuf.Buf u p g D cap → Calls Try.prog 20 #[.pointer (some ⟨p, 0, none⟩), actV v.k v.a v.n v.h v.l] u (Does u p g D' (.int .i64 x)) := by
  obtain ⟨x, D', _, hh⟩ := step_all D h.1 v.k v.a v.n v.h v.l h.2.1 h.2.2.1 h.2.2.2.1 h.2.2.2.2.1 h.2.2.2.2.2
  exact ⟨D', x, hh⟩
open Classical in
noncomputable def nextD (D : List UInt8) (v : A5) : List UInt8 := if h : Okay D v then Classical.choose (okay_step h) else D
theorem nextD_step {D : List UInt8} {v : A5} (h : Okay D v) : ∃ x, ∀ u p g cap, KBuf.Buf u p g D cap → Calls Try.prog 20 #[.pointer (some ⟨p, 0, none⟩), actV v.k v.a v.n v.h v.l] u (Does u p g (nextD D v) (.int .i64 x)) := by
  unfold nextD
  rw [dif_pos h]
  exact Classical.choose_spec (okay_step h)
noncomputable def runD (D : List UInt8) (v : Nat → A5) : Nat → List UInt8
  | 0 => D
  | i + 1 => nextD (runD D v i) (v i)
theorem Two.small {w u : World} {p q : Nat} {D B : List UInt8} (h : Two w u p D q B) : D.length ≤ 9216 := by
  obtain ⟨ga, ca, gb, cb, h1, _⟩ := h
  exact h1.small
theorem Two.one {w u : World} {p q : Nat} {D B : List UInt8} (h : Two w u p D q B) : At w u p D := by
  obtain ⟨ga, ca, gb, cb, h1, h2, h3, h4, h5, h6, h7, h8, h9, h10, h11⟩ := h
  exact ⟨ga, ca, h1, h3, h4, h11⟩
theorem okay_of {w : World} {y : Addr} {D : List UInt8} {v : A5} (hD : D.length ≤ 9216) (h : ActAt w y v.k v.a v.n v.h v.l) : Okay D v := ⟨hD, h.rk.1, h.ra, h.rn, h.rh, h.rl⟩
theorem step_two {w u : World} {p q : Nat} {D D' B : List UInt8} {k a n h l x : Int} (hA : Two w u p D q B) (H : ∀ u p g cap, KBuf.Buf u p g D cap → Calls Try.prog 20 #[.pointer (some ⟨p, 0, none⟩), actV k a n h l] u (Does u p g D' (.int .i64 x))) :
    Calls Try.prog 20 #[.pointer (some ⟨p, 0, none⟩), .agg #[.int .u8 k, .int .i64 a, .int .i64 n, .int .u64 h, .int .u64 l]] u fun e u' => e = .returned (.int .i64 x) ∧ Two w u' p D' q B :=
  hA.lift fun g cap hB => H u p g cap hB
theorem text_two {w u : World} {p q : Nat} {D B : List UInt8} (h : Two w u p D q B) : Calls Try.prog 17 #[.pointer (some ⟨p, 0, none⟩)] u fun e u' => e = .returned (.string (KBuf.txt D)) ∧ Two w u' p D q B := h.lift fun g cap hB => text_d hB
set_option maxHeartbeats 8000000 in
set_option maxRecDepth 100000 in
theorem apart_long (s : ByteArray) (a1 a2 : Option Addr) (N1 C1 N2 C2 : Nat) (w : World) (hs : s.size ≤ 140737488351232) (hN1 : N1 ≤ 140737488351232) (hN2 : N2 ≤ 140737488351232) (hb : 4000 < s.size) :
    Calls Try.prog 10 #[.string s, .slice a1 N1 C1, .slice a2 N2 C2] w fun e w' => e = .returned (.bool true) ∧ Below w.heap.size w w' := by
  have h1 : decide ((s.size : Int) > 4000) = true := decide_eq_true (by omega)
  go_enter Try.func10, Try.ntmps10
  go_wp2_with fail
  go_at_call 11
  (with_reducible refine (awake_ok _).mono ?_)
  rintro e u ⟨rfl, hb⟩
  have HB := Aside0.mk hb
  clear hb
  go_wp2_with fail
  go_ret
  exact ⟨rfl, HB.out⟩
set_option maxHeartbeats 8000000 in
set_option maxRecDepth 100000 in
theorem apart_many1 (s : ByteArray) (a1 a2 : Option Addr) (N1 C1 N2 C2 : Nat) (w : World) (hs : s.size ≤ 140737488351232) (hN1 : N1 ≤ 140737488351232) (hN2 : N2 ≤ 140737488351232) (ha : s.size ≤ 4000) (hb : 60 < N1) :
    Calls Try.prog 10 #[.string s, .slice a1 N1 C1, .slice a2 N2 C2] w fun e w' => e = .returned (.bool true) ∧ Below w.heap.size w w' := by
  have h1 : decide ((s.size : Int) > 4000) = false := decide_eq_false (by omega)
  have h2 : decide ((N1 : Int) > 60) = true := decide_eq_true (by omega)
  go_enter Try.func10, Try.ntmps10
  go_wp2_with fail
  go_at_call 11
  (with_reducible refine (awake_ok _).mono ?_)
  rintro e u ⟨rfl, hb⟩
  have HB := Aside0.mk hb
  clear hb
  go_wp2_with fail
  go_ret
  exact ⟨rfl, HB.out⟩
set_option maxHeartbeats 8000000 in
set_option maxRecDepth 100000 in
theorem apart_many2 (s : ByteArray) (a1 a2 : Option Addr) (N1 C1 N2 C2 : Nat) (w : World) (hs : s.size ≤ 140737488351232) (hN1 : N1 ≤ 140737488351232) (hN2 : N2 ≤ 140737488351232) (ha : s.size ≤ 4000) (hb : N1 ≤ 60) (hc : 60 < N2) :
    Calls Try.prog 10 #[.string s, .slice a1 N1 C1, .slice a2 N2 C2] w fun e w' => e = .returned (.bool true) ∧ Below w.heap.size w w' := by
  have h1 : decide ((s.size : Int) > 4000) = false := decide_eq_false (by omega)
  have h2 : decide ((N1 : Int) > 60) = false := decide_eq_false (by omega)
  have h3 : decide ((N2 : Int) > 60) = true := decide_eq_true (by omega)
  go_enter Try.func10, Try.ntmps10
  go_wp2_with fail
  go_at_call 11
  (with_reducible refine (awake_ok _).mono ?_)
  rintro e u ⟨rfl, hb⟩
  have HB := Aside0.mk hb
  clear hb
  go_wp2_with fail
  go_ret
  exact ⟨rfl, HB.out⟩
set_option maxHeartbeats 8000000 in
set_option maxRecDepth 100000 in
theorem apart_ok (s : ByteArray) (a1 a2 : Option Addr) (N1 C1 N2 C2 : Nat) (w : World) (hs : s.size ≤ 4000) (hN1 : N1 ≤ 60) (hN2 : N2 ≤ 60) (hC1 : N1 ≤ C1) (hC2 : N2 ≤ C2) (v1 v2 : Nat → A5) (HX1 : Aside0 (Sl w a1 N1 v1)) (HX2 : Aside0 (Sl w a2 N2 v2)) :
    Calls Try.prog 10 #[.string s, .slice a1 N1 C1, .slice a2 N2 C2] w fun e w' => e = .returned (.bool true) ∧ Below w.heap.size w w' := by
  have h1 : decide ((s.size : Int) > 4000) = false := decide_eq_false (by omega)
  have h2 : decide ((N1 : Int) > 60) = false := decide_eq_false (by omega)
  have h3 : decide ((N2 : Int) > 60) = false := decide_eq_false (by omega)
  go_enter Try.func10, Try.ntmps10
  go_wp2_with fail
  go_at_call 11
  (with_reducible refine (awake_ok _).mono ?_)
  rintro e u ⟨rfl, hb⟩
  have HB := Aside0.mk hb
  clear hb
  go_wp2_with fail
  go_at_call 13
  (with_reducible refine (of_at s w _ HB.out (by omega)).mono ?_)
  rintro e u1 ⟨p, rfl, h⟩
  have HA := Aside0.mk h
  clear h HB
  go_wp2_with fail
  go_loopg [8] N1 (fun d v8 wr => ∃ (i : Nat) (D : List UInt8), v8 = .int .i64 i ∧ Aside0 (i + d = N1) ∧ Aside0 (At w wr p D))
  case atStart => exact ⟨0, _, rfl, ⟨by omega⟩, HA⟩
  case round =>
    clear HA
    obtain ⟨i, D, hv, HD, HA⟩ := hrel
    subst hv
    by_cases hi : i < N1
    · obtain ⟨x, ha, hlt, hact⟩ := HX1.out i hi
      subst ha
      obtain ⟨ex, hstep⟩ := nextD_step (okay_of HA.out.small hact)
      have HC := Aside0.mk hact
      have HL := Aside0.mk hlt
      have HS := Aside0.mk hstep
      have hk := hact.rk
      have hn0 : (N1 : Int) ≤ 60 := by omega
      have c0 := (HC.out.below (HL.out _) HA.out.bel).c0
      have c1 := (HC.out.below (HL.out _) HA.out.bel).c1
      have c2 := (HC.out.below (HL.out _) HA.out.bel).c2
      have c3 := (HC.out.below (HL.out _) HA.out.bel).c3
      have c4 := (HC.out.below (HL.out _) HA.out.bel).c4
      clear hact hstep hlt
      go_wp2_with fail
      go_at_call 20
      (with_reducible refine (step_at HA.out HS.out).mono ?_)
      clear HA c0 c1 c2 c3 c4; rintro e u3 ⟨rfl, h⟩; have HA := Aside0.mk h; clear h
      go_wp2_with fail
      go_roundg (N1 - 1 - i)
      case measure => have := HD.out; omega
      case rel => exact ⟨i + 1, _, by go_num, ⟨by have := HD.out; omega⟩, HA⟩
    · clear HD
      go_wp2_with fail
      go_at_call 17
      (with_reducible refine (at_text HA.out).mono ?_)
      clear HA; rintro e u4 ⟨rfl, h⟩; have HA := Aside0.mk h; clear h
      go_wp2_with fail
      go_at_call 25
      (with_reducible refine (at_copy HA.out).mono ?_)
      clear HA; rintro e u5 ⟨q, rfl, h⟩; have HT := Aside0.mk h; clear h
      go_wp2_with fail
      go_loopg [11] N2 (fun d v11 wr => ∃ (i : Nat), v11 = .int .i64 i ∧ Aside0 (i + d = N2) ∧ Aside0 (Two w wr q (runD D v2 i) p D))
      case atStart => exact ⟨0, rfl, ⟨by omega⟩, HT⟩
      case round =>
        clear HT
        obtain ⟨i, hv, HD, HT⟩ := hrel
        subst hv
        by_cases hi : i < N2
        · obtain ⟨x, ha, hlt, hact⟩ := HX2.out i hi
          subst ha
          obtain ⟨ex, hstep⟩ := nextD_step (okay_of HT.out.small hact)
          have HC := Aside0.mk hact
          have HL := Aside0.mk hlt
          have HS := Aside0.mk hstep
          have hk := hact.rk
          have hn0 : (N2 : Int) ≤ 60 := by omega
          have c0 := (HC.out.below (HL.out _) HT.out.bel).c0
          have c1 := (HC.out.below (HL.out _) HT.out.bel).c1
          have c2 := (HC.out.below (HL.out _) HT.out.bel).c2
          have c3 := (HC.out.below (HL.out _) HT.out.bel).c3
          have c4 := (HC.out.below (HL.out _) HT.out.bel).c4
          clear hact hstep hlt
          go_wp2_with fail
          go_at_call 20
          (with_reducible refine (step_two HT.out HS.out).mono ?_)
          clear HT c0 c1 c2 c3 c4; rintro e u3 ⟨rfl, h⟩; have HT := Aside0.mk h; clear h
          go_wp2_with fail
          go_roundg (N2 - 1 - i)
          case measure => have := HD.out; omega
          case rel => exact ⟨i + 1, by go_num, ⟨by have := HD.out; omega⟩, HT⟩
        · have hiN : N2 = i := by have := HD.out; omega
          subst hiN
          clear HD
          have h := HT.out.symm; clear HT; have HT := Aside0.mk h; clear h
          go_wp2_with fail
          go_at_call 17
          (with_reducible refine (text_two HT.out).mono ?_)
          clear HT; rintro e u4 ⟨rfl, h⟩; have HT := Aside0.mk h.symm; clear h
          go_wp2_with fail
          go_at_call 17
          (with_reducible refine (text_two HT.out).mono ?_)
          clear HT; rintro e u5 ⟨rfl, h⟩; have HT := Aside0.mk h.symm; clear h
          go_wp2_with fail
          go_loopg [13] N2 (fun d v13 wr => ∃ (j : Nat), v13 = .int .i64 j ∧ Aside0 (j + d = N2) ∧ Aside0 (Two w wr p (runD D v2 j) q (runD D v2 N2)))
          case atStart => exact ⟨0, rfl, ⟨by omega⟩, HT⟩
          case round =>
            clear HT
            obtain ⟨j, hv, HD, HT⟩ := hrel
            subst hv
            by_cases hi : j < N2
            · obtain ⟨x, ha, hlt, hact⟩ := HX2.out j hi
              subst ha
              obtain ⟨ex, hstep⟩ := nextD_step (okay_of HT.out.small hact)
              have HC := Aside0.mk hact
              have HL := Aside0.mk hlt
              have HS := Aside0.mk hstep
              have hk := hact.rk
              have hn0 : (N2 : Int) ≤ 60 := by omega
              have c0 := (HC.out.below (HL.out _) HT.out.bel).c0
              have c1 := (HC.out.below (HL.out _) HT.out.bel).c1
              have c2 := (HC.out.below (HL.out _) HT.out.bel).c2
              have c3 := (HC.out.below (HL.out _) HT.out.bel).c3
              have c4 := (HC.out.below (HL.out _) HT.out.bel).c4
              clear hact hstep hlt
              go_wp2_with fail
              go_at_call 20
              (with_reducible refine (step_two HT.out HS.out).mono ?_)
              clear HT c0 c1 c2 c3 c4; rintro e u3 ⟨rfl, h⟩; have HT := Aside0.mk h; clear h
              go_wp2_with fail
              go_roundg (N2 - 1 - j)
              case measure => have := HD.out; omega
              case rel => exact ⟨j + 1, by go_num, ⟨by have := HD.out; omega⟩, HT⟩
            · have hiN : N2 = j := by have := HD.out; omega
              subst hiN
              clear HD
              have h := HT.out.symm; clear HT; have HT := Aside0.mk h; clear h
              go_wp2_with fail
              go_at_call 17
              (with_reducible refine (text_two HT.out).mono ?_)
              clear HT; rintro e u4 ⟨rfl, h⟩; have HT := Aside0.mk h.symm; clear h
              go_wp2_with fail
              go_at_call 17
              (with_reducible refine (text_two HT.out).mono ?_)
              clear HT; rintro e u5 ⟨rfl, h⟩; have HT := Aside0.mk h.symm; clear h
              go_wp2_with fail
              go_ret
              exact ⟨rfl, HT.out.bel⟩

theorem bufApart {H : Type} {enc : TypeId × Value → H} {base fuel fuel2 : Nat} {sp : Nat → Bool} {held : Bool} (s : ByteArray) (a1 : Option Addr) (N1 C1 : Nat) (a2 : Option Addr) (N2 C2 : Nat) (w : World) (d d2 : DataW H × List MemPlace)
    (hs : s.size ≤ 140737488351232) (hN1 : N1 ≤ 140737488351232) (hN2 : N2 ≤ 140737488351232) (h : DataW.trod enc Try.prog w base sp held fuel 39 [.slice a1 N1 C1] = some d) (h2 : DataW.trod enc Try.prog w base sp held fuel2 39 [.slice a2 N2 C2] = some d2) :
    Calls Try.prog 10 #[.string s, .slice a1 N1 C1, .slice a2 N2 C2] w fun e w' => e = .returned (.bool true) ∧ Below w.heap.size w w' := by
  obtain ⟨hc1, v1, hv1⟩ := sl_of a1 N1 C1 w d h
  obtain ⟨hc2, v2, hv2⟩ := sl_of a2 N2 C2 w d2 h2
  by_cases q1 : s.size ≤ 4000
  · by_cases q2 : N1 ≤ 60
    · by_cases q3 : N2 ≤ 60
      · exact apart_ok s a1 a2 N1 C1 N2 C2 w q1 q2 q3 hc1 hc2 v1 v2 ⟨hv1⟩ ⟨hv2⟩
      · exact apart_many2 s a1 a2 N1 C1 N2 C2 w hs hN1 hN2 q1 q2 (by omega)
    · exact apart_many1 s a1 a2 N1 C1 N2 C2 w hs hN1 hN2 q1 (by omega)
  · exact apart_long s a1 a2 N1 C1 N2 C2 w hs hN1 hN2 (by omega)
end Go.Proofs.Ytdjdgkjikibgaaa.PBuf
