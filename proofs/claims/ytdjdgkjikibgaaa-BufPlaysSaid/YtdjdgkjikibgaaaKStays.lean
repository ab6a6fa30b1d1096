/- BufStays by hand. -/
import Derived.Test.YtdjdgkjikibgaaaKStep
namespace Go.Proofs.Ytdjdgkjikibgaaa.PBuf
open Go.RowKit Go.Proofs.YtdjdgkjikibgaaaW.PrintWords Go.Proofs.YtdjdgkjikibgaaaW.PrintLast Go.Proofs.YtdjdgkjikibgaaaW.PrintMore
set_option linter.unusedVariables false
set_option linter.unusedSimpArgs false
/-- An act's five cells at y. -/
structure ActAt (w : World) (y : Addr) (k a n h l : Int) : Prop where
  c0 : w.cell? y = some (.int .u8 k)
  c1 : w.cell? ⟨y.block, y.off + 1, none⟩ = some (.int .i64 a)
  c2 : w.cell? ⟨y.block, y.off + 2, none⟩ = some (.int .i64 n)
  c3 : w.cell? ⟨y.block, y.off + 3, none⟩ = some (.int .u64 h)
  c4 : w.cell? ⟨y.block, y.off + 4, none⟩ = some (.int .u64 l)
  rk : 0 ≤ k ∧ k < 256
  ra : -9223372036854775808 ≤ a ∧ a ≤ 9223372036854775807
  rn : -9223372036854775808 ≤ n ∧ n ≤ 9223372036854775807
  rh : 0 ≤ h ∧ h < 18446744073709551616
  rl : 0 ≤ l ∧ l < 18446744073709551616
theorem ActAt.below {B : Nat} {w w' : World} {y : Addr} {k a n h l : Int} (H : ActAt w y k a n h l) (hB : y.block < B) (hb : Below B w w') : ActAt w' y k a n h l := by
  have e := hb.block y.block hB
  exact ⟨(World.cell?_of_block e).trans H.c0, (World.cell?_of_block (a := ⟨y.block, y.off + 1, none⟩) e).trans H.c1, (World.cell?_of_block (a := ⟨y.block, y.off + 2, none⟩) e).trans H.c2,
    (World.cell?_of_block (a := ⟨y.block, y.off + 3, none⟩) e).trans H.c3, (World.cell?_of_block (a := ⟨y.block, y.off + 4, none⟩) e).trans H.c4, H.rk, H.ra, H.rn, H.rh, H.rl⟩
/-- The slice's acts. -/
def Acts5 (w : World) (x : Addr) (N : Nat) : Prop := (∀ j, (x.add j).block < w.heap.size) ∧ ∀ i, i < N → ∃ k a n h l, ActAt w (x.add (i * 5)) k a n h l
theorem step_at {w u : World} {p : Nat} {D D' : List UInt8} {k a n h l x : Int} (hA : At w u p D) (H : ∀ u p g cap, KBuf.Buf u p g D cap → Calls Try.prog 20 #[.pointer (some ⟨p, 0, none⟩), actV k a n h l] u (Does u p g D' (.int .i64 x))) :
    Calls Try.prog 20 #[.pointer (some ⟨p, 0, none⟩), .agg #[.int .u8 k, .int .i64 a, .int .i64 n, .int .u64 h, .int .u64 l]] u fun e u' => e = .returned (.int .i64 x) ∧ At w u' p D' :=
  hA.lift fun g cap hB => H u p g cap hB
theorem at_lenD {w u : World} {p : Nat} {D : List UInt8} (h : At w u p D) : Calls Try.prog 15 #[.pointer (some ⟨p, 0, none⟩)] u fun e u' => e = .returned (.int .i64 ((KBuf.txt D).size : Nat)) ∧ At w u' p D := by
  rw [KBuf.txt_size]; exact h.lift fun g cap hB => len_d hB
set_option maxHeartbeats 8000000 in
set_option maxRecDepth 100000 in
theorem stays_ok (s : ByteArray) (x : Addr) (N C : Nat) (w : World) (hs : s.size ≤ 9216) (hN : N ≤ 80) (hNC : N ≤ C) (HX : Aside0 (Acts5 w x N)) : Calls Try.prog 6 #[.string s, .slice (some x) N C] w fun e w' => e = .returned (.bool true) ∧ Below w.heap.size w w' := by
  have h1 : decide ((s.size : Int) > 9216) = false := decide_eq_false (by omega)
  have h2 : decide ((N : Int) > 80) = false := decide_eq_false (by omega)
  go_enter Try.func6, Try.ntmps6
  go_wp2_with fail
  go_at_call 11
  (with_reducible refine (awake_ok _).mono ?_)
  rintro e u ⟨rfl, hb⟩
  have HB := Aside0.mk hb
  clear hb
  go_wp2_with fail
  go_at_call 13
  (with_reducible refine (of_at s w _ HB.out hs).mono ?_)
  rintro e u1 ⟨p, rfl, h⟩
  have HA := Aside0.mk h
  clear h HB
  go_wp2_with fail
  go_loopg [6] N (fun d v6 wr => ∃ (i : Nat) (D : List UInt8), v6 = .int .i64 i ∧ Aside0 (i + d = N) ∧ Aside0 (At w wr p D))
  case atStart => exact ⟨0, _, rfl, ⟨by omega⟩, HA⟩
  case round =>
    clear HA
    obtain ⟨i, D, hv, HD, HA⟩ := hrel
    subst hv
    by_cases hi : i < N
    · obtain ⟨k, a, n, h, l, hact⟩ := HX.out.2 i hi
      have hd : decide ((i : Int) < (N : Int)) = true := decide_eq_true (by omega)
      obtain ⟨ex, D', hsame, hstep⟩ := step_all D HA.out.small k a n h l hact.rk.1 hact.ra hact.rn hact.rh hact.rl
      have HC := Aside0.mk hact
      have HS := Aside0.mk hstep
      have HE := Aside0.mk hsame
      have hk := hact.rk
      clear hact hstep hsame
      go_wp2_with fail
      go_at_call 17
      (with_reducible refine (at_text HA.out).mono ?_)
      clear HA; rintro e u2 ⟨rfl, h⟩; have HA := Aside0.mk h; clear h
      have c0 := (HC.out.below (HX.out.1 _) HA.out.bel).c0
      have c1 := (HC.out.below (HX.out.1 _) HA.out.bel).c1
      have c2 := (HC.out.below (HX.out.1 _) HA.out.bel).c2
      have c3 := (HC.out.below (HX.out.1 _) HA.out.bel).c3
      have c4 := (HC.out.below (HX.out.1 _) HA.out.bel).c4
      go_wp2_with fail
      go_at_call 20
      (with_reducible refine (step_at HA.out HS.out).mono ?_)
      clear HA c0 c1 c2 c3 c4; rintro e u3 ⟨rfl, h⟩; have HA := Aside0.mk h; clear h
      have c0 := (HC.out.below (HX.out.1 _) HA.out.bel).c0
      have hn0 : (N : Int) ≤ 80 := by omega
      by_cases q0 : k = 0
      · have hDD := HE.out (.inr (.inl q0))
        subst hDD
        subst q0
        clear HE HS HC
        by_cases qe : ex = 0
        · subst qe
          have h3 : decide (((KBuf.txt D').size : Int) > 9216) = false := decide_eq_false (by rw [KBuf.txt_size]; have := HA.out.small; omega)
          go_wp2_with fail
          go_at_call 17
          (with_reducible refine (at_text HA.out).mono ?_)
          clear HA; rintro e u4 ⟨rfl, h⟩; have HA := Aside0.mk h; clear h
          go_wp2_with fail
          go_at_call 15
          (with_reducible refine (at_lenD HA.out).mono ?_)
          clear HA; rintro e u5 ⟨rfl, h⟩; have HA := Aside0.mk h; clear h
          go_wp2_with fail
          go_at_call 15
          (with_reducible refine (at_lenD HA.out).mono ?_)
          clear HA; rintro e u6 ⟨rfl, h⟩; have HA := Aside0.mk h; clear h
          go_wp2_with fail
          go_at_call 17
          (with_reducible refine (at_text HA.out).mono ?_)
          clear HA; rintro e u7 ⟨rfl, h⟩; have HA := Aside0.mk h; clear h
          go_wp2_with fail
          go_roundg (N - 1 - i)
          case measure => have := HD.out; omega
          case rel => exact ⟨i + 1, D', by go_num, ⟨by have := HD.out; omega⟩, HA⟩
        · skip
          have h3 : decide (((KBuf.txt D').size : Int) > 9216) = false := decide_eq_false (by rw [KBuf.txt_size]; have := HA.out.small; omega)
          go_wp2_with fail
          go_at_call 17
          (with_reducible refine (at_text HA.out).mono ?_)
          clear HA; rintro e u4 ⟨rfl, h⟩; have HA := Aside0.mk h; clear h
          go_wp2_with fail
          go_at_call 15
          (with_reducible refine (at_lenD HA.out).mono ?_)
          clear HA; rintro e u5 ⟨rfl, h⟩; have HA := Aside0.mk h; clear h
          go_wp2_with fail
          go_at_call 15
          (with_reducible refine (at_lenD HA.out).mono ?_)
          clear HA; rintro e u6 ⟨rfl, h⟩; have HA := Aside0.mk h; clear h
          go_wp2_with fail
          go_at_call 17
          (with_reducible refine (at_text HA.out).mono ?_)
          clear HA; rintro e u7 ⟨rfl, h⟩; have HA := Aside0.mk h; clear h
          go_wp2_with fail
          go_roundg (N - 1 - i)
          case measure => have := HD.out; omega
          case rel => exact ⟨i + 1, D', by go_num, ⟨by have := HD.out; omega⟩, HA⟩
      · by_cases q3 : 3 < k
        · have hDD := HE.out (.inr (.inr q3))
          subst hDD
          have q4 : decide (k > 3) = true := decide_eq_true q3
          clear HE HS HC
          by_cases qe : ex = 0
          · subst qe
            have h3 : decide (((KBuf.txt D').size : Int) > 9216) = false := decide_eq_false (by rw [KBuf.txt_size]; have := HA.out.small; omega)
            go_wp2_with fail
            go_at_call 17
            (with_reducible refine (at_text HA.out).mono ?_)
            clear HA; rintro e u4 ⟨rfl, h⟩; have HA := Aside0.mk h; clear h
            go_wp2_with fail
            go_at_call 15
            (with_reducible refine (at_lenD HA.out).mono ?_)
            clear HA; rintro e u5 ⟨rfl, h⟩; have HA := Aside0.mk h; clear h
            go_wp2_with fail
            go_at_call 15
            (with_reducible refine (at_lenD HA.out).mono ?_)
            clear HA; rintro e u6 ⟨rfl, h⟩; have HA := Aside0.mk h; clear h
            go_wp2_with fail
            go_at_call 17
            (with_reducible refine (at_text HA.out).mono ?_)
            clear HA; rintro e u7 ⟨rfl, h⟩; have HA := Aside0.mk h; clear h
            go_wp2_with fail
            go_roundg (N - 1 - i)
            case measure => have := HD.out; omega
            case rel => exact ⟨i + 1, D', by go_num, ⟨by have := HD.out; omega⟩, HA⟩
          · skip
            have h3 : decide (((KBuf.txt D').size : Int) > 9216) = false := decide_eq_false (by rw [KBuf.txt_size]; have := HA.out.small; omega)
            go_wp2_with fail
            go_at_call 17
            (with_reducible refine (at_text HA.out).mono ?_)
            clear HA; rintro e u4 ⟨rfl, h⟩; have HA := Aside0.mk h; clear h
            go_wp2_with fail
            go_at_call 15
            (with_reducible refine (at_lenD HA.out).mono ?_)
            clear HA; rintro e u5 ⟨rfl, h⟩; have HA := Aside0.mk h; clear h
            go_wp2_with fail
            go_at_call 15
            (with_reducible refine (at_lenD HA.out).mono ?_)
            clear HA; rintro e u6 ⟨rfl, h⟩; have HA := Aside0.mk h; clear h
            go_wp2_with fail
            go_at_call 17
            (with_reducible refine (at_text HA.out).mono ?_)
            clear HA; rintro e u7 ⟨rfl, h⟩; have HA := Aside0.mk h; clear h
            go_wp2_with fail
            go_roundg (N - 1 - i)
            case measure => have := HD.out; omega
            case rel => exact ⟨i + 1, D', by go_num, ⟨by have := HD.out; omega⟩, HA⟩
        · have q4 : decide (k > 3) = false := decide_eq_false (by omega)
          by_cases qe : ex = 0
          · subst qe
            clear HE HS HC
            have h3 : decide (((KBuf.txt D').size : Int) > 9216) = false := decide_eq_false (by rw [KBuf.txt_size]; have := HA.out.small; omega)
            go_wp2_with fail
            go_at_call 15
            (with_reducible refine (at_lenD HA.out).mono ?_)
            clear HA; rintro e u5 ⟨rfl, h⟩; have HA := Aside0.mk h; clear h
            go_wp2_with fail
            go_at_call 15
            (with_reducible refine (at_lenD HA.out).mono ?_)
            clear HA; rintro e u6 ⟨rfl, h⟩; have HA := Aside0.mk h; clear h
            go_wp2_with fail
            go_at_call 17
            (with_reducible refine (at_text HA.out).mono ?_)
            clear HA; rintro e u7 ⟨rfl, h⟩; have HA := Aside0.mk h; clear h
            go_wp2_with fail
            go_roundg (N - 1 - i)
            case measure => have := HD.out; omega
            case rel => exact ⟨i + 1, D', by go_num, ⟨by have := HD.out; omega⟩, HA⟩
          · have hDD := HE.out (.inl qe)
            subst hDD
            clear HE HS HC
            have h3 : decide (((KBuf.txt D').size : Int) > 9216) = false := decide_eq_false (by rw [KBuf.txt_size]; have := HA.out.small; omega)
            go_wp2_with fail
            go_at_call 17
            (with_reducible refine (at_text HA.out).mono ?_)
            clear HA; rintro e u4 ⟨rfl, h⟩; have HA := Aside0.mk h; clear h
            go_wp2_with fail
            go_at_call 15
            (with_reducible refine (at_lenD HA.out).mono ?_)
            clear HA; rintro e u5 ⟨rfl, h⟩; have HA := Aside0.mk h; clear h
            go_wp2_with fail
            go_at_call 15
            (with_reducible refine (at_lenD HA.out).mono ?_)
            clear HA; rintro e u6 ⟨rfl, h⟩; have HA := Aside0.mk h; clear h
            go_wp2_with fail
            go_at_call 17
            (with_reducible refine (at_text HA.out).mono ?_)
            clear HA; rintro e u7 ⟨rfl, h⟩; have HA := Aside0.mk h; clear h
            go_wp2_with fail
            go_roundg (N - 1 - i)
            case measure => have := HD.out; omega
            case rel => exact ⟨i + 1, D', by go_num, ⟨by have := HD.out; omega⟩, HA⟩
    · have hd : decide ((i : Int) < (N : Int)) = false := decide_eq_false (by omega)
      go_wp2_with fail
      go_ret
      exact ⟨rfl, HA.out.bel⟩
end Go.Proofs.Ytdjdgkjikibgaaa.PBuf
