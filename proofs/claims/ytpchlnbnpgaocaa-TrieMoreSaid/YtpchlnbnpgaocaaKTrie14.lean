/- TrieMore by hand: the walk. -/
import Derived.Test.YtpchlnbnpgaocaaKTrie13
namespace Go.Proofs.Ytpchlnbnpgaocaa.PTrie
open Go.Proofs.Ytpchlnbnpgaocaa.KTree Go.Proofs.Ytpchlnbnpgaocaa.KReg Go.Proofs.Ytpchlnbnpgaocaa.KBits Go.RowKit Go.Proofs.YtpchlnbnpgaocaaW.PrintWords Go.Proofs.YtpchlnbnpgaocaaW.PrintLast Go.Proofs.YtpchlnbnpgaocaaW.PrintMore
set_option linter.unusedVariables false
set_option linter.unusedSimpArgs false
/-- Whether one of the first i is longer. -/
def farB (ys : List S32) (K : Nat) (i : Nat) : Bool := (ys.take i).any (fun y => decide ((K : Int) < y.f1))
theorem farB_step (ys : List S32) (K i : Nat) (h : i < ys.length) : farB ys K (i + 1) = (farB ys K i || decide ((K : Int) < (ys[i]).f1)) := by
  unfold farB
  rw [List.take_succ_eq_append_getElem h, List.any_append]; simp
theorem farB_next (ys : List S32) (K i : Nat) (h : i < ys.length) (f : Bool) (hf : f = farB ys K i) (hx : f = true ∨ False) : farB ys K (i + 1) = true := by
  rcases hx with hx | hx
  · rw [farB_step ys K i h, ← hf, hx]; rfl
  · exact hx.elim
theorem farB_yes (ys : List S32) (K i : Nat) (h : i < ys.length) (hy : (K : Int) < (ys[i]).f1) : farB ys K (i + 1) = true := by
  rw [farB_step ys K i h, decide_eq_true hy, Bool.or_true]
theorem farB_no (ys : List S32) (K i : Nat) (h : i < ys.length) (hf : false = farB ys K i) (hy : ¬ (K : Int) < (ys[i]).f1) : farB ys K (i + 1) = false := by
  rw [farB_step ys K i h, decide_eq_false hy, ← hf]; rfl
theorem farB_end (ys : List S32) (K i : Nat) (hi : ys.length ≤ i) (j : Nat) (hj : j < ys.length) (h : (K : Int) < (ys[j]).f1) : farB ys K i = true := by
  unfold farB
  rw [List.take_of_length_le hi, List.any_eq_true]
  exact ⟨ys[j], List.getElem_mem hj, decide_eq_true h⟩
set_option maxHeartbeats 8000000 in
set_option maxRecDepth 100000 in
theorem more_A0 (a : Option Addr) (C : Nat) (xs : List S49) (k e : ByteArray) (w : World) (HX : Aside0 (Acts w a xs)) (hC : xs.length ≤ C) (hN : xs.length ≤ 140737488351232) (hk : k.size ≤ 140737488351232) (he : e.size ≤ 140737488351232) (ha : tlon k (grow xs) = none) (hb : tlon (k ++ e) (grow xs) = none) :
    Calls Try.prog 3 #[.slice a xs.length C, .string k, .string e] w fun e' w' => e' = .returned (.bool true) ∧ Below w.heap.size w w' := by
  have HA0 := Aside0.mk ha
  have HB0 := Aside0.mk hb
  clear ha hb
  go_enter Try.func3, Try.ntmps3
  go_wp2_with fail
  go_at_call 8
  (with_reducible refine (long_c a C xs w _ (Below.refl _ _) HX.out hC hN).mono ?_)
  rintro e' u ⟨r, rfl, hb, hr⟩
  have HB := Aside0.mk hb
  cases r with
  | true =>
    clear hb hr
    go_wp2_with fail
    go_at_call 9
    (with_reducible refine (awake_ok _).mono ?_)
    rintro e' u2 ⟨rfl, hb2⟩
    have HB2 := Aside0.mk (below_step HB.out hb2)
    clear hb2 HB
    go_wp2_with fail
    go_ret
    exact ⟨rfl, HB2.out⟩
  | false =>
    have HLN := Aside0.mk (hr rfl)
    clear hb hr
    by_cases hs : 1000 < k.size + e.size
    · have hd : decide ((k.size : Int) + (e.size : Int) > 1000) = true := decide_eq_true (by omega)
      go_wp2_with fail
      go_at_call 9
      (with_reducible refine (awake_ok _).mono ?_)
      rintro e' u2 ⟨rfl, hb2⟩
      have HB2 := Aside0.mk (below_step HB.out hb2)
      clear hb2 HB
      go_wp2_with fail
      go_ret
      exact ⟨rfl, HB2.out⟩
    · have hd : decide ((k.size : Int) + (e.size : Int) > 1000) = false := decide_eq_false (by omega)
      go_wp2_with fail
      go_at_call 9
      (with_reducible refine (awake_ok _).mono ?_)
      rintro e' u2 ⟨rfl, hb2⟩
      have HB2 := Aside0.mk (below_step HB.out hb2)
      clear hb2 HB
      go_wp2_with fail
      go_at_call 10
      (with_reducible refine (grown_c a C xs w _ (L := []) (R := []) ⟨(Inv.nil w).below HB2.out⟩ HX hC HLN.out.1 ⟨HLN.out.2⟩).mono ?_)
      rintro e' u3 ⟨b, rfl, h⟩
      have HA := Aside0.mk h
      clear h HB2
      have h1 := inv_lon (x := (b, grow xs)) HA.out List.mem_cons_self k hk
      dsimp only at h1
      rw [HA0.out] at h1
      have HC := Aside0.mk h1
      clear h1
      go_wp2_with fail
      go_at_call 11
      (with_reducible refine HC.out.mono ?_)
      rintro e' u4 ⟨rfl, h⟩
      clear HA HC
      have HA := Aside0.mk h
      clear h
      simp only [lonV, Option.map_some, Option.map_none, Option.getD_some, Option.getD_none, Option.isSome_some, Option.isSome_none]
      have h1 := inv_lon (x := (b, grow xs)) HA.out List.mem_cons_self (k ++ e) (by rw [app_size]; omega)
      dsimp only at h1
      rw [HB0.out] at h1
      have HC := Aside0.mk h1
      clear h1
      go_wp2_with fail
      go_at_call 11
      (with_reducible refine HC.out.mono ?_)
      rintro e' u5 ⟨rfl, h⟩
      clear HA HC
      have HA := Aside0.mk h
      clear h
      simp only [lonV, Option.map_some, Option.map_none, Option.getD_some, Option.getD_none, Option.isSome_some, Option.isSome_none]
      have HSM := Aside0.mk (grow_sm xs)
      go_wp2_with fail
      go_at_call 12
      (with_reducible refine (inv_all (x := (b, grow xs)) HA.out List.mem_cons_self HSM.out.d (HSM.out.c (by have := HLN.out.1; omega))).mono ?_)
      rintro e' u6 ⟨g, c, rfl, hc, h⟩
      clear HA
      have HA := Aside0.mk h
      clear h
      obtain ⟨ys, hys⟩ : ∃ ys, ys = items (grow xs) [] := ⟨_, rfl⟩
      have HL : Aside0 (ys.length ≤ 1000) := ⟨by rw [hys, items_length]; have := HSM.out.1; have := HLN.out.1; omega⟩
      dsimp only at HA hc ⊢
      rw [← hys] at HA hc ⊢
      clear hys
      go_wp2_with fail
      go_loopg [15, 16] ys.length (fun d v15 v16 wr => ∃ (i : Nat) (f : Bool), v15 = .bool f ∧ v16 = .int .i64 i ∧ Aside0 (i + d = ys.length) ∧ Aside0 (Inv w wr [(b, grow xs)] [⟨g, c, ys⟩]))
      case atStart => exact ⟨0, false, rfl, rfl, ⟨by omega⟩, HA⟩
      case round =>
        clear HA
        obtain ⟨i, f, hv, hv2, HD, HA⟩ := hrel
        subst hv hv2
        by_cases hi : i < ys.length
        · obtain ⟨G, hg, -, c1, -⟩ := HA.out.at (r := ⟨g, c, ys⟩) List.mem_cons_self i hi
          dsimp only at hg c1
          subst hg
          have HI := Aside0.mk hi
          have hl := HL.out
          obtain ⟨y, hy⟩ : ∃ y, y = ys[i] := ⟨_, rfl⟩
          rw [← hy] at c1
          have HY := Aside0.mk hy
          clear hy
          cases f with
          | true =>
            go_wp2_with fail
            go_roundg (ys.length - 1 - i)
            case measure => have := HD.out; omega
            case rel => exact ⟨i + 1, true, rfl, by go_num, ⟨by have := HD.out; omega⟩, HA⟩
          | false =>
            by_cases hq : 8 * (k.size : Int) < y.f1
            · have hd2 : decide (y.f1 > 8 * (k.size : Int)) = true := decide_eq_true hq
              go_wp2_with fail
              go_roundg (ys.length - 1 - i)
              case measure => have := HD.out; omega
              case rel => exact ⟨i + 1, true, rfl, by go_num, ⟨by have := HD.out; omega⟩, HA⟩
            · have hd2 : decide (y.f1 > 8 * (k.size : Int)) = false := decide_eq_false hq
              go_wp2_with fail
              go_roundg (ys.length - 1 - i)
              case measure => have := HD.out; omega
              case rel => exact ⟨i + 1, false, rfl, by go_num, ⟨by have := HD.out; omega⟩, HA⟩
        · cases f with
          | true =>
            go_wp2_with fail
            go_ret
            exact ⟨rfl, HA.out.bel⟩
          | false =>
            go_wp2_with fail
            go_ret
            exact ⟨rfl, HA.out.bel⟩
set_option maxHeartbeats 8000000 in
set_option maxRecDepth 100000 in
theorem more_A1 (a : Option Addr) (C : Nat) (xs : List S49) (k e : ByteArray) (w : World) (HX : Aside0 (Acts w a xs)) (hC : xs.length ≤ C) (hN : xs.length ≤ 140737488351232) (hk : k.size ≤ 140737488351232) (he : e.size ≤ 140737488351232) (n : Nat) (v : Int) (hn : n ≤ 9223372036854775807) (ha : tlon k (grow xs) = some (n, v)) (hb : tlon (k ++ e) (grow xs) = some (n, v)) :
    Calls Try.prog 3 #[.slice a xs.length C, .string k, .string e] w fun e' w' => e' = .returned (.bool true) ∧ Below w.heap.size w w' := by
  have HA0 := Aside0.mk ha
  have HB0 := Aside0.mk hb
  clear ha hb
  go_enter Try.func3, Try.ntmps3
  go_wp2_with fail
  go_at_call 8
  (with_reducible refine (long_c a C xs w _ (Below.refl _ _) HX.out hC hN).mono ?_)
  rintro e' u ⟨r, rfl, hb, hr⟩
  have HB := Aside0.mk hb
  cases r with
  | true =>
    clear hb hr
    go_wp2_with fail
    go_at_call 9
    (with_reducible refine (awake_ok _).mono ?_)
    rintro e' u2 ⟨rfl, hb2⟩
    have HB2 := Aside0.mk (below_step HB.out hb2)
    clear hb2 HB
    go_wp2_with fail
    go_ret
    exact ⟨rfl, HB2.out⟩
  | false =>
    have HLN := Aside0.mk (hr rfl)
    clear hb hr
    by_cases hs : 1000 < k.size + e.size
    · have hd : decide ((k.size : Int) + (e.size : Int) > 1000) = true := decide_eq_true (by omega)
      go_wp2_with fail
      go_at_call 9
      (with_reducible refine (awake_ok _).mono ?_)
      rintro e' u2 ⟨rfl, hb2⟩
      have HB2 := Aside0.mk (below_step HB.out hb2)
      clear hb2 HB
      go_wp2_with fail
      go_ret
      exact ⟨rfl, HB2.out⟩
    · have hd : decide ((k.size : Int) + (e.size : Int) > 1000) = false := decide_eq_false (by omega)
      go_wp2_with fail
      go_at_call 9
      (with_reducible refine (awake_ok _).mono ?_)
      rintro e' u2 ⟨rfl, hb2⟩
      have HB2 := Aside0.mk (below_step HB.out hb2)
      clear hb2 HB
      go_wp2_with fail
      go_at_call 10
      (with_reducible refine (grown_c a C xs w _ (L := []) (R := []) ⟨(Inv.nil w).below HB2.out⟩ HX hC HLN.out.1 ⟨HLN.out.2⟩).mono ?_)
      rintro e' u3 ⟨b, rfl, h⟩
      have HA := Aside0.mk h
      clear h HB2
      have h1 := inv_lon (x := (b, grow xs)) HA.out List.mem_cons_self k hk
      dsimp only at h1
      rw [HA0.out] at h1
      have HC := Aside0.mk h1
      clear h1
      go_wp2_with fail
      go_at_call 11
      (with_reducible refine HC.out.mono ?_)
      rintro e' u4 ⟨rfl, h⟩
      clear HA HC
      have HA := Aside0.mk h
      clear h
      simp only [lonV, Option.map_some, Option.map_none, Option.getD_some, Option.getD_none, Option.isSome_some, Option.isSome_none]
      have h1 := inv_lon (x := (b, grow xs)) HA.out List.mem_cons_self (k ++ e) (by rw [app_size]; omega)
      dsimp only at h1
      rw [HB0.out] at h1
      have HC := Aside0.mk h1
      clear h1
      go_wp2_with fail
      go_at_call 11
      (with_reducible refine HC.out.mono ?_)
      rintro e' u5 ⟨rfl, h⟩
      clear HA HC
      have HA := Aside0.mk h
      clear h
      simp only [lonV, Option.map_some, Option.map_none, Option.getD_some, Option.getD_none, Option.isSome_some, Option.isSome_none]
      have HSM := Aside0.mk (grow_sm xs)
      go_wp2_with fail
      go_at_call 12
      (with_reducible refine (inv_all (x := (b, grow xs)) HA.out List.mem_cons_self HSM.out.d (HSM.out.c (by have := HLN.out.1; omega))).mono ?_)
      rintro e' u6 ⟨g, c, rfl, hc, h⟩
      clear HA
      have HA := Aside0.mk h
      clear h
      obtain ⟨ys, hys⟩ : ∃ ys, ys = items (grow xs) [] := ⟨_, rfl⟩
      have HL : Aside0 (ys.length ≤ 1000) := ⟨by rw [hys, items_length]; have := HSM.out.1; have := HLN.out.1; omega⟩
      dsimp only at HA hc ⊢
      rw [← hys] at HA hc ⊢
      clear hys
      go_wp2_with fail
      go_loopg [15, 16] ys.length (fun d v15 v16 wr => ∃ (i : Nat) (f : Bool), v15 = .bool f ∧ v16 = .int .i64 i ∧ Aside0 (i + d = ys.length) ∧ Aside0 (Inv w wr [(b, grow xs)] [⟨g, c, ys⟩]))
      case atStart => exact ⟨0, false, rfl, rfl, ⟨by omega⟩, HA⟩
      case round =>
        clear HA
        obtain ⟨i, f, hv, hv2, HD, HA⟩ := hrel
        subst hv hv2
        by_cases hi : i < ys.length
        · obtain ⟨G, hg, -, c1, -⟩ := HA.out.at (r := ⟨g, c, ys⟩) List.mem_cons_self i hi
          dsimp only at hg c1
          subst hg
          have HI := Aside0.mk hi
          have hl := HL.out
          obtain ⟨y, hy⟩ : ∃ y, y = ys[i] := ⟨_, rfl⟩
          rw [← hy] at c1
          have HY := Aside0.mk hy
          clear hy
          cases f with
          | true =>
            go_wp2_with fail
            go_roundg (ys.length - 1 - i)
            case measure => have := HD.out; omega
            case rel => exact ⟨i + 1, true, rfl, by go_num, ⟨by have := HD.out; omega⟩, HA⟩
          | false =>
            by_cases hq : 8 * (k.size : Int) < y.f1
            · have hd2 : decide (y.f1 > 8 * (k.size : Int)) = true := decide_eq_true hq
              go_wp2_with fail
              go_roundg (ys.length - 1 - i)
              case measure => have := HD.out; omega
              case rel => exact ⟨i + 1, true, rfl, by go_num, ⟨by have := HD.out; omega⟩, HA⟩
            · have hd2 : decide (y.f1 > 8 * (k.size : Int)) = false := decide_eq_false hq
              go_wp2_with fail
              go_roundg (ys.length - 1 - i)
              case measure => have := HD.out; omega
              case rel => exact ⟨i + 1, false, rfl, by go_num, ⟨by have := HD.out; omega⟩, HA⟩
        · cases f with
          | true =>
            go_wp2_with fail
            go_ret
            exact ⟨rfl, HA.out.bel⟩
          | false =>
            go_wp2_with fail
            go_ret
            exact ⟨rfl, HA.out.bel⟩
set_option maxHeartbeats 8000000 in
set_option maxRecDepth 100000 in
theorem more_B0 (a : Option Addr) (C : Nat) (xs : List S49) (k e : ByteArray) (w : World) (HX : Aside0 (Acts w a xs)) (hC : xs.length ≤ C) (hN : xs.length ≤ 140737488351232) (hk : k.size ≤ 140737488351232) (he : e.size ≤ 140737488351232) (m : Nat) (v : Int) (hm : 8 * k.size < m) (ha : tlon k (grow xs) = none) (hb : tlon (k ++ e) (grow xs) = some (m, v)) (HJ : Aside0 (∃ j, ∃ hj : j < (items (grow xs) []).length, ((items (grow xs) [])[j]).f1 = (m : Int))) :
    Calls Try.prog 3 #[.slice a xs.length C, .string k, .string e] w fun e' w' => e' = .returned (.bool true) ∧ Below w.heap.size w w' := by
  have HA0 := Aside0.mk ha
  have HB0 := Aside0.mk hb
  clear ha hb
  go_enter Try.func3, Try.ntmps3
  go_wp2_with fail
  go_at_call 8
  (with_reducible refine (long_c a C xs w _ (Below.refl _ _) HX.out hC hN).mono ?_)
  rintro e' u ⟨r, rfl, hb, hr⟩
  have HB := Aside0.mk hb
  cases r with
  | true =>
    clear hb hr
    go_wp2_with fail
    go_at_call 9
    (with_reducible refine (awake_ok _).mono ?_)
    rintro e' u2 ⟨rfl, hb2⟩
    have HB2 := Aside0.mk (below_step HB.out hb2)
    clear hb2 HB
    go_wp2_with fail
    go_ret
    exact ⟨rfl, HB2.out⟩
  | false =>
    have HLN := Aside0.mk (hr rfl)
    clear hb hr
    by_cases hs : 1000 < k.size + e.size
    · have hd : decide ((k.size : Int) + (e.size : Int) > 1000) = true := decide_eq_true (by omega)
      go_wp2_with fail
      go_at_call 9
      (with_reducible refine (awake_ok _).mono ?_)
      rintro e' u2 ⟨rfl, hb2⟩
      have HB2 := Aside0.mk (below_step HB.out hb2)
      clear hb2 HB
      go_wp2_with fail
      go_ret
      exact ⟨rfl, HB2.out⟩
    · have hd : decide ((k.size : Int) + (e.size : Int) > 1000) = false := decide_eq_false (by omega)
      go_wp2_with fail
      go_at_call 9
      (with_reducible refine (awake_ok _).mono ?_)
      rintro e' u2 ⟨rfl, hb2⟩
      have HB2 := Aside0.mk (below_step HB.out hb2)
      clear hb2 HB
      go_wp2_with fail
      go_at_call 10
      (with_reducible refine (grown_c a C xs w _ (L := []) (R := []) ⟨(Inv.nil w).below HB2.out⟩ HX hC HLN.out.1 ⟨HLN.out.2⟩).mono ?_)
      rintro e' u3 ⟨b, rfl, h⟩
      have HA := Aside0.mk h
      clear h HB2
      have h1 := inv_lon (x := (b, grow xs)) HA.out List.mem_cons_self k hk
      dsimp only at h1
      rw [HA0.out] at h1
      have HC := Aside0.mk h1
      clear h1
      go_wp2_with fail
      go_at_call 11
      (with_reducible refine HC.out.mono ?_)
      rintro e' u4 ⟨rfl, h⟩
      clear HA HC
      have HA := Aside0.mk h
      clear h
      simp only [lonV, Option.map_some, Option.map_none, Option.getD_some, Option.getD_none, Option.isSome_some, Option.isSome_none]
      have h1 := inv_lon (x := (b, grow xs)) HA.out List.mem_cons_self (k ++ e) (by rw [app_size]; omega)
      dsimp only at h1
      rw [HB0.out] at h1
      have HC := Aside0.mk h1
      clear h1
      go_wp2_with fail
      go_at_call 11
      (with_reducible refine HC.out.mono ?_)
      rintro e' u5 ⟨rfl, h⟩
      clear HA HC
      have HA := Aside0.mk h
      clear h
      simp only [lonV, Option.map_some, Option.map_none, Option.getD_some, Option.getD_none, Option.isSome_some, Option.isSome_none]
      have t1 : decide ((m : Int) > 0) = true := decide_eq_true (by omega)
      have t2 : ((m : Int) == 0) = false := beq_false_of_ne (by omega)
      have t3 : decide ((m : Int) ≤ 8 * (k.size : Int)) = false := decide_eq_false (by omega)
      have HSM := Aside0.mk (grow_sm xs)
      go_wp2_with fail
      go_at_call 12
      (with_reducible refine (inv_all (x := (b, grow xs)) HA.out List.mem_cons_self HSM.out.d (HSM.out.c (by have := HLN.out.1; omega))).mono ?_)
      rintro e' u6 ⟨g, c, rfl, hc, h⟩
      clear HA
      have HA := Aside0.mk h
      clear h
      obtain ⟨ys, hys⟩ : ∃ ys, ys = items (grow xs) [] := ⟨_, rfl⟩
      have HL : Aside0 (ys.length ≤ 1000) := ⟨by rw [hys, items_length]; have := HSM.out.1; have := HLN.out.1; omega⟩
      rw [← hys] at HJ
      dsimp only at HA hc ⊢
      rw [← hys] at HA hc ⊢
      clear hys
      have HM := Aside0.mk hm
      clear t1 t2 t3 hm
      go_wp2_with fail
      go_loopg [15, 16] ys.length (fun d v15 v16 wr => ∃ (i : Nat) (f : Bool), v15 = .bool f ∧ v16 = .int .i64 i ∧ Aside0 (i + d = ys.length) ∧ Aside0 (Inv w wr [(b, grow xs)] [⟨g, c, ys⟩]) ∧ Aside0 (f = farB ys (8 * k.size) i))
      case atStart => exact ⟨0, false, rfl, rfl, ⟨by omega⟩, HA, ⟨rfl⟩⟩
      case round =>
        clear HA
        obtain ⟨i, f, hv, hv2, HD, HA, HFB⟩ := hrel
        subst hv hv2
        by_cases hi : i < ys.length
        · obtain ⟨G, hg, -, c1, -⟩ := HA.out.at (r := ⟨g, c, ys⟩) List.mem_cons_self i hi
          dsimp only at hg c1
          subst hg
          have HI := Aside0.mk hi
          have hl := HL.out
          obtain ⟨y, hy⟩ : ∃ y, y = ys[i] := ⟨_, rfl⟩
          rw [← hy] at c1
          have HY := Aside0.mk hy
          clear hy
          cases f with
          | true =>
            go_wp2_with fail
            go_roundg (ys.length - 1 - i)
            case measure => have := HD.out; omega
            case rel => exact ⟨i + 1, true, rfl, by go_num, ⟨by have := HD.out; omega⟩, HA, ⟨(farB_next ys _ i HI.out true HFB.out (.inl rfl)).symm⟩⟩
          | false =>
            by_cases hq : 8 * (k.size : Int) < y.f1
            · have hd2 : decide (y.f1 > 8 * (k.size : Int)) = true := decide_eq_true hq
              go_wp2_with fail
              go_roundg (ys.length - 1 - i)
              case measure => have := HD.out; omega
              case rel => exact ⟨i + 1, true, rfl, by go_num, ⟨by have := HD.out; omega⟩, HA, ⟨(farB_yes ys _ i HI.out (by rw [← HY.out]; omega)).symm⟩⟩
            · have hd2 : decide (y.f1 > 8 * (k.size : Int)) = false := decide_eq_false hq
              go_wp2_with fail
              go_roundg (ys.length - 1 - i)
              case measure => have := HD.out; omega
              case rel => exact ⟨i + 1, false, rfl, by go_num, ⟨by have := HD.out; omega⟩, HA, ⟨(farB_no ys _ i HI.out HFB.out (by rw [← HY.out]; omega)).symm⟩⟩
        · obtain rfl : f = true := by rw [HFB.out]; obtain ⟨j, hj, ej⟩ := HJ.out; exact farB_end ys _ i (by omega) j hj (by rw [ej]; have := HM.out; omega)
          go_wp2_with fail
          go_ret
          exact ⟨rfl, HA.out.bel⟩
set_option maxHeartbeats 8000000 in
set_option maxRecDepth 100000 in
theorem more_B1 (a : Option Addr) (C : Nat) (xs : List S49) (k e : ByteArray) (w : World) (HX : Aside0 (Acts w a xs)) (hC : xs.length ≤ C) (hN : xs.length ≤ 140737488351232) (hk : k.size ≤ 140737488351232) (he : e.size ≤ 140737488351232) (n m : Nat) (v v2 : Int) (hn : n ≤ 8 * k.size) (hm : 8 * k.size < m) (ha : tlon k (grow xs) = some (n, v2)) (hb : tlon (k ++ e) (grow xs) = some (m, v)) (HJ : Aside0 (∃ j, ∃ hj : j < (items (grow xs) []).length, ((items (grow xs) [])[j]).f1 = (m : Int))) :
    Calls Try.prog 3 #[.slice a xs.length C, .string k, .string e] w fun e' w' => e' = .returned (.bool true) ∧ Below w.heap.size w w' := by
  have HA0 := Aside0.mk ha
  have HB0 := Aside0.mk hb
  clear ha hb
  go_enter Try.func3, Try.ntmps3
  go_wp2_with fail
  go_at_call 8
  (with_reducible refine (long_c a C xs w _ (Below.refl _ _) HX.out hC hN).mono ?_)
  rintro e' u ⟨r, rfl, hb, hr⟩
  have HB := Aside0.mk hb
  cases r with
  | true =>
    clear hb hr
    go_wp2_with fail
    go_at_call 9
    (with_reducible refine (awake_ok _).mono ?_)
    rintro e' u2 ⟨rfl, hb2⟩
    have HB2 := Aside0.mk (below_step HB.out hb2)
    clear hb2 HB
    go_wp2_with fail
    go_ret
    exact ⟨rfl, HB2.out⟩
  | false =>
    have HLN := Aside0.mk (hr rfl)
    clear hb hr
    by_cases hs : 1000 < k.size + e.size
    · have hd : decide ((k.size : Int) + (e.size : Int) > 1000) = true := decide_eq_true (by omega)
      go_wp2_with fail
      go_at_call 9
      (with_reducible refine (awake_ok _).mono ?_)
      rintro e' u2 ⟨rfl, hb2⟩
      have HB2 := Aside0.mk (below_step HB.out hb2)
      clear hb2 HB
      go_wp2_with fail
      go_ret
      exact ⟨rfl, HB2.out⟩
    · have hd : decide ((k.size : Int) + (e.size : Int) > 1000) = false := decide_eq_false (by omega)
      go_wp2_with fail
      go_at_call 9
      (with_reducible refine (awake_ok _).mono ?_)
      rintro e' u2 ⟨rfl, hb2⟩
      have HB2 := Aside0.mk (below_step HB.out hb2)
      clear hb2 HB
      go_wp2_with fail
      go_at_call 10
      (with_reducible refine (grown_c a C xs w _ (L := []) (R := []) ⟨(Inv.nil w).below HB2.out⟩ HX hC HLN.out.1 ⟨HLN.out.2⟩).mono ?_)
      rintro e' u3 ⟨b, rfl, h⟩
      have HA := Aside0.mk h
      clear h HB2
      have h1 := inv_lon (x := (b, grow xs)) HA.out List.mem_cons_self k hk
      dsimp only at h1
      rw [HA0.out] at h1
      have HC := Aside0.mk h1
      clear h1
      go_wp2_with fail
      go_at_call 11
      (with_reducible refine HC.out.mono ?_)
      rintro e' u4 ⟨rfl, h⟩
      clear HA HC
      have HA := Aside0.mk h
      clear h
      simp only [lonV, Option.map_some, Option.map_none, Option.getD_some, Option.getD_none, Option.isSome_some, Option.isSome_none]
      have h1 := inv_lon (x := (b, grow xs)) HA.out List.mem_cons_self (k ++ e) (by rw [app_size]; omega)
      dsimp only at h1
      rw [HB0.out] at h1
      have HC := Aside0.mk h1
      clear h1
      go_wp2_with fail
      go_at_call 11
      (with_reducible refine HC.out.mono ?_)
      rintro e' u5 ⟨rfl, h⟩
      clear HA HC
      have HA := Aside0.mk h
      clear h
      simp only [lonV, Option.map_some, Option.map_none, Option.getD_some, Option.getD_none, Option.isSome_some, Option.isSome_none]
      have t1 : decide ((m : Int) > (n : Int)) = true := decide_eq_true (by omega)
      have t2 : ((m : Int) == (n : Int)) = false := beq_false_of_ne (by omega)
      have t3 : decide ((m : Int) ≤ 8 * (k.size : Int)) = false := decide_eq_false (by omega)
      have t4 : decide ((m : Int) < (n : Int)) = false := decide_eq_false (by omega)
      have t5 : decide (m < n) = false := decide_eq_false (by omega)
      have t6 : decide (n < m) = true := decide_eq_true (by omega)
      have HSM := Aside0.mk (grow_sm xs)
      go_wp2_with fail
      go_at_call 12
      (with_reducible refine (inv_all (x := (b, grow xs)) HA.out List.mem_cons_self HSM.out.d (HSM.out.c (by have := HLN.out.1; omega))).mono ?_)
      rintro e' u6 ⟨g, c, rfl, hc, h⟩
      clear HA
      have HA := Aside0.mk h
      clear h
      obtain ⟨ys, hys⟩ : ∃ ys, ys = items (grow xs) [] := ⟨_, rfl⟩
      have HL : Aside0 (ys.length ≤ 1000) := ⟨by rw [hys, items_length]; have := HSM.out.1; have := HLN.out.1; omega⟩
      rw [← hys] at HJ
      dsimp only at HA hc ⊢
      rw [← hys] at HA hc ⊢
      clear hys
      have HM := Aside0.mk hm
      clear t1 t2 t3 t4 t5 t6 hm hn
      go_wp2_with fail
      go_loopg [15, 16] ys.length (fun d v15 v16 wr => ∃ (i : Nat) (f : Bool), v15 = .bool f ∧ v16 = .int .i64 i ∧ Aside0 (i + d = ys.length) ∧ Aside0 (Inv w wr [(b, grow xs)] [⟨g, c, ys⟩]) ∧ Aside0 (f = farB ys (8 * k.size) i))
      case atStart => exact ⟨0, false, rfl, rfl, ⟨by omega⟩, HA, ⟨rfl⟩⟩
      case round =>
        clear HA
        obtain ⟨i, f, hv, hv2, HD, HA, HFB⟩ := hrel
        subst hv hv2
        by_cases hi : i < ys.length
        · obtain ⟨G, hg, -, c1, -⟩ := HA.out.at (r := ⟨g, c, ys⟩) List.mem_cons_self i hi
          dsimp only at hg c1
          subst hg
          have HI := Aside0.mk hi
          have hl := HL.out
          obtain ⟨y, hy⟩ : ∃ y, y = ys[i] := ⟨_, rfl⟩
          rw [← hy] at c1
          have HY := Aside0.mk hy
          clear hy
          cases f with
          | true =>
            go_wp2_with fail
            go_roundg (ys.length - 1 - i)
            case measure => have := HD.out; omega
            case rel => exact ⟨i + 1, true, rfl, by go_num, ⟨by have := HD.out; omega⟩, HA, ⟨(farB_next ys _ i HI.out true HFB.out (.inl rfl)).symm⟩⟩
          | false =>
            by_cases hq : 8 * (k.size : Int) < y.f1
            · have hd2 : decide (y.f1 > 8 * (k.size : Int)) = true := decide_eq_true hq
              go_wp2_with fail
              go_roundg (ys.length - 1 - i)
              case measure => have := HD.out; omega
              case rel => exact ⟨i + 1, true, rfl, by go_num, ⟨by have := HD.out; omega⟩, HA, ⟨(farB_yes ys _ i HI.out (by rw [← HY.out]; omega)).symm⟩⟩
            · have hd2 : decide (y.f1 > 8 * (k.size : Int)) = false := decide_eq_false hq
              go_wp2_with fail
              go_roundg (ys.length - 1 - i)
              case measure => have := HD.out; omega
              case rel => exact ⟨i + 1, false, rfl, by go_num, ⟨by have := HD.out; omega⟩, HA, ⟨(farB_no ys _ i HI.out HFB.out (by rw [← HY.out]; omega)).symm⟩⟩
        · obtain rfl : f = true := by rw [HFB.out]; obtain ⟨j, hj, ej⟩ := HJ.out; exact farB_end ys _ i (by omega) j hj (by rw [ej]; have := HM.out; omega)
          go_wp2_with fail
          go_ret
          exact ⟨rfl, HA.out.bel⟩
theorem trieMore {H : Type} {enc : TypeId × Value → H} {base fuel : Nat} {sp : Nat → Bool} {held : Bool} (a : Option Addr) (N C : Nat) (k e : ByteArray) (w : World) (d : DataW H × List MemPlace)
    (hN : N ≤ 140737488351232) (hk : k.size ≤ 140737488351232) (he : e.size ≤ 140737488351232) (h : DataW.trod enc Try.prog w base sp held fuel 22 [.slice a N C] = some d) :
    Calls Try.prog 3 #[.slice a N C, .string k, .string e] w fun e' w' => e' = .returned (.bool true) ∧ Below w.heap.size w w' := by
  obtain ⟨hC, xs, rfl, hA⟩ := acts_of a N C w d h
  rcases more_plain k e (grow xs) with heq | ⟨m, v, hb, hm, ha, hj⟩
  · rcases tlon_cases k (grow xs) with ⟨n, v, g1, g2, _⟩ | ⟨g1, _⟩
    · exact more_A1 a C xs k e w ⟨hA⟩ hC hN hk he n v (by omega) g1 (heq ▸ g1)
    · exact more_A0 a C xs k e w ⟨hA⟩ hC hN hk he g1 (heq ▸ g1)
  · rcases ha with ha | ⟨n, v2, ha, hn⟩
    · exact more_B0 a C xs k e w ⟨hA⟩ hC hN hk he m v hm ha hb ⟨hj⟩
    · exact more_B1 a C xs k e w ⟨hA⟩ hC hN hk he n m v v2 hn hm ha hb ⟨hj⟩
end Go.Proofs.Ytpchlnbnpgaocaa.PTrie
