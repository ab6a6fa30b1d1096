/- A trie in memory: what All does. -/
import Derived.Test.YtpchlnbnpgaocaaKTrie5
import Derived.StillTailTactics
namespace Go.Proofs.Ytpchlnbnpgaocaa.PTrie
open Go.Proofs.Ytpchlnbnpgaocaa.KTree Go.Proofs.Ytpchlnbnpgaocaa.KReg Go.Proofs.Ytpchlnbnpgaocaa.KBits Go.RowKit Go.Proofs.YtpchlnbnpgaocaaW.PrintWords Go.Proofs.YtpchlnbnpgaocaaW.PrintLast Go.Proofs.YtpchlnbnpgaocaaW.PrintMore
set_option linter.unusedVariables false
set_option linter.unusedSimpArgs false
def strOf (D : List UInt8) : ByteArray := ⟨D.toArray⟩
def nI (D : List UInt8) : List Int := D.map (fun c => (c.toNat : Int))
theorem strOf_nI (D : List UInt8) : strOfNums (nI D) = strOf D := by
  simp only [strOfNums, strOf, nI, List.map_map]
  congr 1
  congr 1
  conv => rhs; rw [← List.map_id D]
  apply List.map_congr_left
  intro c _
  simp
def items (t : Tri) (bs : List Bool) : List S32 := (Tri.all t bs).map fun x => ⟨strOf (pack x.1), x.1.length, x.2⟩
def depth : Tri → Nat
  | .nil => 0
  | .node l r _ => max (depth l) (depth r) + 1
def own (o : Option Int) (bs : List Bool) : List S32 := match o with | some v => [⟨strOf (pack bs), bs.length, v⟩] | none => []
def part (l r : Tri) (o : Option Int) (bs : List Bool) : Nat → List S32
  | 0 => own o bs
  | 1 => own o bs ++ items l (bs ++ [false])
  | _ => own o bs ++ items l (bs ++ [false]) ++ items r (bs ++ [true])
theorem own_len (o : Option Int) (bs : List Bool) : (own o bs).length ≤ 1 := by cases o <;> simp [own]
theorem items_node (l r : Tri) (o : Option Int) (bs : List Bool) : items (.node l r o) bs = own o bs ++ (items l (bs ++ [false]) ++ items r (bs ++ [true])) := by
  unfold items own; cases o <;> simp [Tri.all]
theorem items_length (t : Tri) (bs : List Bool) : (items t bs).length = Tri.cnt t := by rw [items, List.length_map, Tri.all_length]
theorem key_pack {D : List UInt8} {bs : List Bool} (h : Key D bs) : pack bs = D := (pack_key bs).uniq h
section
variable {P : Program} {md : Region.Mode} {ops : Array Oper} {Q : Exit → Act → World → Prop}
theorem br_run (i : Nat) (d : Option Tmp) {o : Oper} {v : Value} {rs : List Nat} {fuel : Nat} {listed : Array Bool} {a : Act} {w w' : World} (hi : ops[i]? = some o) (hd : o.dst = d) (hw : Region.wanted o (yielded ops a.tmps) = true)
    (hv : (execOp a.eval o).run P w = .ok (.value v) w') (h : wpAny P md ops Q fuel (listed.setIfInBounds i true) (a.put d v) w') (hs : AllReady P md ops Q fuel listed a w rs) : AllReady P md ops Q fuel listed a w (i :: rs) := by
  subst hd
  refine AllReady.cons hi (fun K hK => ?_) hs
  rw [if_pos hw]
  unfold Oper.wp
  rw [hv, Oper.upon_value]; exact hK _ _ h
theorem ro_conv1 {ρ : Operand → Value} {o : Oper} {t t2 : TypeId} {x : Operand} {vx v : Value} {w : World} (h : o.op = .convert t t2 x) (hx : ρ x = vx) (hr : (convert t t2 vx : Sem Value).run P w = .ok v w) : (execOp ρ o).run P w = .ok (.value v) w := by
  subst hx
  unfold execOp; rw [h]
  simp only [Sem.run_bind, hr, Result.andThen_ok]; rfl
end
theorem ix52_0 (p q : Option Addr) (w : World) : Sem.run Try.prog (Instr.index 52 (Value.agg #[.pointer p, .pointer q]) (.int .i64 0)) w = .ok (.pointer p) w := by kernel_rfl
theorem ix52_1 (p q : Option Addr) (w : World) : Sem.run Try.prog (Instr.index 52 (Value.agg #[.pointer p, .pointer q]) (.int .i64 1)) w = .ok (.pointer q) w := by kernel_rfl
attribute [local go_sem] ix52_0 ix52_1
theorem more_row (D E : List UInt8) (n : Nat) (b : Bool) (hE : E = if n % 8 = 0 then D ++ [0] else D) (x r : Nat) (y : Int) (hx : x = (E.getD (n / 8) 0).toNat) (hr : r = 7 - n % 8) (hy : y = ((bv b * 2 ^ r : Nat) : Int)) :
    (nI E).set (n / 8) (bits .or .u8 (x : Int) y) = nI (more D n b) := by
  subst hx hy hr
  have h1 : bv b * 2 ^ (7 - n % 8) < 256 := bvp_lt b n
  have h2 : (E.getD (n / 8) 0).toNat < 256 := UInt8.toNat_lt _
  rw [u8_or_nat _ _ h2 h1]
  have e : more D n b = E.set (n / 8) (UInt8.ofNat ((E.getD (n / 8) 0).toNat ||| (bv b * 2 ^ (7 - n % 8)))) := by rw [hE]; rfl
  rw [e, nI, nI, List.map_set]
  congr 1
  have h3 := or_lt _ _ h2 h1
  show _ = ((UInt8.ofNat _).toNat : Int)
  rw [UInt8.toNat_ofNat', Nat.mod_eq_of_lt h3]
theorem nI_len (D : List UInt8) : (nI D).length = D.length := by simp [nI]
theorem more_len (D E : List UInt8) (n : Nat) (b : Bool) (hE : E = if n % 8 = 0 then D ++ [0] else D) : (nI E).length = (more D n b).length := by
  rw [hE]; simp [more, nI]
theorem rd_get (E : List UInt8) (j : Nat) (i : Int) (h : i = j) : rdOf (0 : Int) (nI E) i = ((E.getD j 0).toNat : Int) := by
  subst h
  simp only [rdOf, nI, Int.toNat_natCast, List.getD_eq_getElem?_getD, List.getElem?_map]
  cases E[j]? <;> rfl
theorem shl8 : ∀ (k r : Nat), k < 2 → r < 8 → ∀ w, Sem.run Try.prog (Op.shift BinOp.shl IntKind.u8 (k : Int) IntKind.i64 (r : Int)) w = .ok (.int .u8 ((k * 2 ^ r : Nat) : Int)) w
  | 0, 0, _, _, _ | 0, 1, _, _, _ | 0, 2, _, _, _ | 0, 3, _, _, _ | 0, 4, _, _, _ | 0, 5, _, _, _ | 0, 6, _, _, _ | 0, 7, _, _, _ => by kernel_rfl
  | 1, 0, _, _, _ | 1, 1, _, _, _ | 1, 2, _, _, _ | 1, 3, _, _, _ | 1, 4, _, _, _ | 1, 5, _, _, _ | 1, 6, _, _, _ | 1, 7, _, _, _ => by kernel_rfl
  | 0, r + 8, _, h, _ => absurd h (by omega)
  | 1, r + 8, _, h, _ => absurd h (by omega)
  | k + 2, _, h, _, _ => absurd h (by omega)
theorem empty_row (W : World) : Kd.R (Kd.int .u8) 5 (W.alloc (.cells #[] 5)) W.heap.size (fun _ => True) (.slice (some ⟨W.heap.size, 0, none⟩) 0 0) [] :=
  Kd.R_of_own (xs := []) (World.ownsRow_lit W #[] 0 (Nat.le_refl _) (by simp) rfl) (fun _ _ => trivial)
theorem ro_lit {ρ : Operand → Value} {o : Oper} {x : Operand} {s : ByteArray} {n v : Int} {w : World} (ho : o.op = .buildSlice 29 1 #[(0, x)]) (h : ρ x = Value.agg #[.string s, .int .i64 n, .int .i64 v]) : (execOp ρ o).run Try.prog w = .ok (.value (.slice (some ⟨w.heap.size, 0, none⟩) 1 1)) (w.alloc (.cells #[.string s, .int .i64 n, .int .i64 v] 32)) := by
  unfold execOp; rw [ho]
  simp only [List.map_toArray, List.map_cons, List.map_nil, h]
  go_simp
set_option maxHeartbeats 8000000 in
set_option maxRecDepth 100000 in
theorem all_c : ∀ (t : Tri) (p : Option Addr) (F : List Nat) (D : List UInt8) (bs : List Bool) (nz : Int) (A : Option Addr) (c : Nat) (w : World), nz = bs.length → Holds w t p F → Key D bs → (Kd.int .u8).C w A D.length (nI D) → D.length ≤ c → bs.length + depth t ≤ 1000000 → Tri.cnt t ≤ 1000000 →
    Calls Try.prog 25 #[.pointer p, .slice A D.length c, .int .i64 nz] w fun e w' => ∃ v, e = .returned v ∧ Kd.R k32 32 w' w.heap.size (fun _ => True) v (items t bs) ∧ Below w.heap.size w w' := by
  intro t
  induction t with
  | nil =>
    intro p F D bs nz A c w hnz hH hK hC hc hd hcn
    subst hnz
    obtain rfl : p = none := hH.1
    clear hH
    go_enter Try.func25, Try.ntmps25
    go_wp2_with fail
    go_ret
    exact ⟨_, rfl, Kd.R_nil _ _ _ _ _, Below.refl _ _⟩
  | node l r o ihl ihr =>
    intro p F D bs nz A c w hnz hH hK hC hc hd hcn
    subst hnz
    obtain ⟨g, pl, pr, Fa, Fb, hp, hF, hN, hL, hR⟩ := hH
    subst hp
    have HN := Aside0.mk hN
    have HL := Aside0.mk hL
    have HR := Aside0.mk hR
    have HK := Aside0.mk hK
    have HDEP := Aside0.mk hd
    have HCNT := Aside0.mk hcn
    have HDL : Aside0 (D.length ≤ 200000) := ⟨by have := hK.1; omega⟩
    have HC := Aside0.mk hC
    have c0 := hN.c0
    have c1 := hN.c1
    have c2 := hN.c2
    have c3 := hN.c3
    have cl := hN.lt
    clear hN hL hR hK hC
    cases o with
    | none =>
      have HB1 := Aside0.mk (Below.refl w.heap.size w)
      have HO : Aside0 (Kd.R k32 32 w w.heap.size (fun _ => True) (.slice none 0 0) (own none bs)) := ⟨Kd.R_nil k32 32 w w.heap.size (fun _ => True)⟩
      go_enter Try.func25, Try.ntmps25
      go_wp2_with fail
      clear c0 c1 cl
      go_loopg [7, 32] 2 (fun d v7 v32 wr => ∃ k : Nat, v32 = .int .i64 k ∧ Aside0 (k + d = 2) ∧ Aside0 (Below w.heap.size w wr) ∧ Aside0 (Kd.R k32 32 wr w.heap.size (fun _ => True) v7 (part l r (none) bs k)))
      case atStart => exact ⟨0, rfl, ⟨rfl⟩, HB1, HO⟩
      case round =>
        clear HB1 HO
        obtain ⟨k, h32, HD, HBR, HO⟩ := hrel
        subst h32
        obtain hk | hk | hk : k = 0 ∨ k = 1 ∨ k = 2 := by have := HD.out; omega
        · subst hk
          have HCR := Aside0.mk (Kd.C_below HC.out HBR.out)
          by_cases hm : bs.length % 8 = 0
          · have hmz : ((bs.length : Int) % 8 == 0) = true := by simp; omega
            go_wp2_with (first | ((with_reducible refine gate_builtin (b := .append) (xs := #[.tmp 36, .tmp 37]) rfl ?_); at_builtin; refine Kd.R_append_row (Value.int .u8) (0 : Int) (h1 := fun _ => rfl) (w0 := wr) wr.heap.size rfl (.tmp 36) (.tmp 37) 57 5 (.int .u8 0) 1 rfl (by kernel_rfl) (by kernel_rfl) rfl (by omega) _ [] (nI D) A D.length c (fun _ => True) rfl rfl (fun _ _ => trivial) ?aO ?aC ?aB ?aS ?aL ?_; rotate_left 5; intro v2 w2 ho2 hb2 hg2 hat2; rw [List.nil_append] at ho2; obtain ⟨A2, c2, hv2⟩ := Kd.R_slice ho2; subst hv2; have HR2 := Aside0.mk ho2; have HB2 := Aside0.mk hb2; clear ho2 hb2 hg2 hat2) | ((with_reducible refine gate_builtin (b := .append) (xs := #[.tmp 42, .tmp 43]) rfl ?_); at_builtin; refine Kd.R_append (Kd.int .u8) (w0 := wr) wr.heap.size rfl (.tmp 42) (.tmp 43) 57 5 (.int .u8 0) 1 rfl (by kernel_rfl) (by kernel_rfl) rfl (by decide) (by omega) (.slice A2 (nI D).length c2) (nI D) 0 [.int .u8 0] (fun _ => True) (fun _ => False) rfl rfl ?bP (fun _ hk => hk.elim) (fun _ _ => trivial) ?bO ?bB ?bS ?bL ?_; rotate_left 5; intro v3 w3 ho3 hb3 hg3 hat3; rw [show nI D ++ [0] = nI (D ++ [0]) by simp [nI]] at ho3; obtain ⟨A3, c3, hv3⟩ := Kd.R_slice ho3; subst hv3; have HR3 := Aside0.mk ho3; have HB3 := Aside0.mk hb3; clear ho3 hb3 hg3 hat3))
            case aO => exact empty_row wr
            case aC => exact Kd.C_below HCR.out (below_alloc (Below.refl _ _) _)
            case aB => exact below_alloc (Below.refl _ _) _
            case aS => exact (below_alloc (Below.refl _ _) _).size
            case aL => (have := HDL.out; simp; omega)
            case bP => rfl
            case bO => exact HR2.out
            case bB => exact HB2.out
            case bS => exact HB2.out.size
            case bL => (have := HDL.out; simp [nI]; omega)
            have hj : bs.length / 8 < (nI (D ++ [0])).length := by have := HK.out.1; simp [nI]; omega
            obtain ⟨g2, cap, hv, hge, hlt, _⟩ := Kd.R_form HR3.out (by omega)
            obtain ⟨rfl, rfl⟩ : A3 = some ⟨g2, 0, none⟩ ∧ c3 = cap := by injection hv; exact ⟨by assumption, by assumption⟩
            clear hv
            obtain ⟨hcell, hfr⟩ := Kd.R_celln (0 : Int) HR3.out ((bs.length : Int) / 8) (by omega) (by omega)
            obtain ⟨j, hjd⟩ : ∃ j, j = bs.length / 8 := ⟨_, rfl⟩
            have hw8 : IntKind.i64.wrap ((bs.length : Int) / 8) = (j : Int) := by rw [IntKind.wrap_i64]; have := HK.out.1; have := HDL.out; omega
            have hq8 : (bs.length : Int) / 8 = (j : Int) := by omega
            have hjb : (j : Int) ≤ 200000 := by have := HK.out.1; have := HDL.out; omega
            obtain ⟨m, hmd⟩ : ∃ m, m = bs.length % 8 := ⟨_, rfl⟩
            have hqm : (bs.length : Int) % 8 = (m : Int) := by omega
            have hm8 : (m : Int) < 8 := by omega
            obtain ⟨q, hrd⟩ : ∃ q, q = 7 - m := ⟨_, rfl⟩
            have hqr : (7 : Int) - (m : Int) = (q : Int) := by omega
            have hr8 : (q : Int) < 8 := by omega
            have hwj : IntKind.i64.wrap (j : Int) = j := by rw [IntKind.wrap_i64]; omega
            have hwm : IntKind.i64.wrap (m : Int) = m := by rw [IntKind.wrap_i64]; omega
            have hwr : IntKind.i64.wrap (q : Int) = q := by rw [IntKind.wrap_i64]; omega
            have hr0 : 0 ≤ (q : Int) := by omega
            have hqt : (bs.length : Int).tmod 8 = (m : Int) := by rw [Int.tmod_eq_emod_of_nonneg (by omega)]; exact hqm
            have hq7 : IntKind.i64.wrap (7 - (m : Int)) = q := by rw [IntKind.wrap_i64]; omega
            have hu8 : IntKind.u8.wrap 0 = 0 := by decide
            obtain ⟨y, hyd⟩ : ∃ y : Nat, y = 0 * 2 ^ q := ⟨_, rfl⟩
            have hy256 : (y : Int) < 256 := by have h1 := bvp_lt false bs.length; rw [show 7 - bs.length % 8 = q by omega] at h1; have h2 : y < 256 := (hyd ▸ h1); omega
            have hy0 : 0 ≤ (y : Int) := by omega
            have HY := Aside0.mk hyd
            have hsh : ∀ w, Sem.run Try.prog (Op.shift BinOp.shl IntKind.u8 0 IntKind.i64 (q : Int)) w = .ok (.int .u8 (y : Int)) w := by rw [hyd]; exact shl8 0 q (by omega) (by omega)
            clear hyd
            have hjl : (j : Int) < ((nI (D ++ [0])).length : Nat) := by omega
            have hj0 : 0 ≤ (j : Int) := by omega
            obtain ⟨x, hx⟩ : ∃ x : Nat, rdOf (0 : Int) (nI (D ++ [0])) ((bs.length : Int) / 8) = x := ⟨((D ++ [0]).getD (bs.length / 8) 0).toNat, rd_get _ _ _ (by omega)⟩
            rw [hx, hq8, Int.toNat_natCast] at hcell
            rw [hq8, Int.toNat_natCast] at hfr
            have hcell2 : w3.drew.cell? _ = _ := hcell
            have hfr2 : w3.drew.frozen? _ = _ := hfr
            have hlt2 : g2 < w3.drew.heap.size := hlt
            have HX := Aside0.mk hx
            have HJM := Aside0.mk (And.intro hjd (And.intro hmd (And.intro hrd hm)))
            clear hx hjd hmd hrd hw8 hj hmz hm
            go_still_tail 13, (by kernel_rfl)
            change wpList _ _ _ _ _ (World.drew _)
            go_wp2_with fail
            clear hcell hfr hcell2 hfr2 hlt2
            go_at_call 25
            obtain ⟨hjd, hmd, hrd, hm⟩ := HJM.out
            have hE : (D ++ [0]) = if bs.length % 8 = 0 then D ++ [0] else D := by first | rw [if_pos (by omega)] | rw [if_neg (by omega)]
            have hset := Kd.R_putn HR3.out (j : Int) (bits .or .u8 (x : Int) 0)
            rw [Int.toNat_natCast] at hset
            have hxd : x = ((D ++ [0]).getD (bs.length / 8) 0).toNat := by have h1 := HX.out; rw [rd_get (D ++ [0]) (bs.length / 8) _ (by omega)] at h1; omega
            have hnb := more_row D (D ++ [0]) bs.length false hE x q 0 hxd (by omega) (by simp [bv])
            rw [← hjd] at hnb
            rw [hnb] at hset
            have hlen := more_len D (D ++ [0]) bs.length false hE
            have hBW := below_drew (Below.setCell HB3.out (p := ⟨g2, j, none⟩) hge (.int .u8 (bits .or .u8 (x : Int) 0)))
            rw [hlen] at hset ⊢
            obtain ⟨_, hc2, hC2⟩ := Kd.R_reads' hset
            rw [nI_len] at hC2
            have hC3 : Kd.C (Kd.int .u8) _ (some ⟨g2, 0, none⟩) (more D bs.length false).length (nI (more D bs.length false)) := Kd.C_below hC2 (below_drew (Below.refl _ _))
            have HBW := Aside0.mk hBW
            have HB7 := Aside0.mk (below_step HBR.out hBW)
            (with_reducible refine (ihl pl Fa (more D bs.length false) (bs ++ [false]) _ (some ⟨g2, 0, none⟩) _ _ (by rw [List.length_append]; simp) (HL.out.below HB7.out) (HK.out.more false) hC3 hc2 (by rw [List.length_append]; have := HDEP.out; simp [depth] at this; simp; omega) (by have := HCNT.out; simp [Tri.cnt] at this; omega)).mono ?_)
            rintro e w5 ⟨v5, rfl, hR5, hB5⟩
            obtain ⟨A5, c5, hv5⟩ := Kd.R_slice hR5
            subst hv5
            have HR5 := Aside0.mk hR5
            have HB5 := Aside0.mk (below_step HBW.out hB5)
            clear hR5 hB5 hset hc2 hC2 hC3 hBW hlen hnb hxd hE hjd hmd hrd hm
            go_wp2_with (first | ((with_reducible refine gate_builtin (b := .append) (xs := #[.tmp 58, .tmp 63]) rfl ?_); at_builtin; refine Kd.R_append_rows k32 (Rr := fun y cs => Kd.K k32 w5 y cs) (w0 := w) w.heap.size rfl (.tmp 58) (.tmp 63) 29 32 (.agg #[.string ⟨#[]⟩, .int .i64 0, .int .i64 0]) 32 rfl (by kernel_rfl) (by kernel_rfl) rfl (by decide) (by omega) _ (part l r (none) bs 0) (items l (bs ++ [false])) A5 (items l (bs ++ [false])).length c5 (fun _ => True) (fun _ => False) rfl rfl ?cO ?cR (fun y cs h => by rw [k32_open h]; exact k32_mkM _ _ _ _) (fun _ hk => hk.elim) (fun _ _ => trivial) ?cB ?cS ?cL ?_; rotate_left 5; intro v6 w6 ho6 hb6 hg6 hat6; have HR6 := Aside0.mk ho6; have HB6 := Aside0.mk hb6; clear ho6 hb6 hg6 hat6))
            case cO => exact Kd.R_below HO.out HB5.out
            case cR => exact (Kd.R_reads' HR5.out).2.2
            case cB => exact below_step HBR.out HB5.out
            case cS => exact (below_step HBR.out HB5.out).size
            case cL => (have := HCNT.out; simp [Tri.cnt] at this; have h1 := items_length l (bs ++ [false]); have h2 := items_length r (bs ++ [true]); have h3 := own_len (none) bs; simp only [part, List.length_append, h1, h2]; omega)
            go_roundg (1 - 0)
            case measure => have := HD.out; omega
            case rel => exact ⟨1, rfl, ⟨by have := HD.out; omega⟩, HB6, ⟨HR6.out⟩⟩
          · have hmz : ((bs.length : Int) % 8 == 0) = false := by simp; omega
            go_wp2_with (first | ((with_reducible refine gate_builtin (b := .append) (xs := #[.tmp 36, .tmp 37]) rfl ?_); at_builtin; refine Kd.R_append_row (Value.int .u8) (0 : Int) (h1 := fun _ => rfl) (w0 := wr) wr.heap.size rfl (.tmp 36) (.tmp 37) 57 5 (.int .u8 0) 1 rfl (by kernel_rfl) (by kernel_rfl) rfl (by omega) _ [] (nI D) A D.length c (fun _ => True) rfl rfl (fun _ _ => trivial) ?aO ?aC ?aB ?aS ?aL ?_; rotate_left 5; intro v2 w2 ho2 hb2 hg2 hat2; rw [List.nil_append] at ho2; obtain ⟨A2, c2, hv2⟩ := Kd.R_slice ho2; subst hv2; have HR2 := Aside0.mk ho2; have HB2 := Aside0.mk hb2; clear ho2 hb2 hg2 hat2))
            case aO => exact empty_row wr
            case aC => exact Kd.C_below HCR.out (below_alloc (Below.refl _ _) _)
            case aB => exact below_alloc (Below.refl _ _) _
            case aS => exact (below_alloc (Below.refl _ _) _).size
            case aL => (have := HDL.out; simp; omega)
            have hj : bs.length / 8 < (nI D).length := by have := HK.out.1; simp [nI]; omega
            obtain ⟨g2, cap, hv, hge, hlt, _⟩ := Kd.R_form HR2.out (by omega)
            obtain ⟨rfl, rfl⟩ : A2 = some ⟨g2, 0, none⟩ ∧ c2 = cap := by injection hv; exact ⟨by assumption, by assumption⟩
            clear hv
            obtain ⟨hcell, hfr⟩ := Kd.R_celln (0 : Int) HR2.out ((bs.length : Int) / 8) (by omega) (by omega)
            obtain ⟨j, hjd⟩ : ∃ j, j = bs.length / 8 := ⟨_, rfl⟩
            have hw8 : IntKind.i64.wrap ((bs.length : Int) / 8) = (j : Int) := by rw [IntKind.wrap_i64]; have := HK.out.1; have := HDL.out; omega
            have hq8 : (bs.length : Int) / 8 = (j : Int) := by omega
            have hjb : (j : Int) ≤ 200000 := by have := HK.out.1; have := HDL.out; omega
            obtain ⟨m, hmd⟩ : ∃ m, m = bs.length % 8 := ⟨_, rfl⟩
            have hqm : (bs.length : Int) % 8 = (m : Int) := by omega
            have hm8 : (m : Int) < 8 := by omega
            obtain ⟨q, hrd⟩ : ∃ q, q = 7 - m := ⟨_, rfl⟩
            have hqr : (7 : Int) - (m : Int) = (q : Int) := by omega
            have hr8 : (q : Int) < 8 := by omega
            have hwj : IntKind.i64.wrap (j : Int) = j := by rw [IntKind.wrap_i64]; omega
            have hwm : IntKind.i64.wrap (m : Int) = m := by rw [IntKind.wrap_i64]; omega
            have hwr : IntKind.i64.wrap (q : Int) = q := by rw [IntKind.wrap_i64]; omega
            have hr0 : 0 ≤ (q : Int) := by omega
            have hqt : (bs.length : Int).tmod 8 = (m : Int) := by rw [Int.tmod_eq_emod_of_nonneg (by omega)]; exact hqm
            have hq7 : IntKind.i64.wrap (7 - (m : Int)) = q := by rw [IntKind.wrap_i64]; omega
            have hu8 : IntKind.u8.wrap 0 = 0 := by decide
            obtain ⟨y, hyd⟩ : ∃ y : Nat, y = 0 * 2 ^ q := ⟨_, rfl⟩
            have hy256 : (y : Int) < 256 := by have h1 := bvp_lt false bs.length; rw [show 7 - bs.length % 8 = q by omega] at h1; have h2 : y < 256 := (hyd ▸ h1); omega
            have hy0 : 0 ≤ (y : Int) := by omega
            have HY := Aside0.mk hyd
            have hsh : ∀ w, Sem.run Try.prog (Op.shift BinOp.shl IntKind.u8 0 IntKind.i64 (q : Int)) w = .ok (.int .u8 (y : Int)) w := by rw [hyd]; exact shl8 0 q (by omega) (by omega)
            clear hyd
            have hjl : (j : Int) < ((nI D).length : Nat) := by omega
            have hj0 : 0 ≤ (j : Int) := by omega
            obtain ⟨x, hx⟩ : ∃ x : Nat, rdOf (0 : Int) (nI D) ((bs.length : Int) / 8) = x := ⟨(D.getD (bs.length / 8) 0).toNat, rd_get _ _ _ (by omega)⟩
            rw [hx, hq8, Int.toNat_natCast] at hcell
            rw [hq8, Int.toNat_natCast] at hfr
            have hcell2 : w2.drew.cell? _ = _ := hcell
            have hfr2 : w2.drew.frozen? _ = _ := hfr
            have hlt2 : g2 < w2.drew.heap.size := hlt
            have HX := Aside0.mk hx
            have HJM := Aside0.mk (And.intro hjd (And.intro hmd (And.intro hrd hm)))
            clear hx hjd hmd hrd hw8 hj hmz hm
            go_still_tail 13, (by kernel_rfl)
            change wpList _ _ _ _ _ (World.drew _)
            go_wp2_with fail
            clear hcell hfr hcell2 hfr2 hlt2
            go_at_call 25
            obtain ⟨hjd, hmd, hrd, hm⟩ := HJM.out
            have hE : D = if bs.length % 8 = 0 then D ++ [0] else D := by first | rw [if_pos (by omega)] | rw [if_neg (by omega)]
            have hset := Kd.R_putn HR2.out (j : Int) (bits .or .u8 (x : Int) 0)
            rw [Int.toNat_natCast] at hset
            have hxd : x = (D.getD (bs.length / 8) 0).toNat := by have h1 := HX.out; rw [rd_get D (bs.length / 8) _ (by omega)] at h1; omega
            have hnb := more_row D D bs.length false hE x q 0 hxd (by omega) (by simp [bv])
            rw [← hjd] at hnb
            rw [hnb] at hset
            have hlen := more_len D D bs.length false hE
            have hBW := below_drew (Below.setCell HB2.out (p := ⟨g2, j, none⟩) hge (.int .u8 (bits .or .u8 (x : Int) 0)))
            rw [hlen] at hset ⊢
            obtain ⟨_, hc2, hC2⟩ := Kd.R_reads' hset
            rw [nI_len] at hC2
            have hC3 : Kd.C (Kd.int .u8) _ (some ⟨g2, 0, none⟩) (more D bs.length false).length (nI (more D bs.length false)) := Kd.C_below hC2 (below_drew (Below.refl _ _))
            have HBW := Aside0.mk hBW
            have HB7 := Aside0.mk (below_step HBR.out hBW)
            (with_reducible refine (ihl pl Fa (more D bs.length false) (bs ++ [false]) _ (some ⟨g2, 0, none⟩) _ _ (by rw [List.length_append]; simp) (HL.out.below HB7.out) (HK.out.more false) hC3 hc2 (by rw [List.length_append]; have := HDEP.out; simp [depth] at this; simp; omega) (by have := HCNT.out; simp [Tri.cnt] at this; omega)).mono ?_)
            rintro e w5 ⟨v5, rfl, hR5, hB5⟩
            obtain ⟨A5, c5, hv5⟩ := Kd.R_slice hR5
            subst hv5
            have HR5 := Aside0.mk hR5
            have HB5 := Aside0.mk (below_step HBW.out hB5)
            clear hR5 hB5 hset hc2 hC2 hC3 hBW hlen hnb hxd hE hjd hmd hrd hm
            go_wp2_with (first | ((with_reducible refine gate_builtin (b := .append) (xs := #[.tmp 58, .tmp 63]) rfl ?_); at_builtin; refine Kd.R_append_rows k32 (Rr := fun y cs => Kd.K k32 w5 y cs) (w0 := w) w.heap.size rfl (.tmp 58) (.tmp 63) 29 32 (.agg #[.string ⟨#[]⟩, .int .i64 0, .int .i64 0]) 32 rfl (by kernel_rfl) (by kernel_rfl) rfl (by decide) (by omega) _ (part l r (none) bs 0) (items l (bs ++ [false])) A5 (items l (bs ++ [false])).length c5 (fun _ => True) (fun _ => False) rfl rfl ?cO ?cR (fun y cs h => by rw [k32_open h]; exact k32_mkM _ _ _ _) (fun _ hk => hk.elim) (fun _ _ => trivial) ?cB ?cS ?cL ?_; rotate_left 5; intro v6 w6 ho6 hb6 hg6 hat6; have HR6 := Aside0.mk ho6; have HB6 := Aside0.mk hb6; clear ho6 hb6 hg6 hat6))
            case cO => exact Kd.R_below HO.out HB5.out
            case cR => exact (Kd.R_reads' HR5.out).2.2
            case cB => exact below_step HBR.out HB5.out
            case cS => exact (below_step HBR.out HB5.out).size
            case cL => (have := HCNT.out; simp [Tri.cnt] at this; have h1 := items_length l (bs ++ [false]); have h2 := items_length r (bs ++ [true]); have h3 := own_len (none) bs; simp only [part, List.length_append, h1, h2]; omega)
            go_roundg (1 - 0)
            case measure => have := HD.out; omega
            case rel => exact ⟨1, rfl, ⟨by have := HD.out; omega⟩, HB6, ⟨HR6.out⟩⟩
        · subst hk
          have HCR := Aside0.mk (Kd.C_below HC.out HBR.out)
          by_cases hm : bs.length % 8 = 0
          · have hmz : ((bs.length : Int) % 8 == 0) = true := by simp; omega
            go_wp2_with (first | ((with_reducible refine gate_builtin (b := .append) (xs := #[.tmp 36, .tmp 37]) rfl ?_); at_builtin; refine Kd.R_append_row (Value.int .u8) (0 : Int) (h1 := fun _ => rfl) (w0 := wr) wr.heap.size rfl (.tmp 36) (.tmp 37) 57 5 (.int .u8 0) 1 rfl (by kernel_rfl) (by kernel_rfl) rfl (by omega) _ [] (nI D) A D.length c (fun _ => True) rfl rfl (fun _ _ => trivial) ?aO ?aC ?aB ?aS ?aL ?_; rotate_left 5; intro v2 w2 ho2 hb2 hg2 hat2; rw [List.nil_append] at ho2; obtain ⟨A2, c2, hv2⟩ := Kd.R_slice ho2; subst hv2; have HR2 := Aside0.mk ho2; have HB2 := Aside0.mk hb2; clear ho2 hb2 hg2 hat2) | ((with_reducible refine gate_builtin (b := .append) (xs := #[.tmp 42, .tmp 43]) rfl ?_); at_builtin; refine Kd.R_append (Kd.int .u8) (w0 := wr) wr.heap.size rfl (.tmp 42) (.tmp 43) 57 5 (.int .u8 0) 1 rfl (by kernel_rfl) (by kernel_rfl) rfl (by decide) (by omega) (.slice A2 (nI D).length c2) (nI D) 0 [.int .u8 0] (fun _ => True) (fun _ => False) rfl rfl ?bP (fun _ hk => hk.elim) (fun _ _ => trivial) ?bO ?bB ?bS ?bL ?_; rotate_left 5; intro v3 w3 ho3 hb3 hg3 hat3; rw [show nI D ++ [0] = nI (D ++ [0]) by simp [nI]] at ho3; obtain ⟨A3, c3, hv3⟩ := Kd.R_slice ho3; subst hv3; have HR3 := Aside0.mk ho3; have HB3 := Aside0.mk hb3; clear ho3 hb3 hg3 hat3))
            case aO => exact empty_row wr
            case aC => exact Kd.C_below HCR.out (below_alloc (Below.refl _ _) _)
            case aB => exact below_alloc (Below.refl _ _) _
            case aS => exact (below_alloc (Below.refl _ _) _).size
            case aL => (have := HDL.out; simp; omega)
            case bP => rfl
            case bO => exact HR2.out
            case bB => exact HB2.out
            case bS => exact HB2.out.size
            case bL => (have := HDL.out; simp [nI]; omega)
            have hj : bs.length / 8 < (nI (D ++ [0])).length := by have := HK.out.1; simp [nI]; omega
            obtain ⟨g2, cap, hv, hge, hlt, _⟩ := Kd.R_form HR3.out (by omega)
            obtain ⟨rfl, rfl⟩ : A3 = some ⟨g2, 0, none⟩ ∧ c3 = cap := by injection hv; exact ⟨by assumption, by assumption⟩
            clear hv
            obtain ⟨hcell, hfr⟩ := Kd.R_celln (0 : Int) HR3.out ((bs.length : Int) / 8) (by omega) (by omega)
            obtain ⟨j, hjd⟩ : ∃ j, j = bs.length / 8 := ⟨_, rfl⟩
            have hw8 : IntKind.i64.wrap ((bs.length : Int) / 8) = (j : Int) := by rw [IntKind.wrap_i64]; have := HK.out.1; have := HDL.out; omega
            have hq8 : (bs.length : Int) / 8 = (j : Int) := by omega
            have hjb : (j : Int) ≤ 200000 := by have := HK.out.1; have := HDL.out; omega
            obtain ⟨m, hmd⟩ : ∃ m, m = bs.length % 8 := ⟨_, rfl⟩
            have hqm : (bs.length : Int) % 8 = (m : Int) := by omega
            have hm8 : (m : Int) < 8 := by omega
            obtain ⟨q, hrd⟩ : ∃ q, q = 7 - m := ⟨_, rfl⟩
            have hqr : (7 : Int) - (m : Int) = (q : Int) := by omega
            have hr8 : (q : Int) < 8 := by omega
            have hwj : IntKind.i64.wrap (j : Int) = j := by rw [IntKind.wrap_i64]; omega
            have hwm : IntKind.i64.wrap (m : Int) = m := by rw [IntKind.wrap_i64]; omega
            have hwr : IntKind.i64.wrap (q : Int) = q := by rw [IntKind.wrap_i64]; omega
            have hr0 : 0 ≤ (q : Int) := by omega
            have hqt : (bs.length : Int).tmod 8 = (m : Int) := by rw [Int.tmod_eq_emod_of_nonneg (by omega)]; exact hqm
            have hq7 : IntKind.i64.wrap (7 - (m : Int)) = q := by rw [IntKind.wrap_i64]; omega
            have hu8 : IntKind.u8.wrap 1 = 1 := by decide
            obtain ⟨y, hyd⟩ : ∃ y : Nat, y = 1 * 2 ^ q := ⟨_, rfl⟩
            have hy256 : (y : Int) < 256 := by have h1 := bvp_lt true bs.length; rw [show 7 - bs.length % 8 = q by omega] at h1; have h2 : y < 256 := (hyd ▸ h1); omega
            have hy0 : 0 ≤ (y : Int) := by omega
            have HY := Aside0.mk hyd
            have hsh : ∀ w, Sem.run Try.prog (Op.shift BinOp.shl IntKind.u8 1 IntKind.i64 (q : Int)) w = .ok (.int .u8 (y : Int)) w := by rw [hyd]; exact shl8 1 q (by omega) (by omega)
            clear hyd
            have hjl : (j : Int) < ((nI (D ++ [0])).length : Nat) := by omega
            have hj0 : 0 ≤ (j : Int) := by omega
            obtain ⟨x, hx⟩ : ∃ x : Nat, rdOf (0 : Int) (nI (D ++ [0])) ((bs.length : Int) / 8) = x := ⟨((D ++ [0]).getD (bs.length / 8) 0).toNat, rd_get _ _ _ (by omega)⟩
            rw [hx, hq8, Int.toNat_natCast] at hcell
            rw [hq8, Int.toNat_natCast] at hfr
            have hcell2 : w3.drew.cell? _ = _ := hcell
            have hfr2 : w3.drew.frozen? _ = _ := hfr
            have hlt2 : g2 < w3.drew.heap.size := hlt
            have HX := Aside0.mk hx
            have HJM := Aside0.mk (And.intro hjd (And.intro hmd (And.intro hrd hm)))
            clear hx hjd hmd hrd hw8 hj hmz hm
            go_still_tail 13, (by kernel_rfl)
            change wpList _ _ _ _ _ (World.drew _)
            go_wp2_with fail
            clear hcell hfr hcell2 hfr2 hlt2
            go_at_call 25
            have hye : ((2 : Int) ^ q) = (y : Int) := by rw [HY.out]; simp
            rw [show ((2 : Int) ^ q % 256) = (y : Int) by rw [hye]; exact Int.emod_eq_of_lt hy0 hy256]
            obtain ⟨hjd, hmd, hrd, hm⟩ := HJM.out
            have hE : (D ++ [0]) = if bs.length % 8 = 0 then D ++ [0] else D := by first | rw [if_pos (by omega)] | rw [if_neg (by omega)]
            have hset := Kd.R_putn HR3.out (j : Int) (bits .or .u8 (x : Int) (y : Int))
            rw [Int.toNat_natCast] at hset
            have hxd : x = ((D ++ [0]).getD (bs.length / 8) 0).toNat := by have h1 := HX.out; rw [rd_get (D ++ [0]) (bs.length / 8) _ (by omega)] at h1; omega
            have hnb := more_row D (D ++ [0]) bs.length true hE x q (y : Int) hxd (by omega) (by exact congrArg (fun z : Nat => (z : Int)) HY.out)
            rw [← hjd] at hnb
            rw [hnb] at hset
            have hlen := more_len D (D ++ [0]) bs.length true hE
            have hBW := below_drew (Below.setCell HB3.out (p := ⟨g2, j, none⟩) hge (.int .u8 (bits .or .u8 (x : Int) (y : Int))))
            rw [hlen] at hset ⊢
            obtain ⟨_, hc2, hC2⟩ := Kd.R_reads' hset
            rw [nI_len] at hC2
            have hC3 : Kd.C (Kd.int .u8) _ (some ⟨g2, 0, none⟩) (more D bs.length true).length (nI (more D bs.length true)) := Kd.C_below hC2 (below_drew (Below.refl _ _))
            have HBW := Aside0.mk hBW
            have HB7 := Aside0.mk (below_step HBR.out hBW)
            (with_reducible refine (ihr pr Fb (more D bs.length true) (bs ++ [true]) _ (some ⟨g2, 0, none⟩) _ _ (by rw [List.length_append]; simp) (HR.out.below HB7.out) (HK.out.more true) hC3 hc2 (by rw [List.length_append]; have := HDEP.out; simp [depth] at this; simp; omega) (by have := HCNT.out; simp [Tri.cnt] at this; omega)).mono ?_)
            rintro e w5 ⟨v5, rfl, hR5, hB5⟩
            obtain ⟨A5, c5, hv5⟩ := Kd.R_slice hR5
            subst hv5
            have HR5 := Aside0.mk hR5
            have HB5 := Aside0.mk (below_step HBW.out hB5)
            clear hR5 hB5 hset hc2 hC2 hC3 hBW hlen hnb hxd hE hjd hmd hrd hm
            go_wp2_with (first | ((with_reducible refine gate_builtin (b := .append) (xs := #[.tmp 58, .tmp 63]) rfl ?_); at_builtin; refine Kd.R_append_rows k32 (Rr := fun y cs => Kd.K k32 w5 y cs) (w0 := w) w.heap.size rfl (.tmp 58) (.tmp 63) 29 32 (.agg #[.string ⟨#[]⟩, .int .i64 0, .int .i64 0]) 32 rfl (by kernel_rfl) (by kernel_rfl) rfl (by decide) (by omega) _ (part l r (none) bs 1) (items r (bs ++ [true])) A5 (items r (bs ++ [true])).length c5 (fun _ => True) (fun _ => False) rfl rfl ?cO ?cR (fun y cs h => by rw [k32_open h]; exact k32_mkM _ _ _ _) (fun _ hk => hk.elim) (fun _ _ => trivial) ?cB ?cS ?cL ?_; rotate_left 5; intro v6 w6 ho6 hb6 hg6 hat6; have HR6 := Aside0.mk ho6; have HB6 := Aside0.mk hb6; clear ho6 hb6 hg6 hat6))
            case cO => exact Kd.R_below HO.out HB5.out
            case cR => exact (Kd.R_reads' HR5.out).2.2
            case cB => exact below_step HBR.out HB5.out
            case cS => exact (below_step HBR.out HB5.out).size
            case cL => (have := HCNT.out; simp [Tri.cnt] at this; have h1 := items_length l (bs ++ [false]); have h2 := items_length r (bs ++ [true]); have h3 := own_len (none) bs; simp only [part, List.length_append, h1, h2]; omega)
            go_roundg (1 - 1)
            case measure => have := HD.out; omega
            case rel => exact ⟨2, rfl, ⟨by have := HD.out; omega⟩, HB6, ⟨HR6.out⟩⟩
          · have hmz : ((bs.length : Int) % 8 == 0) = false := by simp; omega
            go_wp2_with (first | ((with_reducible refine gate_builtin (b := .append) (xs := #[.tmp 36, .tmp 37]) rfl ?_); at_builtin; refine Kd.R_append_row (Value.int .u8) (0 : Int) (h1 := fun _ => rfl) (w0 := wr) wr.heap.size rfl (.tmp 36) (.tmp 37) 57 5 (.int .u8 0) 1 rfl (by kernel_rfl) (by kernel_rfl) rfl (by omega) _ [] (nI D) A D.length c (fun _ => True) rfl rfl (fun _ _ => trivial) ?aO ?aC ?aB ?aS ?aL ?_; rotate_left 5; intro v2 w2 ho2 hb2 hg2 hat2; rw [List.nil_append] at ho2; obtain ⟨A2, c2, hv2⟩ := Kd.R_slice ho2; subst hv2; have HR2 := Aside0.mk ho2; have HB2 := Aside0.mk hb2; clear ho2 hb2 hg2 hat2))
            case aO => exact empty_row wr
            case aC => exact Kd.C_below HCR.out (below_alloc (Below.refl _ _) _)
            case aB => exact below_alloc (Below.refl _ _) _
            case aS => exact (below_alloc (Below.refl _ _) _).size
            case aL => (have := HDL.out; simp; omega)
            have hj : bs.length / 8 < (nI D).length := by have := HK.out.1; simp [nI]; omega
            obtain ⟨g2, cap, hv, hge, hlt, _⟩ := Kd.R_form HR2.out (by omega)
            obtain ⟨rfl, rfl⟩ : A2 = some ⟨g2, 0, none⟩ ∧ c2 = cap := by injection hv; exact ⟨by assumption, by assumption⟩
            clear hv
            obtain ⟨hcell, hfr⟩ := Kd.R_celln (0 : Int) HR2.out ((bs.length : Int) / 8) (by omega) (by omega)
            obtain ⟨j, hjd⟩ : ∃ j, j = bs.length / 8 := ⟨_, rfl⟩
            have hw8 : IntKind.i64.wrap ((bs.length : Int) / 8) = (j : Int) := by rw [IntKind.wrap_i64]; have := HK.out.1; have := HDL.out; omega
            have hq8 : (bs.length : Int) / 8 = (j : Int) := by omega
            have hjb : (j : Int) ≤ 200000 := by have := HK.out.1; have := HDL.out; omega
            obtain ⟨m, hmd⟩ : ∃ m, m = bs.length % 8 := ⟨_, rfl⟩
            have hqm : (bs.length : Int) % 8 = (m : Int) := by omega
            have hm8 : (m : Int) < 8 := by omega
            obtain ⟨q, hrd⟩ : ∃ q, q = 7 - m := ⟨_, rfl⟩
            have hqr : (7 : Int) - (m : Int) = (q : Int) := by omega
            have hr8 : (q : Int) < 8 := by omega
            have hwj : IntKind.i64.wrap (j : Int) = j := by rw [IntKind.wrap_i64]; omega
            have hwm : IntKind.i64.wrap (m : Int) = m := by rw [IntKind.wrap_i64]; omega
            have hwr : IntKind.i64.wrap (q : Int) = q := by rw [IntKind.wrap_i64]; omega
            have hr0 : 0 ≤ (q : Int) := by omega
            have hqt : (bs.length : Int).tmod 8 = (m : Int) := by rw [Int.tmod_eq_emod_of_nonneg (by omega)]; exact hqm
            have hq7 : IntKind.i64.wrap (7 - (m : Int)) = q := by rw [IntKind.wrap_i64]; omega
            have hu8 : IntKind.u8.wrap 1 = 1 := by decide
            obtain ⟨y, hyd⟩ : ∃ y : Nat, y = 1 * 2 ^ q := ⟨_, rfl⟩
            have hy256 : (y : Int) < 256 := by have h1 := bvp_lt true bs.length; rw [show 7 - bs.length % 8 = q by omega] at h1; have h2 : y < 256 := (hyd ▸ h1); omega
            have hy0 : 0 ≤ (y : Int) := by omega
            have HY := Aside0.mk hyd
            have hsh : ∀ w, Sem.run Try.prog (Op.shift BinOp.shl IntKind.u8 1 IntKind.i64 (q : Int)) w = .ok (.int .u8 (y : Int)) w := by rw [hyd]; exact shl8 1 q (by omega) (by omega)
            clear hyd
            have hjl : (j : Int) < ((nI D).length : Nat) := by omega
            have hj0 : 0 ≤ (j : Int) := by omega
            obtain ⟨x, hx⟩ : ∃ x : Nat, rdOf (0 : Int) (nI D) ((bs.length : Int) / 8) = x := ⟨(D.getD (bs.length / 8) 0).toNat, rd_get _ _ _ (by omega)⟩
            rw [hx, hq8, Int.toNat_natCast] at hcell
            rw [hq8, Int.toNat_natCast] at hfr
            have hcell2 : w2.drew.cell? _ = _ := hcell
            have hfr2 : w2.drew.frozen? _ = _ := hfr
            have hlt2 : g2 < w2.drew.heap.size := hlt
            have HX := Aside0.mk hx
            have HJM := Aside0.mk (And.intro hjd (And.intro hmd (And.intro hrd hm)))
            clear hx hjd hmd hrd hw8 hj hmz hm
            go_still_tail 13, (by kernel_rfl)
            change wpList _ _ _ _ _ (World.drew _)
            go_wp2_with fail
            clear hcell hfr hcell2 hfr2 hlt2
            go_at_call 25
            have hye : ((2 : Int) ^ q) = (y : Int) := by rw [HY.out]; simp
            rw [show ((2 : Int) ^ q % 256) = (y : Int) by rw [hye]; exact Int.emod_eq_of_lt hy0 hy256]
            obtain ⟨hjd, hmd, hrd, hm⟩ := HJM.out
            have hE : D = if bs.length % 8 = 0 then D ++ [0] else D := by first | rw [if_pos (by omega)] | rw [if_neg (by omega)]
            have hset := Kd.R_putn HR2.out (j : Int) (bits .or .u8 (x : Int) (y : Int))
            rw [Int.toNat_natCast] at hset
            have hxd : x = (D.getD (bs.length / 8) 0).toNat := by have h1 := HX.out; rw [rd_get D (bs.length / 8) _ (by omega)] at h1; omega
            have hnb := more_row D D bs.length true hE x q (y : Int) hxd (by omega) (by exact congrArg (fun z : Nat => (z : Int)) HY.out)
            rw [← hjd] at hnb
            rw [hnb] at hset
            have hlen := more_len D D bs.length true hE
            have hBW := below_drew (Below.setCell HB2.out (p := ⟨g2, j, none⟩) hge (.int .u8 (bits .or .u8 (x : Int) (y : Int))))
            rw [hlen] at hset ⊢
            obtain ⟨_, hc2, hC2⟩ := Kd.R_reads' hset
            rw [nI_len] at hC2
            have hC3 : Kd.C (Kd.int .u8) _ (some ⟨g2, 0, none⟩) (more D bs.length true).length (nI (more D bs.length true)) := Kd.C_below hC2 (below_drew (Below.refl _ _))
            have HBW := Aside0.mk hBW
            have HB7 := Aside0.mk (below_step HBR.out hBW)
            (with_reducible refine (ihr pr Fb (more D bs.length true) (bs ++ [true]) _ (some ⟨g2, 0, none⟩) _ _ (by rw [List.length_append]; simp) (HR.out.below HB7.out) (HK.out.more true) hC3 hc2 (by rw [List.length_append]; have := HDEP.out; simp [depth] at this; simp; omega) (by have := HCNT.out; simp [Tri.cnt] at this; omega)).mono ?_)
            rintro e w5 ⟨v5, rfl, hR5, hB5⟩
            obtain ⟨A5, c5, hv5⟩ := Kd.R_slice hR5
            subst hv5
            have HR5 := Aside0.mk hR5
            have HB5 := Aside0.mk (below_step HBW.out hB5)
            clear hR5 hB5 hset hc2 hC2 hC3 hBW hlen hnb hxd hE hjd hmd hrd hm
            go_wp2_with (first | ((with_reducible refine gate_builtin (b := .append) (xs := #[.tmp 58, .tmp 63]) rfl ?_); at_builtin; refine Kd.R_append_rows k32 (Rr := fun y cs => Kd.K k32 w5 y cs) (w0 := w) w.heap.size rfl (.tmp 58) (.tmp 63) 29 32 (.agg #[.string ⟨#[]⟩, .int .i64 0, .int .i64 0]) 32 rfl (by kernel_rfl) (by kernel_rfl) rfl (by decide) (by omega) _ (part l r (none) bs 1) (items r (bs ++ [true])) A5 (items r (bs ++ [true])).length c5 (fun _ => True) (fun _ => False) rfl rfl ?cO ?cR (fun y cs h => by rw [k32_open h]; exact k32_mkM _ _ _ _) (fun _ hk => hk.elim) (fun _ _ => trivial) ?cB ?cS ?cL ?_; rotate_left 5; intro v6 w6 ho6 hb6 hg6 hat6; have HR6 := Aside0.mk ho6; have HB6 := Aside0.mk hb6; clear ho6 hb6 hg6 hat6))
            case cO => exact Kd.R_below HO.out HB5.out
            case cR => exact (Kd.R_reads' HR5.out).2.2
            case cB => exact below_step HBR.out HB5.out
            case cS => exact (below_step HBR.out HB5.out).size
            case cL => (have := HCNT.out; simp [Tri.cnt] at this; have h1 := items_length l (bs ++ [false]); have h2 := items_length r (bs ++ [true]); have h3 := own_len (none) bs; simp only [part, List.length_append, h1, h2]; omega)
            go_roundg (1 - 1)
            case measure => have := HD.out; omega
            case rel => exact ⟨2, rfl, ⟨by have := HD.out; omega⟩, HB6, ⟨HR6.out⟩⟩
        · subst hk
          go_wp2_with fail
          go_ret
          exact ⟨_, rfl, by rw [items_node, ← List.append_assoc]; exact HO.out, HBR.out⟩
    | some v =>
      go_enter Try.func25, Try.ntmps25
      go_wp2_with fail
      refine wp_region_any (by kernel_rfl) ?_
      change wpAny _ _ _ _ _ _ _ (World.drew _)
      refine any_var (fun A1 hA => ?_)
      have s0 : A1.eval (.tmp 0) = Value.pointer (some ⟨g, 0, none⟩) := by rw [hA]; rfl
      have s1 : A1.eval (.tmp 1) = Value.slice A D.length c := by rw [hA]; rfl
      have s2 : A1.eval (.tmp 2) = Value.int .i64 (bs.length : Int) := by rw [hA]; rfl
      have s7 : A1.eval (.tmp 7) = Value.slice none 0 0 := by rw [hA]; rfl
      haveI HFr : Fr 67 A1 := ⟨by rw [hA]; exact Nat.le_refl _⟩
      have HAA := Aside0.mk hA
      clear hA
      refine reg_pure 0 (some 17) (v := Value.slice none 0 0) rfl (by kernel_rfl) (by kernel_rfl) (by kernel_rfl) rfl (fun _ _ _ h => h) (wanted_none rfl) (ro_move (.inl rfl) s7) ?_
      refine reg_pure 1 (some 18) (v := Value.slice A D.length c) rfl (by kernel_rfl) (by kernel_rfl) (by kernel_rfl) rfl (fun _ _ _ h => h) (wanted_none rfl) (ro_move (.inl rfl) (by repeat (first | (with_reducible exact s1) | refine ev_ne (by decide) ?_))) ?_
      refine reg_pure 3 (some 20) (v := Value.int .i64 (bs.length : Int)) rfl (by kernel_rfl) (by kernel_rfl) (by kernel_rfl) rfl (fun _ _ _ h => h) (wanted_none rfl) (ro_move (.inl rfl) (by repeat (first | (with_reducible exact s2) | refine ev_ne (by decide) ?_))) ?_
      refine reg_pure 4 (some 21) (v := Value.pointer (some ⟨g, 0, none⟩)) rfl (by kernel_rfl) (by kernel_rfl) (by kernel_rfl) rfl (fun _ _ _ h => h) (wanted_none rfl) (ro_move (.inl rfl) (by repeat (first | (with_reducible exact s0) | refine ev_ne (by decide) ?_))) ?_
      refine reg_pure 5 (some 22) (v := Value.pointer (some ⟨g, 0, none⟩)) rfl (by kernel_rfl) (by kernel_rfl) (by kernel_rfl) rfl (fun _ _ _ h => h) (wanted_none rfl) (ro_nil rfl (by repeat (first | (with_reducible exact ev_eq (by decide)) | refine ev_ne (by decide) ?_))) ?_
      refine reg_pure 6 (some 23) (v := Value.pointer (some ⟨g, 3, none⟩)) rfl (by kernel_rfl) (by kernel_rfl) (by kernel_rfl) rfl (fun _ _ _ h => h) (wanted_none rfl) (ro_field rfl (by repeat (first | (with_reducible exact ev_eq (by decide)) | refine ev_ne (by decide) ?_)) (fun w => by go_simp)) ?_
      have cv : w.drew.cell? ⟨g, 3, none⟩ = some (.int .i64 v) := HN.out.c3
      have hld : (Instr.loadAt 3 (Value.pointer (some ⟨g, 3, none⟩)) : Sem Value).run Try.prog w.drew = .ok (.int .i64 v) w.drew := by go_simp
      have hcon : (convert 57 9 (Value.slice A D.length c) : Sem Value).run Try.prog w.drew = .ok (.string (strOf D)) w.drew := by rw [← strOf_nI]; exact Kd.C_string (e := 5) (by kernel_rfl) (by kernel_rfl) (by kernel_rfl) (Kd.C_below HC.out (below_drew (Below.refl _ _)))
      refine reg_two 2 7 19 24 (vi := .string (strOf D)) (vj := .int .i64 v) (by decide) (by decide) (by kernel_rfl) (by kernel_rfl) (by kernel_rfl) rfl rfl rfl rfl (wanted_none rfl) (wanted_none rfl) (wanted_none rfl) (wanted_none rfl) ?hv1 ?hv2 ?hv3 ?hv4 ?hv5
      case hv1 => exact ro_conv1 rfl (by repeat (first | (with_reducible exact ev_eq (by decide)) | refine ev_ne (by decide) ?_)) hcon
      case hv2 => exact ro_load rfl (by repeat (first | (with_reducible exact ev_eq (by decide)) | refine ev_ne (by decide) ?_)) hld
      case hv3 => exact ro_conv1 rfl (by repeat (first | (with_reducible exact ev_eq (by decide)) | refine ev_ne (by decide) ?_)) hcon
      case hv4 => exact ro_load rfl (by repeat (first | (with_reducible exact ev_eq (by decide)) | refine ev_ne (by decide) ?_)) hld
      refine reg_pure 8 (some 25) (v := Value.agg #[.string (strOf D), .int .i64 bs.length, .int .i64 v]) rfl (by kernel_rfl) (by kernel_rfl) (by kernel_rfl) rfl (fun _ _ _ h => h) (wanted_none rfl) (ro_build0 (pv := #[(0, .string (strOf D)), (1, .int .i64 bs.length), (2, .int .i64 v)]) rfl (by simp only [List.map_toArray, List.map_cons, List.map_nil]; rw [show (_ : Act).eval (.tmp 19) = Value.string (strOf D) from (by repeat (first | (with_reducible exact ev_eq (by decide)) | refine ev_ne (by decide) ?_)), show (_ : Act).eval (.tmp 20) = Value.int .i64 bs.length from (by repeat (first | (with_reducible exact ev_eq (by decide)) | refine ev_ne (by decide) ?_)), show (_ : Act).eval (.tmp 24) = Value.int .i64 v from (by repeat (first | (with_reducible exact ev_eq (by decide)) | refine ev_ne (by decide) ?_))]) (fun w => by go_simp)) ?_
      refine wpAny_ready (rs := [9]) (by kernel_rfl) (by simp) ?_
      refine br_run 9 (some 26) rfl rfl (wanted_none rfl) (ro_lit rfl (by repeat (first | (with_reducible exact ev_eq (by decide)) | refine ev_ne (by decide) ?_))) ?_ AllReady.nil
      refine wpAny_ready (rs := [10]) (by kernel_rfl) (by simp) ?_
      refine AllReady.cons rfl (fun K hK => ?_) AllReady.nil
      refine Kd.R_append_step k32 (w0 := w) w.heap.size (wanted_none rfl) (.tmp 17) (.tmp 26) 29 32 (.agg #[.string ⟨#[]⟩, .int .i64 0, .int .i64 0]) 32 rfl (by kernel_rfl) (by kernel_rfl) rfl (by decide) (by omega) (.slice none 0 0) [] ⟨strOf D, bs.length, v⟩ [.string (strOf D), .int .i64 bs.length, .int .i64 v] (fun _ => True) (fun _ => False) (by repeat (first | (with_reducible exact ev_eq (by decide)) | refine ev_ne (by decide) ?_)) (by repeat (first | (with_reducible exact ev_eq (by decide)) | refine ev_ne (by decide) ?_)) (k32_mkM _ _ _ _) (fun _ hk => hk.elim) (fun _ _ => trivial) (Kd.R_nil _ _ _ _ _) (below_drew (Below.refl _ _)) (Nat.le_refl _) (by decide) ?_
      intro v1 w1 ho hb1 hg hat
      have HO : Aside0 (Kd.R k32 32 w1 w.heap.size (fun _ => True) v1 (own (some v) bs)) := ⟨by unfold own; rw [key_pack HK.out]; exact ho⟩
      have HB1 := Aside0.mk hb1
      clear ho hb1 hg hat
      refine hK _ _ ?_
      change wpAny _ _ _ _ _ _ (Act.put _ (some 27) v1) _
      refine reg_pure 11 (some 7) (v := v1) rfl (by kernel_rfl) (by kernel_rfl) (by kernel_rfl) rfl (fun _ _ _ h => h) (wanted_none rfl) (ro_move (.inr rfl) (by repeat (first | (with_reducible exact ev_eq (by decide)) | refine ev_ne (by decide) ?_))) ?_
      refine reg_done (by kernel_rfl) ?_
      have hA := HAA.out
      subst hA
      simp only [Act.put, List.setIfInBounds_toArray, List.set_cons_zero, List.set_cons_succ]
      clear HAA HFr s0 s1 s2 s7 cv hcon hld c0 c1 c2 c3 cl
      have hN1 := HN.out.same (HB1.out.block g HN.out.lt)
      have c0 := hN1.c0
      have c1 := hN1.c1
      have cl := hN1.lt
      clear hN1
      go_wp2_with fail
      clear c0 c1 cl
      go_loopg [7, 32] 2 (fun d v7 v32 wr => ∃ k : Nat, v32 = .int .i64 k ∧ Aside0 (k + d = 2) ∧ Aside0 (Below w.heap.size w wr) ∧ Aside0 (Kd.R k32 32 wr w.heap.size (fun _ => True) v7 (part l r (some v) bs k)))
      case atStart => exact ⟨0, rfl, ⟨rfl⟩, HB1, HO⟩
      case round =>
        clear HB1 HO
        obtain ⟨k, h32, HD, HBR, HO⟩ := hrel
        subst h32
        obtain hk | hk | hk : k = 0 ∨ k = 1 ∨ k = 2 := by have := HD.out; omega
        · subst hk
          have HCR := Aside0.mk (Kd.C_below HC.out HBR.out)
          by_cases hm : bs.length % 8 = 0
          · have hmz : ((bs.length : Int) % 8 == 0) = true := by simp; omega
            go_wp2_with (first | ((with_reducible refine gate_builtin (b := .append) (xs := #[.tmp 36, .tmp 37]) rfl ?_); at_builtin; refine Kd.R_append_row (Value.int .u8) (0 : Int) (h1 := fun _ => rfl) (w0 := wr) wr.heap.size rfl (.tmp 36) (.tmp 37) 57 5 (.int .u8 0) 1 rfl (by kernel_rfl) (by kernel_rfl) rfl (by omega) _ [] (nI D) A D.length c (fun _ => True) rfl rfl (fun _ _ => trivial) ?aO ?aC ?aB ?aS ?aL ?_; rotate_left 5; intro v2 w2 ho2 hb2 hg2 hat2; rw [List.nil_append] at ho2; obtain ⟨A2, c2, hv2⟩ := Kd.R_slice ho2; subst hv2; have HR2 := Aside0.mk ho2; have HB2 := Aside0.mk hb2; clear ho2 hb2 hg2 hat2) | ((with_reducible refine gate_builtin (b := .append) (xs := #[.tmp 42, .tmp 43]) rfl ?_); at_builtin; refine Kd.R_append (Kd.int .u8) (w0 := wr) wr.heap.size rfl (.tmp 42) (.tmp 43) 57 5 (.int .u8 0) 1 rfl (by kernel_rfl) (by kernel_rfl) rfl (by decide) (by omega) (.slice A2 (nI D).length c2) (nI D) 0 [.int .u8 0] (fun _ => True) (fun _ => False) rfl rfl ?bP (fun _ hk => hk.elim) (fun _ _ => trivial) ?bO ?bB ?bS ?bL ?_; rotate_left 5; intro v3 w3 ho3 hb3 hg3 hat3; rw [show nI D ++ [0] = nI (D ++ [0]) by simp [nI]] at ho3; obtain ⟨A3, c3, hv3⟩ := Kd.R_slice ho3; subst hv3; have HR3 := Aside0.mk ho3; have HB3 := Aside0.mk hb3; clear ho3 hb3 hg3 hat3))
            case aO => exact empty_row wr
            case aC => exact Kd.C_below HCR.out (below_alloc (Below.refl _ _) _)
            case aB => exact below_alloc (Below.refl _ _) _
            case aS => exact (below_alloc (Below.refl _ _) _).size
            case aL => (have := HDL.out; simp; omega)
            case bP => rfl
            case bO => exact HR2.out
            case bB => exact HB2.out
            case bS => exact HB2.out.size
            case bL => (have := HDL.out; simp [nI]; omega)
            have hj : bs.length / 8 < (nI (D ++ [0])).length := by have := HK.out.1; simp [nI]; omega
            obtain ⟨g2, cap, hv, hge, hlt, _⟩ := Kd.R_form HR3.out (by omega)
            obtain ⟨rfl, rfl⟩ : A3 = some ⟨g2, 0, none⟩ ∧ c3 = cap := by injection hv; exact ⟨by assumption, by assumption⟩
            clear hv
            obtain ⟨hcell, hfr⟩ := Kd.R_celln (0 : Int) HR3.out ((bs.length : Int) / 8) (by omega) (by omega)
            obtain ⟨j, hjd⟩ : ∃ j, j = bs.length / 8 := ⟨_, rfl⟩
            have hw8 : IntKind.i64.wrap ((bs.length : Int) / 8) = (j : Int) := by rw [IntKind.wrap_i64]; have := HK.out.1; have := HDL.out; omega
            have hq8 : (bs.length : Int) / 8 = (j : Int) := by omega
            have hjb : (j : Int) ≤ 200000 := by have := HK.out.1; have := HDL.out; omega
            obtain ⟨m, hmd⟩ : ∃ m, m = bs.length % 8 := ⟨_, rfl⟩
            have hqm : (bs.length : Int) % 8 = (m : Int) := by omega
            have hm8 : (m : Int) < 8 := by omega
            obtain ⟨q, hrd⟩ : ∃ q, q = 7 - m := ⟨_, rfl⟩
            have hqr : (7 : Int) - (m : Int) = (q : Int) := by omega
            have hr8 : (q : Int) < 8 := by omega
            have hwj : IntKind.i64.wrap (j : Int) = j := by rw [IntKind.wrap_i64]; omega
            have hwm : IntKind.i64.wrap (m : Int) = m := by rw [IntKind.wrap_i64]; omega
            have hwr : IntKind.i64.wrap (q : Int) = q := by rw [IntKind.wrap_i64]; omega
            have hr0 : 0 ≤ (q : Int) := by omega
            have hqt : (bs.length : Int).tmod 8 = (m : Int) := by rw [Int.tmod_eq_emod_of_nonneg (by omega)]; exact hqm
            have hq7 : IntKind.i64.wrap (7 - (m : Int)) = q := by rw [IntKind.wrap_i64]; omega
            have hu8 : IntKind.u8.wrap 0 = 0 := by decide
            obtain ⟨y, hyd⟩ : ∃ y : Nat, y = 0 * 2 ^ q := ⟨_, rfl⟩
            have hy256 : (y : Int) < 256 := by have h1 := bvp_lt false bs.length; rw [show 7 - bs.length % 8 = q by omega] at h1; have h2 : y < 256 := (hyd ▸ h1); omega
            have hy0 : 0 ≤ (y : Int) := by omega
            have HY := Aside0.mk hyd
            have hsh : ∀ w, Sem.run Try.prog (Op.shift BinOp.shl IntKind.u8 0 IntKind.i64 (q : Int)) w = .ok (.int .u8 (y : Int)) w := by rw [hyd]; exact shl8 0 q (by omega) (by omega)
            clear hyd
            have hjl : (j : Int) < ((nI (D ++ [0])).length : Nat) := by omega
            have hj0 : 0 ≤ (j : Int) := by omega
            obtain ⟨x, hx⟩ : ∃ x : Nat, rdOf (0 : Int) (nI (D ++ [0])) ((bs.length : Int) / 8) = x := ⟨((D ++ [0]).getD (bs.length / 8) 0).toNat, rd_get _ _ _ (by omega)⟩
            rw [hx, hq8, Int.toNat_natCast] at hcell
            rw [hq8, Int.toNat_natCast] at hfr
            have hcell2 : w3.drew.cell? _ = _ := hcell
            have hfr2 : w3.drew.frozen? _ = _ := hfr
            have hlt2 : g2 < w3.drew.heap.size := hlt
            have HX := Aside0.mk hx
            have HJM := Aside0.mk (And.intro hjd (And.intro hmd (And.intro hrd hm)))
            clear hx hjd hmd hrd hw8 hj hmz hm
            go_still_tail 13, (by kernel_rfl)
            change wpList _ _ _ _ _ (World.drew _)
            go_wp2_with fail
            clear hcell hfr hcell2 hfr2 hlt2
            go_at_call 25
            obtain ⟨hjd, hmd, hrd, hm⟩ := HJM.out
            have hE : (D ++ [0]) = if bs.length % 8 = 0 then D ++ [0] else D := by first | rw [if_pos (by omega)] | rw [if_neg (by omega)]
            have hset := Kd.R_putn HR3.out (j : Int) (bits .or .u8 (x : Int) 0)
            rw [Int.toNat_natCast] at hset
            have hxd : x = ((D ++ [0]).getD (bs.length / 8) 0).toNat := by have h1 := HX.out; rw [rd_get (D ++ [0]) (bs.length / 8) _ (by omega)] at h1; omega
            have hnb := more_row D (D ++ [0]) bs.length false hE x q 0 hxd (by omega) (by simp [bv])
            rw [← hjd] at hnb
            rw [hnb] at hset
            have hlen := more_len D (D ++ [0]) bs.length false hE
            have hBW := below_drew (Below.setCell HB3.out (p := ⟨g2, j, none⟩) hge (.int .u8 (bits .or .u8 (x : Int) 0)))
            rw [hlen] at hset ⊢
            obtain ⟨_, hc2, hC2⟩ := Kd.R_reads' hset
            rw [nI_len] at hC2
            have hC3 : Kd.C (Kd.int .u8) _ (some ⟨g2, 0, none⟩) (more D bs.length false).length (nI (more D bs.length false)) := Kd.C_below hC2 (below_drew (Below.refl _ _))
            have HBW := Aside0.mk hBW
            have HB7 := Aside0.mk (below_step HBR.out hBW)
            (with_reducible refine (ihl pl Fa (more D bs.length false) (bs ++ [false]) _ (some ⟨g2, 0, none⟩) _ _ (by rw [List.length_append]; simp) (HL.out.below HB7.out) (HK.out.more false) hC3 hc2 (by rw [List.length_append]; have := HDEP.out; simp [depth] at this; simp; omega) (by have := HCNT.out; simp [Tri.cnt] at this; omega)).mono ?_)
            rintro e w5 ⟨v5, rfl, hR5, hB5⟩
            obtain ⟨A5, c5, hv5⟩ := Kd.R_slice hR5
            subst hv5
            have HR5 := Aside0.mk hR5
            have HB5 := Aside0.mk (below_step HBW.out hB5)
            clear hR5 hB5 hset hc2 hC2 hC3 hBW hlen hnb hxd hE hjd hmd hrd hm
            go_wp2_with (first | ((with_reducible refine gate_builtin (b := .append) (xs := #[.tmp 58, .tmp 63]) rfl ?_); at_builtin; refine Kd.R_append_rows k32 (Rr := fun y cs => Kd.K k32 w5 y cs) (w0 := w) w.heap.size rfl (.tmp 58) (.tmp 63) 29 32 (.agg #[.string ⟨#[]⟩, .int .i64 0, .int .i64 0]) 32 rfl (by kernel_rfl) (by kernel_rfl) rfl (by decide) (by omega) _ (part l r (some v) bs 0) (items l (bs ++ [false])) A5 (items l (bs ++ [false])).length c5 (fun _ => True) (fun _ => False) rfl rfl ?cO ?cR (fun y cs h => by rw [k32_open h]; exact k32_mkM _ _ _ _) (fun _ hk => hk.elim) (fun _ _ => trivial) ?cB ?cS ?cL ?_; rotate_left 5; intro v6 w6 ho6 hb6 hg6 hat6; have HR6 := Aside0.mk ho6; have HB6 := Aside0.mk hb6; clear ho6 hb6 hg6 hat6))
            case cO => exact Kd.R_below HO.out HB5.out
            case cR => exact (Kd.R_reads' HR5.out).2.2
            case cB => exact below_step HBR.out HB5.out
            case cS => exact (below_step HBR.out HB5.out).size
            case cL => (have := HCNT.out; simp [Tri.cnt] at this; have h1 := items_length l (bs ++ [false]); have h2 := items_length r (bs ++ [true]); have h3 := own_len (some v) bs; simp only [part, List.length_append, h1, h2]; omega)
            go_roundg (1 - 0)
            case measure => have := HD.out; omega
            case rel => exact ⟨1, rfl, ⟨by have := HD.out; omega⟩, HB6, ⟨HR6.out⟩⟩
          · have hmz : ((bs.length : Int) % 8 == 0) = false := by simp; omega
            go_wp2_with (first | ((with_reducible refine gate_builtin (b := .append) (xs := #[.tmp 36, .tmp 37]) rfl ?_); at_builtin; refine Kd.R_append_row (Value.int .u8) (0 : Int) (h1 := fun _ => rfl) (w0 := wr) wr.heap.size rfl (.tmp 36) (.tmp 37) 57 5 (.int .u8 0) 1 rfl (by kernel_rfl) (by kernel_rfl) rfl (by omega) _ [] (nI D) A D.length c (fun _ => True) rfl rfl (fun _ _ => trivial) ?aO ?aC ?aB ?aS ?aL ?_; rotate_left 5; intro v2 w2 ho2 hb2 hg2 hat2; rw [List.nil_append] at ho2; obtain ⟨A2, c2, hv2⟩ := Kd.R_slice ho2; subst hv2; have HR2 := Aside0.mk ho2; have HB2 := Aside0.mk hb2; clear ho2 hb2 hg2 hat2))
            case aO => exact empty_row wr
            case aC => exact Kd.C_below HCR.out (below_alloc (Below.refl _ _) _)
            case aB => exact below_alloc (Below.refl _ _) _
            case aS => exact (below_alloc (Below.refl _ _) _).size
            case aL => (have := HDL.out; simp; omega)
            have hj : bs.length / 8 < (nI D).length := by have := HK.out.1; simp [nI]; omega
            obtain ⟨g2, cap, hv, hge, hlt, _⟩ := Kd.R_form HR2.out (by omega)
            obtain ⟨rfl, rfl⟩ : A2 = some ⟨g2, 0, none⟩ ∧ c2 = cap := by injection hv; exact ⟨by assumption, by assumption⟩
            clear hv
            obtain ⟨hcell, hfr⟩ := Kd.R_celln (0 : Int) HR2.out ((bs.length : Int) / 8) (by omega) (by omega)
            obtain ⟨j, hjd⟩ : ∃ j, j = bs.length / 8 := ⟨_, rfl⟩
            have hw8 : IntKind.i64.wrap ((bs.length : Int) / 8) = (j : Int) := by rw [IntKind.wrap_i64]; have := HK.out.1; have := HDL.out; omega
            have hq8 : (bs.length : Int) / 8 = (j : Int) := by omega
            have hjb : (j : Int) ≤ 200000 := by have := HK.out.1; have := HDL.out; omega
            obtain ⟨m, hmd⟩ : ∃ m, m = bs.length % 8 := ⟨_, rfl⟩
            have hqm : (bs.length : Int) % 8 = (m : Int) := by omega
            have hm8 : (m : Int) < 8 := by omega
            obtain ⟨q, hrd⟩ : ∃ q, q = 7 - m := ⟨_, rfl⟩
            have hqr : (7 : Int) - (m : Int) = (q : Int) := by omega
            have hr8 : (q : Int) < 8 := by omega
            have hwj : IntKind.i64.wrap (j : Int) = j := by rw [IntKind.wrap_i64]; omega
            have hwm : IntKind.i64.wrap (m : Int) = m := by rw [IntKind.wrap_i64]; omega
            have hwr : IntKind.i64.wrap (q : Int) = q := by rw [IntKind.wrap_i64]; omega
            have hr0 : 0 ≤ (q : Int) := by omega
            have hqt : (bs.length : Int).tmod 8 = (m : Int) := by rw [Int.tmod_eq_emod_of_nonneg (by omega)]; exact hqm
            have hq7 : IntKind.i64.wrap (7 - (m : Int)) = q := by rw [IntKind.wrap_i64]; omega
            have hu8 : IntKind.u8.wrap 0 = 0 := by decide
            obtain ⟨y, hyd⟩ : ∃ y : Nat, y = 0 * 2 ^ q := ⟨_, rfl⟩
            have hy256 : (y : Int) < 256 := by have h1 := bvp_lt false bs.length; rw [show 7 - bs.length % 8 = q by omega] at h1; have h2 : y < 256 := (hyd ▸ h1); omega
            have hy0 : 0 ≤ (y : Int) := by omega
            have HY := Aside0.mk hyd
            have hsh : ∀ w, Sem.run Try.prog (Op.shift BinOp.shl IntKind.u8 0 IntKind.i64 (q : Int)) w = .ok (.int .u8 (y : Int)) w := by rw [hyd]; exact shl8 0 q (by omega) (by omega)
            clear hyd
            have hjl : (j : Int) < ((nI D).length : Nat) := by omega
            have hj0 : 0 ≤ (j : Int) := by omega
            obtain ⟨x, hx⟩ : ∃ x : Nat, rdOf (0 : Int) (nI D) ((bs.length : Int) / 8) = x := ⟨(D.getD (bs.length / 8) 0).toNat, rd_get _ _ _ (by omega)⟩
            rw [hx, hq8, Int.toNat_natCast] at hcell
            rw [hq8, Int.toNat_natCast] at hfr
            have hcell2 : w2.drew.cell? _ = _ := hcell
            have hfr2 : w2.drew.frozen? _ = _ := hfr
            have hlt2 : g2 < w2.drew.heap.size := hlt
            have HX := Aside0.mk hx
            have HJM := Aside0.mk (And.intro hjd (And.intro hmd (And.intro hrd hm)))
            clear hx hjd hmd hrd hw8 hj hmz hm
            go_still_tail 13, (by kernel_rfl)
            change wpList _ _ _ _ _ (World.drew _)
            go_wp2_with fail
            clear hcell hfr hcell2 hfr2 hlt2
            go_at_call 25
            obtain ⟨hjd, hmd, hrd, hm⟩ := HJM.out
            have hE : D = if bs.length % 8 = 0 then D ++ [0] else D := by first | rw [if_pos (by omega)] | rw [if_neg (by omega)]
            have hset := Kd.R_putn HR2.out (j : Int) (bits .or .u8 (x : Int) 0)
            rw [Int.toNat_natCast] at hset
            have hxd : x = (D.getD (bs.length / 8) 0).toNat := by have h1 := HX.out; rw [rd_get D (bs.length / 8) _ (by omega)] at h1; omega
            have hnb := more_row D D bs.length false hE x q 0 hxd (by omega) (by simp [bv])
            rw [← hjd] at hnb
            rw [hnb] at hset
            have hlen := more_len D D bs.length false hE
            have hBW := below_drew (Below.setCell HB2.out (p := ⟨g2, j, none⟩) hge (.int .u8 (bits .or .u8 (x : Int) 0)))
            rw [hlen] at hset ⊢
            obtain ⟨_, hc2, hC2⟩ := Kd.R_reads' hset
            rw [nI_len] at hC2
            have hC3 : Kd.C (Kd.int .u8) _ (some ⟨g2, 0, none⟩) (more D bs.length false).length (nI (more D bs.length false)) := Kd.C_below hC2 (below_drew (Below.refl _ _))
            have HBW := Aside0.mk hBW
            have HB7 := Aside0.mk (below_step HBR.out hBW)
            (with_reducible refine (ihl pl Fa (more D bs.length false) (bs ++ [false]) _ (some ⟨g2, 0, none⟩) _ _ (by rw [List.length_append]; simp) (HL.out.below HB7.out) (HK.out.more false) hC3 hc2 (by rw [List.length_append]; have := HDEP.out; simp [depth] at this; simp; omega) (by have := HCNT.out; simp [Tri.cnt] at this; omega)).mono ?_)
            rintro e w5 ⟨v5, rfl, hR5, hB5⟩
            obtain ⟨A5, c5, hv5⟩ := Kd.R_slice hR5
            subst hv5
            have HR5 := Aside0.mk hR5
            have HB5 := Aside0.mk (below_step HBW.out hB5)
            clear hR5 hB5 hset hc2 hC2 hC3 hBW hlen hnb hxd hE hjd hmd hrd hm
            go_wp2_with (first | ((with_reducible refine gate_builtin (b := .append) (xs := #[.tmp 58, .tmp 63]) rfl ?_); at_builtin; refine Kd.R_append_rows k32 (Rr := fun y cs => Kd.K k32 w5 y cs) (w0 := w) w.heap.size rfl (.tmp 58) (.tmp 63) 29 32 (.agg #[.string ⟨#[]⟩, .int .i64 0, .int .i64 0]) 32 rfl (by kernel_rfl) (by kernel_rfl) rfl (by decide) (by omega) _ (part l r (some v) bs 0) (items l (bs ++ [false])) A5 (items l (bs ++ [false])).length c5 (fun _ => True) (fun _ => False) rfl rfl ?cO ?cR (fun y cs h => by rw [k32_open h]; exact k32_mkM _ _ _ _) (fun _ hk => hk.elim) (fun _ _ => trivial) ?cB ?cS ?cL ?_; rotate_left 5; intro v6 w6 ho6 hb6 hg6 hat6; have HR6 := Aside0.mk ho6; have HB6 := Aside0.mk hb6; clear ho6 hb6 hg6 hat6))
            case cO => exact Kd.R_below HO.out HB5.out
            case cR => exact (Kd.R_reads' HR5.out).2.2
            case cB => exact below_step HBR.out HB5.out
            case cS => exact (below_step HBR.out HB5.out).size
            case cL => (have := HCNT.out; simp [Tri.cnt] at this; have h1 := items_length l (bs ++ [false]); have h2 := items_length r (bs ++ [true]); have h3 := own_len (some v) bs; simp only [part, List.length_append, h1, h2]; omega)
            go_roundg (1 - 0)
            case measure => have := HD.out; omega
            case rel => exact ⟨1, rfl, ⟨by have := HD.out; omega⟩, HB6, ⟨HR6.out⟩⟩
        · subst hk
          have HCR := Aside0.mk (Kd.C_below HC.out HBR.out)
          by_cases hm : bs.length % 8 = 0
          · have hmz : ((bs.length : Int) % 8 == 0) = true := by simp; omega
            go_wp2_with (first | ((with_reducible refine gate_builtin (b := .append) (xs := #[.tmp 36, .tmp 37]) rfl ?_); at_builtin; refine Kd.R_append_row (Value.int .u8) (0 : Int) (h1 := fun _ => rfl) (w0 := wr) wr.heap.size rfl (.tmp 36) (.tmp 37) 57 5 (.int .u8 0) 1 rfl (by kernel_rfl) (by kernel_rfl) rfl (by omega) _ [] (nI D) A D.length c (fun _ => True) rfl rfl (fun _ _ => trivial) ?aO ?aC ?aB ?aS ?aL ?_; rotate_left 5; intro v2 w2 ho2 hb2 hg2 hat2; rw [List.nil_append] at ho2; obtain ⟨A2, c2, hv2⟩ := Kd.R_slice ho2; subst hv2; have HR2 := Aside0.mk ho2; have HB2 := Aside0.mk hb2; clear ho2 hb2 hg2 hat2) | ((with_reducible refine gate_builtin (b := .append) (xs := #[.tmp 42, .tmp 43]) rfl ?_); at_builtin; refine Kd.R_append (Kd.int .u8) (w0 := wr) wr.heap.size rfl (.tmp 42) (.tmp 43) 57 5 (.int .u8 0) 1 rfl (by kernel_rfl) (by kernel_rfl) rfl (by decide) (by omega) (.slice A2 (nI D).length c2) (nI D) 0 [.int .u8 0] (fun _ => True) (fun _ => False) rfl rfl ?bP (fun _ hk => hk.elim) (fun _ _ => trivial) ?bO ?bB ?bS ?bL ?_; rotate_left 5; intro v3 w3 ho3 hb3 hg3 hat3; rw [show nI D ++ [0] = nI (D ++ [0]) by simp [nI]] at ho3; obtain ⟨A3, c3, hv3⟩ := Kd.R_slice ho3; subst hv3; have HR3 := Aside0.mk ho3; have HB3 := Aside0.mk hb3; clear ho3 hb3 hg3 hat3))
            case aO => exact empty_row wr
            case aC => exact Kd.C_below HCR.out (below_alloc (Below.refl _ _) _)
            case aB => exact below_alloc (Below.refl _ _) _
            case aS => exact (below_alloc (Below.refl _ _) _).size
            case aL => (have := HDL.out; simp; omega)
            case bP => rfl
            case bO => exact HR2.out
            case bB => exact HB2.out
            case bS => exact HB2.out.size
            case bL => (have := HDL.out; simp [nI]; omega)
            have hj : bs.length / 8 < (nI (D ++ [0])).length := by have := HK.out.1; simp [nI]; omega
            obtain ⟨g2, cap, hv, hge, hlt, _⟩ := Kd.R_form HR3.out (by omega)
            obtain ⟨rfl, rfl⟩ : A3 = some ⟨g2, 0, none⟩ ∧ c3 = cap := by injection hv; exact ⟨by assumption, by assumption⟩
            clear hv
            obtain ⟨hcell, hfr⟩ := Kd.R_celln (0 : Int) HR3.out ((bs.length : Int) / 8) (by omega) (by omega)
            obtain ⟨j, hjd⟩ : ∃ j, j = bs.length / 8 := ⟨_, rfl⟩
            have hw8 : IntKind.i64.wrap ((bs.length : Int) / 8) = (j : Int) := by rw [IntKind.wrap_i64]; have := HK.out.1; have := HDL.out; omega
            have hq8 : (bs.length : Int) / 8 = (j : Int) := by omega
            have hjb : (j : Int) ≤ 200000 := by have := HK.out.1; have := HDL.out; omega
            obtain ⟨m, hmd⟩ : ∃ m, m = bs.length % 8 := ⟨_, rfl⟩
            have hqm : (bs.length : Int) % 8 = (m : Int) := by omega
            have hm8 : (m : Int) < 8 := by omega
            obtain ⟨q, hrd⟩ : ∃ q, q = 7 - m := ⟨_, rfl⟩
            have hqr : (7 : Int) - (m : Int) = (q : Int) := by omega
            have hr8 : (q : Int) < 8 := by omega
            have hwj : IntKind.i64.wrap (j : Int) = j := by rw [IntKind.wrap_i64]; omega
            have hwm : IntKind.i64.wrap (m : Int) = m := by rw [IntKind.wrap_i64]; omega
            have hwr : IntKind.i64.wrap (q : Int) = q := by rw [IntKind.wrap_i64]; omega
            have hr0 : 0 ≤ (q : Int) := by omega
            have hqt : (bs.length : Int).tmod 8 = (m : Int) := by rw [Int.tmod_eq_emod_of_nonneg (by omega)]; exact hqm
            have hq7 : IntKind.i64.wrap (7 - (m : Int)) = q := by rw [IntKind.wrap_i64]; omega
            have hu8 : IntKind.u8.wrap 1 = 1 := by decide
            obtain ⟨y, hyd⟩ : ∃ y : Nat, y = 1 * 2 ^ q := ⟨_, rfl⟩
            have hy256 : (y : Int) < 256 := by have h1 := bvp_lt true bs.length; rw [show 7 - bs.length % 8 = q by omega] at h1; have h2 : y < 256 := (hyd ▸ h1); omega
            have hy0 : 0 ≤ (y : Int) := by omega
            have HY := Aside0.mk hyd
            have hsh : ∀ w, Sem.run Try.prog (Op.shift BinOp.shl IntKind.u8 1 IntKind.i64 (q : Int)) w = .ok (.int .u8 (y : Int)) w := by rw [hyd]; exact shl8 1 q (by omega) (by omega)
            clear hyd
            have hjl : (j : Int) < ((nI (D ++ [0])).length : Nat) := by omega
            have hj0 : 0 ≤ (j : Int) := by omega
            obtain ⟨x, hx⟩ : ∃ x : Nat, rdOf (0 : Int) (nI (D ++ [0])) ((bs.length : Int) / 8) = x := ⟨((D ++ [0]).getD (bs.length / 8) 0).toNat, rd_get _ _ _ (by omega)⟩
            rw [hx, hq8, Int.toNat_natCast] at hcell
            rw [hq8, Int.toNat_natCast] at hfr
            have hcell2 : w3.drew.cell? _ = _ := hcell
            have hfr2 : w3.drew.frozen? _ = _ := hfr
            have hlt2 : g2 < w3.drew.heap.size := hlt
            have HX := Aside0.mk hx
            have HJM := Aside0.mk (And.intro hjd (And.intro hmd (And.intro hrd hm)))
            clear hx hjd hmd hrd hw8 hj hmz hm
            go_still_tail 13, (by kernel_rfl)
            change wpList _ _ _ _ _ (World.drew _)
            go_wp2_with fail
            clear hcell hfr hcell2 hfr2 hlt2
            go_at_call 25
            have hye : ((2 : Int) ^ q) = (y : Int) := by rw [HY.out]; simp
            rw [show ((2 : Int) ^ q % 256) = (y : Int) by rw [hye]; exact Int.emod_eq_of_lt hy0 hy256]
            obtain ⟨hjd, hmd, hrd, hm⟩ := HJM.out
            have hE : (D ++ [0]) = if bs.length % 8 = 0 then D ++ [0] else D := by first | rw [if_pos (by omega)] | rw [if_neg (by omega)]
            have hset := Kd.R_putn HR3.out (j : Int) (bits .or .u8 (x : Int) (y : Int))
            rw [Int.toNat_natCast] at hset
            have hxd : x = ((D ++ [0]).getD (bs.length / 8) 0).toNat := by have h1 := HX.out; rw [rd_get (D ++ [0]) (bs.length / 8) _ (by omega)] at h1; omega
            have hnb := more_row D (D ++ [0]) bs.length true hE x q (y : Int) hxd (by omega) (by exact congrArg (fun z : Nat => (z : Int)) HY.out)
            rw [← hjd] at hnb
            rw [hnb] at hset
            have hlen := more_len D (D ++ [0]) bs.length true hE
            have hBW := below_drew (Below.setCell HB3.out (p := ⟨g2, j, none⟩) hge (.int .u8 (bits .or .u8 (x : Int) (y : Int))))
            rw [hlen] at hset ⊢
            obtain ⟨_, hc2, hC2⟩ := Kd.R_reads' hset
            rw [nI_len] at hC2
            have hC3 : Kd.C (Kd.int .u8) _ (some ⟨g2, 0, none⟩) (more D bs.length true).length (nI (more D bs.length true)) := Kd.C_below hC2 (below_drew (Below.refl _ _))
            have HBW := Aside0.mk hBW
            have HB7 := Aside0.mk (below_step HBR.out hBW)
            (with_reducible refine (ihr pr Fb (more D bs.length true) (bs ++ [true]) _ (some ⟨g2, 0, none⟩) _ _ (by rw [List.length_append]; simp) (HR.out.below HB7.out) (HK.out.more true) hC3 hc2 (by rw [List.length_append]; have := HDEP.out; simp [depth] at this; simp; omega) (by have := HCNT.out; simp [Tri.cnt] at this; omega)).mono ?_)
            rintro e w5 ⟨v5, rfl, hR5, hB5⟩
            obtain ⟨A5, c5, hv5⟩ := Kd.R_slice hR5
            subst hv5
            have HR5 := Aside0.mk hR5
            have HB5 := Aside0.mk (below_step HBW.out hB5)
            clear hR5 hB5 hset hc2 hC2 hC3 hBW hlen hnb hxd hE hjd hmd hrd hm
            go_wp2_with (first | ((with_reducible refine gate_builtin (b := .append) (xs := #[.tmp 58, .tmp 63]) rfl ?_); at_builtin; refine Kd.R_append_rows k32 (Rr := fun y cs => Kd.K k32 w5 y cs) (w0 := w) w.heap.size rfl (.tmp 58) (.tmp 63) 29 32 (.agg #[.string ⟨#[]⟩, .int .i64 0, .int .i64 0]) 32 rfl (by kernel_rfl) (by kernel_rfl) rfl (by decide) (by omega) _ (part l r (some v) bs 1) (items r (bs ++ [true])) A5 (items r (bs ++ [true])).length c5 (fun _ => True) (fun _ => False) rfl rfl ?cO ?cR (fun y cs h => by rw [k32_open h]; exact k32_mkM _ _ _ _) (fun _ hk => hk.elim) (fun _ _ => trivial) ?cB ?cS ?cL ?_; rotate_left 5; intro v6 w6 ho6 hb6 hg6 hat6; have HR6 := Aside0.mk ho6; have HB6 := Aside0.mk hb6; clear ho6 hb6 hg6 hat6))
            case cO => exact Kd.R_below HO.out HB5.out
            case cR => exact (Kd.R_reads' HR5.out).2.2
            case cB => exact below_step HBR.out HB5.out
            case cS => exact (below_step HBR.out HB5.out).size
            case cL => (have := HCNT.out; simp [Tri.cnt] at this; have h1 := items_length l (bs ++ [false]); have h2 := items_length r (bs ++ [true]); have h3 := own_len (some v) bs; simp only [part, List.length_append, h1, h2]; omega)
            go_roundg (1 - 1)
            case measure => have := HD.out; omega
            case rel => exact ⟨2, rfl, ⟨by have := HD.out; omega⟩, HB6, ⟨HR6.out⟩⟩
          · have hmz : ((bs.length : Int) % 8 == 0) = false := by simp; omega
            go_wp2_with (first | ((with_reducible refine gate_builtin (b := .append) (xs := #[.tmp 36, .tmp 37]) rfl ?_); at_builtin; refine Kd.R_append_row (Value.int .u8) (0 : Int) (h1 := fun _ => rfl) (w0 := wr) wr.heap.size rfl (.tmp 36) (.tmp 37) 57 5 (.int .u8 0) 1 rfl (by kernel_rfl) (by kernel_rfl) rfl (by omega) _ [] (nI D) A D.length c (fun _ => True) rfl rfl (fun _ _ => trivial) ?aO ?aC ?aB ?aS ?aL ?_; rotate_left 5; intro v2 w2 ho2 hb2 hg2 hat2; rw [List.nil_append] at ho2; obtain ⟨A2, c2, hv2⟩ := Kd.R_slice ho2; subst hv2; have HR2 := Aside0.mk ho2; have HB2 := Aside0.mk hb2; clear ho2 hb2 hg2 hat2))
            case aO => exact empty_row wr
            case aC => exact Kd.C_below HCR.out (below_alloc (Below.refl _ _) _)
            case aB => exact below_alloc (Below.refl _ _) _
            case aS => exact (below_alloc (Below.refl _ _) _).size
            case aL => (have := HDL.out; simp; omega)
            have hj : bs.length / 8 < (nI D).length := by have := HK.out.1; simp [nI]; omega
            obtain ⟨g2, cap, hv, hge, hlt, _⟩ := Kd.R_form HR2.out (by omega)
            obtain ⟨rfl, rfl⟩ : A2 = some ⟨g2, 0, none⟩ ∧ c2 = cap := by injection hv; exact ⟨by assumption, by assumption⟩
            clear hv
            obtain ⟨hcell, hfr⟩ := Kd.R_celln (0 : Int) HR2.out ((bs.length : Int) / 8) (by omega) (by omega)
            obtain ⟨j, hjd⟩ : ∃ j, j = bs.length / 8 := ⟨_, rfl⟩
            have hw8 : IntKind.i64.wrap ((bs.length : Int) / 8) = (j : Int) := by rw [IntKind.wrap_i64]; have := HK.out.1; have := HDL.out; omega
            have hq8 : (bs.length : Int) / 8 = (j : Int) := by omega
            have hjb : (j : Int) ≤ 200000 := by have := HK.out.1; have := HDL.out; omega
            obtain ⟨m, hmd⟩ : ∃ m, m = bs.length % 8 := ⟨_, rfl⟩
            have hqm : (bs.length : Int) % 8 = (m : Int) := by omega
            have hm8 : (m : Int) < 8 := by omega
            obtain ⟨q, hrd⟩ : ∃ q, q = 7 - m := ⟨_, rfl⟩
            have hqr : (7 : Int) - (m : Int) = (q : Int) := by omega
            have hr8 : (q : Int) < 8 := by omega
            have hwj : IntKind.i64.wrap (j : Int) = j := by rw [IntKind.wrap_i64]; omega
            have hwm : IntKind.i64.wrap (m : Int) = m := by rw [IntKind.wrap_i64]; omega
            have hwr : IntKind.i64.wrap (q : Int) = q := by rw [IntKind.wrap_i64]; omega
            have hr0 : 0 ≤ (q : Int) := by omega
            have hqt : (bs.length : Int).tmod 8 = (m : Int) := by rw [Int.tmod_eq_emod_of_nonneg (by omega)]; exact hqm
            have hq7 : IntKind.i64.wrap (7 - (m : Int)) = q := by rw [IntKind.wrap_i64]; omega
            have hu8 : IntKind.u8.wrap 1 = 1 := by decide
            obtain ⟨y, hyd⟩ : ∃ y : Nat, y = 1 * 2 ^ q := ⟨_, rfl⟩
            have hy256 : (y : Int) < 256 := by have h1 := bvp_lt true bs.length; rw [show 7 - bs.length % 8 = q by omega] at h1; have h2 : y < 256 := (hyd ▸ h1); omega
            have hy0 : 0 ≤ (y : Int) := by omega
            have HY := Aside0.mk hyd
            have hsh : ∀ w, Sem.run Try.prog (Op.shift BinOp.shl IntKind.u8 1 IntKind.i64 (q : Int)) w = .ok (.int .u8 (y : Int)) w := by rw [hyd]; exact shl8 1 q (by omega) (by omega)
            clear hyd
            have hjl : (j : Int) < ((nI D).length : Nat) := by omega
            have hj0 : 0 ≤ (j : Int) := by omega
            obtain ⟨x, hx⟩ : ∃ x : Nat, rdOf (0 : Int) (nI D) ((bs.length : Int) / 8) = x := ⟨(D.getD (bs.length / 8) 0).toNat, rd_get _ _ _ (by omega)⟩
            rw [hx, hq8, Int.toNat_natCast] at hcell
            rw [hq8, Int.toNat_natCast] at hfr
            have hcell2 : w2.drew.cell? _ = _ := hcell
            have hfr2 : w2.drew.frozen? _ = _ := hfr
            have hlt2 : g2 < w2.drew.heap.size := hlt
            have HX := Aside0.mk hx
            have HJM := Aside0.mk (And.intro hjd (And.intro hmd (And.intro hrd hm)))
            clear hx hjd hmd hrd hw8 hj hmz hm
            go_still_tail 13, (by kernel_rfl)
            change wpList _ _ _ _ _ (World.drew _)
            go_wp2_with fail
            clear hcell hfr hcell2 hfr2 hlt2
            go_at_call 25
            have hye : ((2 : Int) ^ q) = (y : Int) := by rw [HY.out]; simp
            rw [show ((2 : Int) ^ q % 256) = (y : Int) by rw [hye]; exact Int.emod_eq_of_lt hy0 hy256]
            obtain ⟨hjd, hmd, hrd, hm⟩ := HJM.out
            have hE : D = if bs.length % 8 = 0 then D ++ [0] else D := by first | rw [if_pos (by omega)] | rw [if_neg (by omega)]
            have hset := Kd.R_putn HR2.out (j : Int) (bits .or .u8 (x : Int) (y : Int))
            rw [Int.toNat_natCast] at hset
            have hxd : x = (D.getD (bs.length / 8) 0).toNat := by have h1 := HX.out; rw [rd_get D (bs.length / 8) _ (by omega)] at h1; omega
            have hnb := more_row D D bs.length true hE x q (y : Int) hxd (by omega) (by exact congrArg (fun z : Nat => (z : Int)) HY.out)
            rw [← hjd] at hnb
            rw [hnb] at hset
            have hlen := more_len D D bs.length true hE
            have hBW := below_drew (Below.setCell HB2.out (p := ⟨g2, j, none⟩) hge (.int .u8 (bits .or .u8 (x : Int) (y : Int))))
            rw [hlen] at hset ⊢
            obtain ⟨_, hc2, hC2⟩ := Kd.R_reads' hset
            rw [nI_len] at hC2
            have hC3 : Kd.C (Kd.int .u8) _ (some ⟨g2, 0, none⟩) (more D bs.length true).length (nI (more D bs.length true)) := Kd.C_below hC2 (below_drew (Below.refl _ _))
            have HBW := Aside0.mk hBW
            have HB7 := Aside0.mk (below_step HBR.out hBW)
            (with_reducible refine (ihr pr Fb (more D bs.length true) (bs ++ [true]) _ (some ⟨g2, 0, none⟩) _ _ (by rw [List.length_append]; simp) (HR.out.below HB7.out) (HK.out.more true) hC3 hc2 (by rw [List.length_append]; have := HDEP.out; simp [depth] at this; simp; omega) (by have := HCNT.out; simp [Tri.cnt] at this; omega)).mono ?_)
            rintro e w5 ⟨v5, rfl, hR5, hB5⟩
            obtain ⟨A5, c5, hv5⟩ := Kd.R_slice hR5
            subst hv5
            have HR5 := Aside0.mk hR5
            have HB5 := Aside0.mk (below_step HBW.out hB5)
            clear hR5 hB5 hset hc2 hC2 hC3 hBW hlen hnb hxd hE hjd hmd hrd hm
            go_wp2_with (first | ((with_reducible refine gate_builtin (b := .append) (xs := #[.tmp 58, .tmp 63]) rfl ?_); at_builtin; refine Kd.R_append_rows k32 (Rr := fun y cs => Kd.K k32 w5 y cs) (w0 := w) w.heap.size rfl (.tmp 58) (.tmp 63) 29 32 (.agg #[.string ⟨#[]⟩, .int .i64 0, .int .i64 0]) 32 rfl (by kernel_rfl) (by kernel_rfl) rfl (by decide) (by omega) _ (part l r (some v) bs 1) (items r (bs ++ [true])) A5 (items r (bs ++ [true])).length c5 (fun _ => True) (fun _ => False) rfl rfl ?cO ?cR (fun y cs h => by rw [k32_open h]; exact k32_mkM _ _ _ _) (fun _ hk => hk.elim) (fun _ _ => trivial) ?cB ?cS ?cL ?_; rotate_left 5; intro v6 w6 ho6 hb6 hg6 hat6; have HR6 := Aside0.mk ho6; have HB6 := Aside0.mk hb6; clear ho6 hb6 hg6 hat6))
            case cO => exact Kd.R_below HO.out HB5.out
            case cR => exact (Kd.R_reads' HR5.out).2.2
            case cB => exact below_step HBR.out HB5.out
            case cS => exact (below_step HBR.out HB5.out).size
            case cL => (have := HCNT.out; simp [Tri.cnt] at this; have h1 := items_length l (bs ++ [false]); have h2 := items_length r (bs ++ [true]); have h3 := own_len (some v) bs; simp only [part, List.length_append, h1, h2]; omega)
            go_roundg (1 - 1)
            case measure => have := HD.out; omega
            case rel => exact ⟨2, rfl, ⟨by have := HD.out; omega⟩, HB6, ⟨HR6.out⟩⟩
        · subst hk
          go_wp2_with fail
          go_ret
          exact ⟨_, rfl, by rw [items_node, ← List.append_assoc]; exact HO.out, HBR.out⟩

end Go.Proofs.Ytpchlnbnpgaocaa.PTrie
