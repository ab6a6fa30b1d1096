/- A region that draws its order, walked over a frame that is a variable: what yields in every world is taken first, calls are met one at a time. -/
import Derived.WalkKit
import Derived.RegionTactic
import Derived.BigFrame
import Derived.Deep.RegionHeld
namespace Go.Proofs.Ytpchlnbnpgaocaa.KReg
open Go
set_option linter.unusedVariables false
section
variable {P : Program} {ops : Array Oper} {Q : Exit → Act → World → Prop} {md : Region.Mode}
theorem any_var {n : Nat} {l : Array Bool} {a : Act} {w : World} (h : ∀ a', a' = a → wpAny P md ops Q n l a' w) : wpAny P md ops Q n l a w := h a rfl
theorem size_put (a : Act) (d : Option Tmp) (v : Value) : (a.put d v).tmps.size = a.tmps.size := by
  cases d <;> simp [Act.put]
theorem ev_put (a : Act) (d t : Nat) (v : Value) (h : d < a.tmps.size) : (a.put (some d) v).eval (.tmp t) = if d = t then v else a.eval (.tmp t) := by
  by_cases e : d = t
  · subst e; rw [if_pos rfl]
    simp [Act.eval, Act.put, Array.getD_eq_getD_getElem?, h]
  · rw [if_neg e]
    simp [Act.eval, Act.put, Array.getD_eq_getD_getElem?, Array.getElem?_setIfInBounds_ne e]
theorem ev_const (a : Act) (v : Value) : a.eval (.const v) = v := rfl
/-- The frame a, of which this is known: it has at least n slots. -/
class Fr (n : outParam Nat) (a : Act) : Prop where
  sz : n ≤ a.tmps.size
instance Fr.put {n : Nat} {a : Act} [h : Fr n a] (d : Option Tmp) (v : Value) : Fr n (a.put d v) := ⟨by rw [size_put]; exact h.sz⟩
theorem ev_eq {n : Nat} {a : Act} [h : Fr n a] {d : Nat} {v : Value} (hd : d < n) : (a.put (some d) v).eval (.tmp d) = v := by rw [ev_put _ _ _ _ (Nat.lt_of_lt_of_le hd h.sz), if_pos rfl]
theorem ev_ne {a : Act} {d t : Nat} {v u : Value} (hne : d ≠ t) (hu : a.eval (.tmp t) = u) : (a.put (some d) v).eval (.tmp t) = u := by
  rw [← hu]; simp [Act.eval, Act.put, Array.getD_eq_getD_getElem?, Array.getElem?_setIfInBounds_ne hne]
theorem ne_n {a : Act} {t : Nat} {v u : Value} (hu : a.eval (.tmp t) = u) : (a.put none v).eval (.tmp t) = u := hu
theorem wanted_none {o : Oper} {a : Act} (h : o.guard = none) : Region.wanted o (yielded ops a.tmps) = true := by simp [Region.wanted, h]
theorem wanted_of {o og : Oper} {a : Act} {g d : Nat} {b : Bool} (h : o.guard = some (g, b)) (hg : ops[g]? = some og) (hd : og.dst = some d) (hb : a.eval (.tmp d) = .bool b) : Region.wanted o (yielded ops a.tmps) = true := by
  have : yielded ops a.tmps g = some b := by
    unfold yielded
    rw [hg]
    simp only [Option.bind_some, hd]
    simp only [Act.eval, Array.getD_eq_getD_getElem?] at hb
    cases ht : a.tmps[d]? with
    | none => rw [ht] at hb; simp [undef] at hb
    | some x => rw [ht] at hb; simp at hb; subst hb; rfl
  simp [Region.wanted, h, this]
theorem reg_done {fuel : Nat} {listed : Array Bool} {a : Act} {w : World} (hr : Region.ready md ops listed = []) (h : Q .normal a w) : wpAny P md ops Q fuel listed a w := wpAny_done hr h fuel
/-- What yields in every world is taken first. -/
theorem reg_pure (i : Nat) (d : Option Tmp) {o : Oper} {v : Value} {fuel : Nat} {listed : Array Bool} {a : Act} {w : World} (hi : ops[i]? = some o) (hs : Region.noSelect ops = true)
    (hf : Region.free md ops listed i = true) (hr : (Region.ready md ops listed).contains i = true) (hd : o.dst = d) (hQ : ∀ c a w, Q (.panic c) (a.put d v) w → Q (.panic c) a w) (hw : Region.wanted o (yielded ops a.tmps) = true)
    (hrun : ∀ w, (execOp a.eval o).run P w = .ok (.value v) w) (h : wpAny P md ops Q fuel (listed.setIfInBounds i true) (a.put d v) w) : wpAny P md ops Q (fuel + 1) listed a w := by
  subst hd; exact wpAny_take hi hs hf hr hQ (.inl ⟨hw, hrun⟩) h
/-- One operation alone may come up, a call of a Go function. -/
theorem reg_call (i : Nat) (d : Option Tmp) (f : FuncId) (args : Array Value) {o : Oper} {fuel : Nat} {listed : Array Bool} {a : Act} {w : World} {xs : Array Operand} {ats : Array TypeId} {R : Ending → World → Prop} (hr : Region.ready md ops listed = [i])
    (hi : ops[i]? = some o) (hd : o.dst = d) (hw : Region.wanted o (yielded ops a.tmps) = true) (ho : o.op = .call { callee := .value (.func f), args := xs, argTypes := ats }) (ha : xs.map a.eval = args)
    (hf : ∀ args w, (callFunc f args).run P w = .ok (.enter f args) w) (hc : Calls P f args w R) (h : ∀ e w', R e w' → ∃ v, e = .returned v ∧ wpAny P md ops Q fuel (listed.setIfInBounds i true) (a.put d v) w') : wpAny P md ops Q (fuel + 1) listed a w := by
  subst hd
  refine wpAny_ready (rs := [i]) hr (by simp) (AllReady.cons hi (fun K hK => ?_) AllReady.nil)
  rw [if_pos hw]
  have : (execOp a.eval o).run P w = .ok (.enter f args) w := by
    subst ha
    unfold execOp
    rw [ho]
    simp [resolve, Deferred.ofValue, Act.eval, invoke, hf]
  unfold Oper.wp
  rw [this, Oper.upon_enter]
  refine hc.mono fun e w' hR => ?_
  obtain ⟨v, rfl, hk⟩ := h e w' hR
  exact hK _ _ hk
/-! Several may come up: a branch for each. -/
theorem br_load (i : Nat) (d : Option Tmp) {o : Oper} {v : Value} {rs : List Nat} {fuel : Nat} {listed : Array Bool} {a : Act} {w : World} (hi : ops[i]? = some o) (hd : o.dst = d) (hw : Region.wanted o (yielded ops a.tmps) = true)
    (hv : (execOp a.eval o).run P w = .ok (.value v) w) (h : wpAny P md ops Q fuel (listed.setIfInBounds i true) (a.put d v) w) (hs : AllReady P md ops Q fuel listed a w rs) : AllReady P md ops Q fuel listed a w (i :: rs) := by
  subst hd
  refine AllReady.cons hi (fun K hK => ?_) hs
  rw [if_pos hw]
  unfold Oper.wp
  rw [hv, Oper.upon_value]; exact hK _ _ h
theorem br_store (i : Nat) {o : Oper} {t : TypeId} {x y : Operand} {vx vy : Value} {rs : List Nat} {fuel : Nat} {listed : Array Bool} {a : Act} {w w' : World} (hi : ops[i]? = some o) (hd : o.dst = none) (hw : Region.wanted o (yielded ops a.tmps) = true)
    (ho : o.op = .store t x y) (hx : a.eval x = vx) (hy : a.eval y = vy) (hv : (Instr.storeAt t vx vy : Sem Unit).run P w = .ok () w') (h : wpAny P md ops Q fuel (listed.setIfInBounds i true) (a.put none undef) w') (hs : AllReady P md ops Q fuel listed a w rs) : AllReady P md ops Q fuel listed a w (i :: rs) := by
  refine AllReady.cons hi (fun K hK => ?_) hs
  rw [if_pos hw]
  have : (execOp a.eval o).run P w = .ok .skip w' := by
    subst hx hy
    unfold execOp
    rw [ho]
    simp only [Sem.run_bind, hv, Result.andThen_ok]; rfl
  unfold Oper.wp
  rw [this, Oper.upon_skip, hd]; exact hK _ _ h
theorem br_call (i : Nat) (d : Option Tmp) (f : FuncId) (args : Array Value) {o : Oper} {rs : List Nat} {fuel : Nat} {listed : Array Bool} {a : Act} {w : World} {xs : Array Operand} {ats : Array TypeId} {R : Ending → World → Prop}
    (hi : ops[i]? = some o) (hd : o.dst = d) (hw : Region.wanted o (yielded ops a.tmps) = true) (ho : o.op = .call { callee := .value (.func f), args := xs, argTypes := ats }) (ha : xs.map a.eval = args)
    (hf : ∀ args w, (callFunc f args).run P w = .ok (.enter f args) w) (hc : Calls P f args w R) (h : ∀ e w', R e w' → ∃ v, e = .returned v ∧ wpAny P md ops Q fuel (listed.setIfInBounds i true) (a.put d v) w') (hs : AllReady P md ops Q fuel listed a w rs) : AllReady P md ops Q fuel listed a w (i :: rs) := by
  subst hd
  refine AllReady.cons hi (fun K hK => ?_) hs
  rw [if_pos hw]
  have : (execOp a.eval o).run P w = .ok (.enter f args) w := by
    subst ha
    unfold execOp
    rw [ho]
    simp [resolve, Deferred.ofValue, Act.eval, invoke, hf]
  unfold Oper.wp
  rw [this, Oper.upon_enter]
  refine hc.mono fun e w' hR => ?_
  obtain ⟨v, rfl, hk⟩ := h e w' hR
  exact hK _ _ hk
/-- Two reads alone may come up: in either order. -/
theorem reg_two (i j : Nat) (di dj : Nat) {oi oj : Oper} {vi vj : Value} {fuel : Nat} {listed : Array Bool} {a : Act} {w : World} (hij : i ≠ j) (hdd : di ≠ dj) (hr : Region.ready md ops listed = [i, j])
    (hri : Region.ready md ops (listed.setIfInBounds i true) = [j]) (hrj : Region.ready md ops (listed.setIfInBounds j true) = [i]) (hoi : ops[i]? = some oi) (hoj : ops[j]? = some oj) (hdi : oi.dst = some di) (hdj : oj.dst = some dj)
    (hwi : Region.wanted oi (yielded ops a.tmps) = true) (hwj : Region.wanted oj (yielded ops a.tmps) = true) (hwi' : Region.wanted oi (yielded ops (a.put (some dj) vj).tmps) = true) (hwj' : Region.wanted oj (yielded ops (a.put (some di) vi).tmps) = true)
    (hvi : (execOp a.eval oi).run P w = .ok (.value vi) w) (hvj : (execOp a.eval oj).run P w = .ok (.value vj) w) (hvi' : (execOp (a.put (some dj) vj).eval oi).run P w = .ok (.value vi) w) (hvj' : (execOp (a.put (some di) vi).eval oj).run P w = .ok (.value vj) w)
    (h : wpAny P md ops Q fuel ((listed.setIfInBounds i true).setIfInBounds j true) ((a.put (some di) vi).put (some dj) vj) w) : wpAny P md ops Q (fuel + 2) listed a w := by
  have one : ∀ (n : Nat) (o : Oper) (d : Nat) (v : Value) (b : Act) (K : Act → World → Prop), o.dst = some d → Region.wanted o (yielded ops b.tmps) = true → (execOp b.eval o).run P w = .ok (.value v) w → K (b.put (some d) v) w → if Region.wanted o (yielded ops b.tmps) = true then Oper.wp P o b w K Q else K (b.put o.dst undef) w := by
    intro n o d v b K hd hw hv hk
    rw [if_pos hw]
    unfold Oper.wp
    rw [hv, Oper.upon_value, hd]; exact hk
  have hc1 : (listed.setIfInBounds j true).setIfInBounds i true = (listed.setIfInBounds i true).setIfInBounds j true := (Array.setIfInBounds_comm true true hij).symm
  have hc2 : (a.put (some dj) vj).put (some di) vi = (a.put (some di) vi).put (some dj) vj := (Act.put_comm a vi vj (fun d hd he => hdd (by cases hd; cases he; rfl))).symm
  refine wpAny_ready (rs := [i, j]) hr (by simp) (AllReady.cons hoi (fun K hK => ?_) (AllReady.cons hoj (fun K hK => ?_) AllReady.nil))
  · refine one i oi di vi a K hdi hwi hvi (hK _ _ (wpAny_ready (rs := [j]) hri (by simp) (AllReady.cons hoj (fun K' hK' => ?_) AllReady.nil)))
    exact one j oj dj vj _ K' hdj hwj' hvj' (hK' _ _ h)
  · refine one j oj dj vj a K hdj hwj hvj (hK _ _ (wpAny_ready (rs := [i]) hrj (by simp) (AllReady.cons hoi (fun K' hK' => ?_) AllReady.nil)))
    refine one i oi di vi _ K' hdi hwi' hvi' (hK' _ _ ?_)
    rw [hc1, hc2]; exact h
/-! The same, with what holds of each world on the way: loads are taken first, too. -/
section
variable {S : World → Prop}
theorem held_var {n : Nat} {l : Array Bool} {a : Act} {w : World} (h : ∀ a', a' = a → wpAnyH P md ops Q S n l a' w) : wpAnyH P md ops Q S n l a w := h a rfl
theorem held_done {fuel : Nat} {listed : Array Bool} {a : Act} {w : World} (hr : Region.ready md ops listed = []) (h : Q .normal a w) : wpAnyH P md ops Q S fuel listed a w := wpAnyH_done hr h fuel
theorem held_pure (i : Nat) (d : Option Tmp) {o : Oper} {v : Value} {fuel : Nat} {listed : Array Bool} {a : Act} {w : World} (hi : ops[i]? = some o) (hs : Region.noSelect ops = true)
    (hf : Region.free md ops listed i = true) (hr : (Region.ready md ops listed).contains i = true) (hd : o.dst = d) (hQ : ∀ c a w, Q (.panic c) (a.put d v) w → Q (.panic c) a w) (hw : Region.wanted o (yielded ops a.tmps) = true)
    (hS : S w) (hrun : ∀ w, S w → (execOp a.eval o).run P w = .ok (.value v) w) (h : wpAnyH P md ops Q S fuel (listed.setIfInBounds i true) (a.put d v) w) : wpAnyH P md ops Q S (fuel + 1) listed a w := by
  subst hd; exact wpAnyH_take hi hs hf hr hQ (.inl ⟨hw, hrun⟩) hS h
theorem held_call (i : Nat) (d : Option Tmp) (f : FuncId) (args : Array Value) {o : Oper} {fuel : Nat} {listed : Array Bool} {a : Act} {w : World} {xs : Array Operand} {ats : Array TypeId} {R : Ending → World → Prop} (hr : Region.ready md ops listed = [i])
    (hi : ops[i]? = some o) (hd : o.dst = d) (hw : Region.wanted o (yielded ops a.tmps) = true) (ho : o.op = .call { callee := .value (.func f), args := xs, argTypes := ats }) (ha : xs.map a.eval = args)
    (hf : ∀ args w, (callFunc f args).run P w = .ok (.enter f args) w) (hc : Calls P f args w R) (h : ∀ e w', R e w' → ∃ v, e = .returned v ∧ S w' ∧ (S w' → wpAnyH P md ops Q S fuel (listed.setIfInBounds i true) (a.put d v) w')) : wpAnyH P md ops Q S (fuel + 1) listed a w := by
  subst hd
  refine wpAnyH_ready (rs := [i]) hr (by simp) (AllReadyH.cons hi (fun K hK => ?_) AllReadyH.nil)
  rw [if_pos hw]
  have : (execOp a.eval o).run P w = .ok (.enter f args) w := by
    subst ha
    unfold execOp
    rw [ho]
    simp [resolve, Deferred.ofValue, Act.eval, invoke, hf]
  unfold Oper.wp
  rw [this, Oper.upon_enter]
  refine hc.mono fun e w' hR => ?_
  obtain ⟨v, rfl, h1, h2⟩ := h e w' hR
  exact hK _ _ h1 h2
end
theorem map0 {ρ : Operand → Value} : (#[] : Array Operand).map ρ = #[] := by simp
theorem map1 {ρ : Operand → Value} {x : Operand} {u : Value} (h : ρ x = u) : #[x].map ρ = #[u] := by subst h; simp
theorem map2 {ρ : Operand → Value} {x y : Operand} {u v : Value} (h : ρ x = u) (k : ρ y = v) : #[x, y].map ρ = #[u, v] := by subst h k; simp
theorem map3 {ρ : Operand → Value} {x y z : Operand} {u v s : Value} (h : ρ x = u) (k : ρ y = v) (l : ρ z = s) : #[x, y, z].map ρ = #[u, v, s] := by subst h k l; simp
theorem map4 {ρ : Operand → Value} {x y z q : Operand} {u v s r : Value} (h : ρ x = u) (k : ρ y = v) (l : ρ z = s) (m : ρ q = r) : #[x, y, z, q].map ρ = #[u, v, s, r] := by subst h k l m; simp
section
variable {ρ : Operand → Value} {o : Oper}
theorem ro_move {x : Operand} {v : Value} (h : o.op = .move x ∨ o.op = .assign x) (hv : ρ x = v) (w : World) : (execOp ρ o).run P w = .ok (.value v) w := by
  subst hv; unfold execOp; rcases h with h | h <;> rw [h] <;> rfl
theorem ro_bin {b : BinOp} {t t2 : TypeId} {x y : Operand} {vx vy v : Value} (h : o.op = .binOp b t x y t2) (hx : ρ x = vx) (hy : ρ y = vy)
    (hr : ∀ w, (do eqGuard b t x y vx vy; binOp b t vx vy : Sem Value).run P w = .ok v w) (w : World) : (execOp ρ o).run P w = .ok (.value v) w := by
  subst hx hy
  have := hr w
  unfold execOp; rw [h]
  simp only [Sem.run_bind, bind_assoc] at this ⊢
  cases he : Sem.run P (eqGuard b t x y (ρ x) (ρ y)) w with
  | ok u w1 =>
    rw [he] at this
    simp only [Result.andThen_ok] at this ⊢
    rw [this]; rfl
  | halt u w1 =>
    rw [he] at this
    exact absurd this (by intro hh; cases hh)
theorem ro_pickf {c x y : Operand} {v : Value} (h : o.op = .pick c x y) (hc : ρ c = .bool false) (hy : ρ y = v) (w : World) : (execOp ρ o).run P w = .ok (.value v) w := by
  subst hy; unfold execOp; rw [h]; simp [hc, asBool]
theorem ro_pickt {c x y : Operand} {v : Value} (h : o.op = .pick c x y) (hc : ρ c = .bool true) (hx : ρ x = v) (w : World) : (execOp ρ o).run P w = .ok (.value v) w := by
  subst hx; unfold execOp; rw [h]; simp [hc, asBool]
theorem ro_slice {t : TypeId} {x : Operand} {lo hi mx : Option Operand} {vx v : Value} {vl vh : Option Value} (h : o.op = .slice t x lo hi mx) (hx : ρ x = vx) (hl : lo.map ρ = vl) (hh : hi.map ρ = vh)
    (hr : ∀ w, (Instr.sliceAt t vx vl vh (mx.map ρ) : Sem Value).run P w = .ok v w) (w : World) : (execOp ρ o).run P w = .ok (.value v) w := by
  subst hx hl hh
  unfold execOp; rw [h]
  simp only [Sem.run_bind, hr w, Result.andThen_ok]; rfl
theorem ro_len {b : Builtin} {x : Operand} {ats : Array TypeId} {vx v : Value} (h : o.op = .call { callee := .builtin b, args := #[x], argTypes := ats }) (hx : ρ x = vx)
    (hr : ∀ w, (builtin b ats o.type (#[x].map fun | .const _ => true | _ => false) #[vx] : Sem Next).run P w = .ok (.value v) w) (w : World) : (execOp ρ o).run P w = .ok (.value v) w := by
  have hm := map1 hx
  unfold execOp; rw [h]
  simp only [resolve, hm, invoke, pure_bind]
  exact hr w
theorem ro_load {t : TypeId} {x : Operand} {vx v : Value} {w : World} (h : o.op = .load t x) (hx : ρ x = vx) (hr : (Instr.loadAt t vx : Sem Value).run P w = .ok v w) : (execOp ρ o).run P w = .ok (.value v) w := by
  subst hx
  unfold execOp; rw [h]
  simp only [Sem.run_bind, hr, Result.andThen_ok]; rfl
theorem ro_unOp {u : UnOp} {t : TypeId} {x : Operand} {vx v : Value} (h : o.op = .unOp u t x) (hx : ρ x = vx) (hr : ∀ w, (Op.unary u vx : Sem Value).run P w = .ok v w) (w : World) : (execOp ρ o).run P w = .ok (.value v) w := by
  subst hx
  unfold execOp; rw [h]
  simp only [Sem.run_bind, hr w, Result.andThen_ok]; rfl
theorem ro_build0 {t : TypeId} {parts : Array (Nat × Operand)} {pv : Array (Nat × Value)} {v : Value} (h : o.op = .build t parts) (hp : (parts.map fun (i, x) => (i, ρ x)) = pv) (hr : ∀ w, (Instr.build t pv : Sem Value).run P w = .ok v w) (w : World) : (execOp ρ o).run P w = .ok (.value v) w := by
  subst hp
  unfold execOp; rw [h]
  simp only [Sem.run_bind, hr w, Result.andThen_ok]; rfl
theorem ro_extract {x : Operand} {i : Nat} {vx v : Value} (h : o.op = .extract x i) (hx : ρ x = vx) (hr : ∀ w, (Instr.extract vx i : Sem Value).run P w = .ok v w) (w : World) : (execOp ρ o).run P w = .ok (.value v) w := by
  subst hx
  unfold execOp; rw [h]
  simp only [Sem.run_bind, hr w, Result.andThen_ok]; rfl
theorem ro_nil {x : Operand} {p : Addr} (h : o.op = .nilCheck x) (hx : ρ x = .pointer (some p)) (w : World) : (execOp ρ o).run P w = .ok (.value (.pointer (some p))) w := by
  unfold execOp; rw [h]
  simp only [hx]; rfl
theorem ro_field {t : TypeId} {x : Operand} {f : Nat} {vx v : Value} (h : o.op = .fieldAddr t x f) (hx : ρ x = vx) (hr : ∀ w, (Instr.fieldAt t vx f : Sem Value).run P w = .ok v w) (w : World) : (execOp ρ o).run P w = .ok (.value v) w := by
  subst hx
  unfold execOp; rw [h]
  simp only [Sem.run_bind, hr w, Result.andThen_ok]; rfl
theorem ro_iaddr {t : TypeId} {x y : Operand} {vx vy v : Value} (h : o.op = .indexAddr t x y) (hx : ρ x = vx) (hy : ρ y = vy) (hr : ∀ w, (Instr.indexAt t vx vy : Sem Value).run P w = .ok v w) (w : World) : (execOp ρ o).run P w = .ok (.value v) w := by
  subst hx hy
  unfold execOp; rw [h]
  simp only [Sem.run_bind, hr w, Result.andThen_ok]; rfl
theorem ro_conv {t t2 : TypeId} {x : Operand} {vx v : Value} (h : o.op = .convert t t2 x) (hx : ρ x = vx) (hr : ∀ w, (convert t t2 vx : Sem Value).run P w = .ok v w) (w : World) : (execOp ρ o).run P w = .ok (.value v) w := by
  subst hx
  unfold execOp; rw [h]
  simp only [Sem.run_bind, hr w, Result.andThen_ok]; rfl
end
end
end Go.Proofs.Ytpchlnbnpgaocaa.KReg
