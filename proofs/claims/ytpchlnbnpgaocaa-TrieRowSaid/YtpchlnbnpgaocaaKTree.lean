/- A trie of bits, in plain Lean: what is put, got, taken out, told and found. -/
namespace Go.Proofs.Ytpchlnbnpgaocaa.KTree
/-- A node, or nothing. -/
inductive Tri where
  | nil : Tri
  | node : Tri → Tri → Option Int → Tri
deriving DecidableEq
namespace Tri
def left : Tri → Tri | .nil => .nil | .node l _ _ => l
def right : Tri → Tri | .nil => .nil | .node _ r _ => r
def val : Tri → Option Int | .nil => none | .node _ _ o => o
def kid (b : Bool) (t : Tri) : Tri := if b then t.right else t.left
def get : List Bool → Tri → Option Int
  | [], t => t.val
  | b :: bs, t => get bs (t.kid b)
def put (v : Int) : List Bool → Tri → Tri
  | [], t => .node t.left t.right (some v)
  | false :: bs, t => .node (put v bs t.left) t.right t.val
  | true :: bs, t => .node t.left (put v bs t.right) t.val
/-- A node with nothing is none. -/
def trim : Tri → Tri
  | .node .nil .nil none => .nil
  | t => t
/-- The value at a place is taken away. -/
def clear : List Bool → Tri → Tri
  | _, .nil => .nil
  | [], .node l r _ => .node l r none
  | false :: bs, .node l r o => .node (clear bs l) r o
  | true :: bs, .node l r o => .node l (clear bs r) o
/-- Nodes with nothing on the way are taken away, but for the first. -/
def prune : List Bool → Tri → Tri
  | _, .nil => .nil
  | [], .node l r o => .node l r o
  | false :: bs, .node l r o => .node (trim (prune bs l)) r o
  | true :: bs, .node l r o => .node l (trim (prune bs r)) o
def del (bs : List Bool) (t : Tri) : Tri := prune bs (clear bs t)
theorem get_nil : ∀ bs, get bs .nil = none
  | [] => rfl
  | b :: bs => by
    have : (Tri.nil).kid b = .nil := by cases b <;> rfl
    rw [get, this]; exact get_nil bs
theorem get_trim (bs : List Bool) (t : Tri) : get bs (trim t) = get bs t := by
  unfold trim
  split
  · rw [get_nil]
    cases bs with
    | nil => rfl
    | cons b bs => cases b <;> simp [get, kid, left, right, get_nil]
  · rfl
theorem get_put (v : Int) : ∀ (bs cs : List Bool) (t : Tri), get cs (put v bs t) = if cs = bs then some v else get cs t
  | [], [], t => by simp [put, get, val]
  | [], c :: cs, t => by cases c <;> simp [put, get, kid, left, right]
  | false :: bs, [], t => by simp [put, get, val]
  | true :: bs, [], t => by simp [put, get, val]
  | false :: bs, false :: cs, t => by simp [put, get, kid, left, get_put v bs cs]
  | false :: bs, true :: cs, t => by simp [put, get, kid, right]
  | true :: bs, false :: cs, t => by simp [put, get, kid, left]
  | true :: bs, true :: cs, t => by simp [put, get, kid, right, get_put v bs cs]
theorem get_clear : ∀ (bs cs : List Bool) (t : Tri), get cs (clear bs t) = if cs = bs then none else get cs t
  | bs, cs, .nil => by simp [clear, get_nil]
  | [], [], .node l r o => by simp [clear, get, val]
  | [], c :: cs, .node l r o => by cases c <;> simp [clear, get, kid, left, right]
  | false :: bs, [], .node l r o => by simp [clear, get, val]
  | true :: bs, [], .node l r o => by simp [clear, get, val]
  | false :: bs, false :: cs, .node l r o => by simp [clear, get, kid, left, get_clear bs cs]
  | false :: bs, true :: cs, .node l r o => by simp [clear, get, kid, right]
  | true :: bs, false :: cs, .node l r o => by simp [clear, get, kid, left]
  | true :: bs, true :: cs, .node l r o => by simp [clear, get, kid, right, get_clear bs cs]
theorem get_prune : ∀ (bs cs : List Bool) (t : Tri), get cs (prune bs t) = get cs t
  | bs, cs, .nil => by simp [prune]
  | [], cs, .node l r o => by simp [prune]
  | false :: bs, [], .node l r o => by simp [prune, get, val]
  | true :: bs, [], .node l r o => by simp [prune, get, val]
  | false :: bs, false :: cs, .node l r o => by simp [prune, get, kid, left, get_trim, get_prune bs cs]
  | false :: bs, true :: cs, .node l r o => by simp [prune, get, kid, right]
  | true :: bs, false :: cs, .node l r o => by simp [prune, get, kid, left]
  | true :: bs, true :: cs, .node l r o => by simp [prune, get, kid, right, get_trim, get_prune bs cs]
theorem get_del (bs cs : List Bool) (t : Tri) : get cs (del bs t) = if cs = bs then none else get cs t := by
  unfold del; rw [get_prune, get_clear]
/-- All that is there, from a place on. -/
def all : Tri → List Bool → List (List Bool × Int)
  | .nil, _ => []
  | .node l r o, pre => (match o with | some v => [(pre, v)] | none => []) ++ (all l (pre ++ [false]) ++ all r (pre ++ [true]))
theorem mem_all : ∀ (t : Tri) (pre bs : List Bool) (v : Int), (bs, v) ∈ all t pre ↔ ∃ x, bs = pre ++ x ∧ get x t = some v
  | .nil, pre, bs, v => by simp [all, get_nil]
  | .node l r o, pre, bs, v => by
    simp only [all, List.mem_append, mem_all l, mem_all r]
    constructor
    · rintro (h | ⟨x, rfl, h⟩ | ⟨x, rfl, h⟩)
      · cases o with
        | none => simp at h
        | some u => simp at h; exact ⟨[], by simp [h.1], by simp [get, val, h.2]⟩
      · exact ⟨false :: x, by simp, by simpa [get, kid, left] using h⟩
      · exact ⟨true :: x, by simp, by simpa [get, kid, right] using h⟩
    · rintro ⟨x, rfl, h⟩
      match x with
      | [] => left; simp [get, val] at h; subst h; simp
      | false :: x => right; left; exact ⟨x, by simp, by simpa [get, kid, left] using h⟩
      | true :: x => right; right; exact ⟨x, by simp, by simpa [get, kid, right] using h⟩
theorem all_none : ∀ (t : Tri) (pre : List Bool), (∀ x, get x t = none) → all t pre = []
  | .nil, _, _ => rfl
  | .node l r o, pre, h => by
    have h0 := h []
    simp [get, val] at h0
    subst h0
    simp only [all, all_none l _ (fun x => by simpa [get, kid, left] using h (false :: x)), all_none r _ (fun x => by simpa [get, kid, right] using h (true :: x))]; rfl
theorem all_ext : ∀ (t t' : Tri) (pre : List Bool), (∀ x, get x t = get x t') → all t pre = all t' pre
  | .nil, t', pre, h => by
    rw [all_none t' pre (fun x => by rw [← h x, get_nil])]; rfl
  | .node l r o, .nil, pre, h => by
    rw [all_none (.node l r o) pre (fun x => by rw [h x, get_nil])]; rfl
  | .node l r o, .node l' r' o', pre, h => by
    have h0 := h []
    simp [get, val] at h0
    subst h0
    simp only [all]
    rw [all_ext l l' _ (fun x => by simpa [get, kid, left] using h (false :: x)), all_ext r r' _ (fun x => by simpa [get, kid, right] using h (true :: x))]
/-- How many there are. -/
def cnt : Tri → Nat
  | .nil => 0
  | .node l r o => (if o.isSome then 1 else 0) + (cnt l + cnt r)
theorem all_length : ∀ (t : Tri) (pre : List Bool), (all t pre).length = cnt t
  | .nil, _ => rfl
  | .node l r o, pre => by
    simp only [all, cnt, List.length_append, all_length l, all_length r]
    cases o <;> rfl
theorem cnt_put (v : Int) : ∀ (bs : List Bool) (t : Tri), cnt (put v bs t) = cnt t + if (get bs t).isSome then 0 else 1
  | [], .nil => by simp [put, cnt, get, val, left, right]
  | [], .node l r o => by cases o <;> simp [put, cnt, get, val, left, right]; omega
  | false :: bs, .nil => by simp [put, cnt, get, val, left, right, kid, cnt_put v bs]
  | false :: bs, .node l r o => by simp [put, cnt, get, val, left, right, kid, cnt_put v bs]; omega
  | true :: bs, .nil => by simp [put, cnt, get, val, left, right, kid, cnt_put v bs]
  | true :: bs, .node l r o => by simp [put, cnt, get, val, left, right, kid, cnt_put v bs]; omega
theorem cnt_trim (t : Tri) : cnt (trim t) = cnt t := by
  unfold trim; split <;> rfl
theorem cnt_prune : ∀ (bs : List Bool) (t : Tri), cnt (prune bs t) = cnt t
  | _, .nil => by simp [prune]
  | [], .node l r o => by simp [prune]
  | false :: bs, .node l r o => by simp [prune, cnt, cnt_trim, cnt_prune bs]
  | true :: bs, .node l r o => by simp [prune, cnt, cnt_trim, cnt_prune bs]
theorem cnt_clear : ∀ (bs : List Bool) (t : Tri), cnt (clear bs t) + (if (get bs t).isSome then 1 else 0) = cnt t
  | bs, .nil => by simp [clear, cnt, get_nil]
  | [], .node l r o => by cases o <;> simp [clear, cnt, get, val]; omega
  | false :: bs, .node l r o => by have := cnt_clear bs l; simp [clear, cnt, get, kid, left]; omega
  | true :: bs, .node l r o => by have := cnt_clear bs r; simp [clear, cnt, get, kid, right]; omega
/-- The longest one on a way: i bits are behind, best is the best so far. -/
def lon : List Bool → Nat → Option (Nat × Int) → Tri → Option (Nat × Int)
  | _, _, best, .nil => best
  | [], i, best, .node _ _ o => (o.map fun v => (i, v)).or best
  | b :: bs, i, best, .node l r o => lon bs (i + 1) ((o.map fun v => (i, v)).or best) (Tri.kid b (.node l r o))
end Tri
end Go.Proofs.Ytpchlnbnpgaocaa.KTree
