/- SumTurned: with all pairs of bytes turned about the sum is turned about. -/
import Derived.Test.YtieopkigfbnhcaaKTurned
set_option linter.unusedVariables false
namespace Go.Proofs.Ytieopkigfbnhcaa.Pure
open Go.RowKit Go.Proofs.Ytieopkigfbnhcaa.PSum Go.Proofs.Ytieopkigfbnhcaa.MSumU Go.Proofs.YtieopkigfbnhcaaW.PrintWords Go.Proofs.YtieopkigfbnhcaaW.PrintLast

theorem W_tl : ∀ (n : Nat) (l : List UInt8), l.length = 2 * n → W true (tl l) = W false l := by
  intro n
  induction n with
  | zero => intro l h; obtain rfl := List.eq_nil_of_length_eq_zero (show l.length = 0 by omega); rfl
  | succ n ih =>
    intro l h
    match l, h with
    | a :: b :: l, h =>
      have := ih l (by simp at h; omega)
      show W true (b :: a :: tl l) = W false (a :: b :: l)
      simp only [W]
      rw [this]
      omega
theorem str_num8 (l : List UInt8) : strOfNums (num8 l) = ⟨l.toArray⟩ := by
  unfold strOfNums num8
  congr 2
  rw [List.map_map]
  have : ((fun n : Int => UInt8.ofNat n.toNat) ∘ fun b : UInt8 => (b.toNat : Int)) = id := by
    funext b; simp
  rw [this, List.map_id]
theorem turned (s : ByteArray) (w : World) (hs : s.size ≤ 140737488351232) :
    Calls Try.prog 10 #[.string s] w fun e w' => e = .returned (.bool true) ∧ Below w.heap.size w w' := by
  obtain ⟨b, hb, _⟩ := long_ev [s] (by simp)
  obtain ⟨k1, hk1⟩ := hb
  obtain ⟨k2, hk2⟩ := awake_ev
  cases b with
  | true => exact turned_big (max k1 k2) s w hs ⟨hk1 _ (by omega)⟩ ⟨hk2 _ (by omega)⟩
  | false =>
    obtain ⟨t, ht, h2, h3⟩ := even_ev s (by omega)
    obtain ⟨n, hn⟩ : ∃ n, t.size = 2 * n := ⟨t.size / 2, by omega⟩
    have hd : t.data.toList.length = 2 * n := by rw [len_data]; exact hn
    have hrow : strOfNums (rowT t.data.toList n) = ⟨(tl t.data.toList).toArray⟩ := by
      unfold rowT
      rw [List.take_of_length_le (by omega), List.drop_of_length_le (by omega), List.append_nil, str_num8]
    have hsz : (strOfNums (rowT t.data.toList n)).size = t.size := by rw [strOfNums_size, rowT_len, len_data]
    obtain ⟨k3, hk3⟩ := sum_one (strOfNums (rowT t.data.toList n)) (by rw [hsz]; omega)
    obtain ⟨k4, hk4⟩ := sum_one t (by omega)
    have hW : W true (strOfNums (rowT t.data.toList n)).data.toList = W false t.data.toList := by
      rw [hrow]; exact W_tl n _ hd
    rw [hW] at hk3
    exact turned_small (max (max k1 k2) (max k3 k4)) s t _ _ w hs ⟨hk1 _ (by omega)⟩ ⟨hk2 _ (by omega)⟩ ⟨ht⟩ (by omega) n hn ⟨hk3 _ (by omega)⟩ ⟨hk4 _ (by omega)⟩ ⟨turned_rep _⟩
end Go.Proofs.Ytieopkigfbnhcaa.Pure
