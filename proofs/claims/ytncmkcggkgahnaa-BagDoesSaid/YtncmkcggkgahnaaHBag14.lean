-- By the session: contracts proved by hand.
import Derived.Test.YtncmkcggkgahnaaHBag13
namespace Go.Proofs.Ytncmkcggkgahnaa.PBag
open Go.RowKit Go.Proofs.YtncmkcggkgahnaaW.PrintWords Go.Proofs.YtncmkcggkgahnaaW.PrintLast Go.Proofs.YtncmkcggkgahnaaW.PrintMore
set_option linter.unusedVariables false
set_option linter.unusedSimpArgs false
def delN (l : List S30) (i j : Nat) : List S30 := if j ≤ i then l.take j else l.take i ++ (l.drop (i + 1)).take (j - (i + 1))
theorem delN_same (l : List S30) (i : Nat) : delN l i (i + 1) = delN l i i := by
  unfold delN
  rw [if_neg (by omega), if_pos (Nat.le_refl _), Nat.sub_self, List.take_zero, List.append_nil]
theorem delN_step (l : List S30) (i j : Nat) (hj : j < l.length) (hne : j ≠ i) : delN l i (j + 1) = delN l i j ++ [rdP l j] := by
  have hr : rdP l j = l[j] := by simp [rdP, List.getD_eq_getElem?_getD, List.getElem?_eq_getElem hj]
  unfold delN
  by_cases h : j ≤ i
  · rw [if_pos (by omega), if_pos h, List.take_succ_eq_append_getElem hj, hr]
  · rw [if_neg (by omega), if_neg h, show j + 1 - (i + 1) = (j - (i + 1)) + 1 by omega, List.take_succ_eq_append_getElem (by rw [List.length_drop]; omega), ← List.append_assoc, hr]
    congr 2
    rw [List.getElem_drop]
    congr 1
    omega
theorem delN_end (l : List S30) (i : Nat) (hi : i < l.length) : delN l i l.length = l.take i ++ l.drop (i + 1) := by
  unfold delN
  rw [if_neg (by omega), List.take_of_length_le (l := l.drop (i + 1)) (by rw [List.length_drop]; omega)]
theorem delN_len (l : List S30) (i j : Nat) : (delN l i j).length ≤ l.length + l.length := by
  unfold delN
  split
  · rw [List.length_take]; omega
  · rw [List.length_append, List.length_take, List.length_take, List.length_drop]; omega
theorem doEndV {X : Nat → Prop} {w W0 wr W : World} {q : S30} {l : List S30} {A : Option Addr} {c : Nat} {v : Value} (d : DoAt w W0 q A c) (hr : Kd.N k30 30 wr W0.heap.size (fun k => (X k ∧ k < w.heap.size) ∨ W0.heap.size ≤ k) v l)
    (hW : ∀ k, k ≠ w.heap.size + 1 → k ≠ w.heap.size + 3 → W.heap[k]? = wr.heap[k]?) : Kd.V k30 30 W 0 (fun k => X k ∨ w.heap.size ≤ k) v l := by
  have hn1 := Kd.N_step (w1 := W) hr (fun k hk _ => hW k (by have := d.size; rcases hk with hk | hk <;> omega) (by have := d.size; rcases hk with hk | hk <;> omega))
  exact Kd.N_V (base' := 0) (Kd.N_mono (ok' := fun k => (X k ∨ w.heap.size ≤ k)) hn1 (fun k hk => by have := d.size; rcases hk with hk | hk; exact .inl hk.1; exact .inr (by omega)))
set_option maxHeartbeats 2000000 in
theorem doEnd3 {X : Nat → Prop} {w W0 wr : World} {q : S30} {l : List S30} {A : Option Addr} {c : Nat} {v : Value} (d : DoAt w W0 q A c) (hb : Below W0.heap.size W0 wr) (hr : Kd.N k30 30 wr W0.heap.size (fun k => (X k ∧ k < w.heap.size) ∨ W0.heap.size ≤ k) v l) :
    (((((((wr.setCell ⟨w.heap.size + 1 + 1 + 1, 0, none⟩ (.int .i64 0)).setCell ⟨w.heap.size + 1 + 1 + 1, 1, none⟩ (.int .i64 0)).setCell ⟨w.heap.size + 1 + 1 + 1, 2, none⟩ (.slice none 0 0)).setCell ⟨w.heap.size + 1, 0, none⟩ (.int .i64 0)).setCell ⟨w.heap.size + 1, 1, none⟩ (.int .i64 0)).setCell ⟨w.heap.size + 1, 2, none⟩ (.slice none 0 0)).drew).heap[w.heap.size + 1]? = some (.cells #[.int .i64 0, .int .i64 0, .slice none 0 0] 30 (0, 0)) ∧ Kd.V k30 30 (((((((wr.setCell ⟨w.heap.size + 1 + 1 + 1, 0, none⟩ (.int .i64 0)).setCell ⟨w.heap.size + 1 + 1 + 1, 1, none⟩ (.int .i64 0)).setCell ⟨w.heap.size + 1 + 1 + 1, 2, none⟩ (.slice none 0 0)).setCell ⟨w.heap.size + 1, 0, none⟩ (.int .i64 0)).setCell ⟨w.heap.size + 1, 1, none⟩ (.int .i64 0)).setCell ⟨w.heap.size + 1, 2, none⟩ (.slice none 0 0)).drew) 0 (fun k => X k ∨ w.heap.size ≤ k) v l ∧ Below w.heap.size w (((((((wr.setCell ⟨w.heap.size + 1 + 1 + 1, 0, none⟩ (.int .i64 0)).setCell ⟨w.heap.size + 1 + 1 + 1, 1, none⟩ (.int .i64 0)).setCell ⟨w.heap.size + 1 + 1 + 1, 2, none⟩ (.slice none 0 0)).setCell ⟨w.heap.size + 1, 0, none⟩ (.int .i64 0)).setCell ⟨w.heap.size + 1, 1, none⟩ (.int .i64 0)).setCell ⟨w.heap.size + 1, 2, none⟩ (.slice none 0 0)).drew) := by
  have n1 : ∀ j : Nat, w.heap.size + 1 ≠ (⟨w.heap.size + 1 + 1 + 1, j, none⟩ : Addr).block := fun j => by show w.heap.size + 1 ≠ w.heap.size + 1 + 1 + 1; omega
  have g3 : ∀ j : Nat, w.heap.size ≤ (⟨w.heap.size + 1 + 1 + 1, j, none⟩ : Addr).block := fun j => by show w.heap.size ≤ w.heap.size + 1 + 1 + 1; omega
  have g1 : ∀ j : Nat, w.heap.size ≤ (⟨w.heap.size + 1, j, none⟩ : Addr).block := fun j => by show w.heap.size ≤ w.heap.size + 1; omega
  have k1 := blk_far (blk_far (blk_far (blk_below d.c1 hb) (n1 0) (.int .i64 0)) (n1 1) (.int .i64 0)) (n1 2) (.slice none 0 0)
  have hb5 := below_after d.below (Nat.le_refl _) hb
  have hb6 := drew_below ((((((hb5.setCell (g3 0) (.int .i64 0)).setCell (g3 1) (.int .i64 0)).setCell (g3 2) (.slice none 0 0)).setCell (g1 0) (.int .i64 0)).setCell (g1 1) (.int .i64 0)).setCell (g1 2) (.slice none 0 0))
  have k4 := blk_drew (blk_put (blk_put (blk_put k1 0 (.int .i64 0) rfl) 1 (.int .i64 0) rfl) 2 (.slice none 0 0) rfl)
  refine ⟨k4, doEndV d hr (fun k hk hk3 => ?_), hb6⟩
  rw [show ∀ (V : World), V.drew.heap[k]? = V.heap[k]? from fun _ => rfl, Below.heap_setCell _ _ _ k hk, Below.heap_setCell _ _ _ k hk, Below.heap_setCell _ _ _ k hk, Below.heap_setCell _ _ _ k hk3, Below.heap_setCell _ _ _ k hk3, Below.heap_setCell _ _ _ k hk3]
theorem DoAt.U {w W0 W : World} {q : S30} {A : Option Addr} {c : Nat} (d : DoAt w W0 q A c) (h : Below W0.heap.size W0 W) :
    W.frozen? ⟨w.heap.size + 1 + 1 + 1, 0, none⟩ = false ∧ W.frozen? ⟨w.heap.size + 1 + 1 + 1, 1, none⟩ = false ∧ W.frozen? ⟨w.heap.size + 1 + 1 + 1, 2, none⟩ = false := by
  have h3 := blk_below d.c3 h
  exact ⟨blk_frozen h3 _, blk_frozen h3 _, blk_frozen h3 _⟩
end Go.Proofs.Ytncmkcggkgahnaa.PBag
