-- By the session: plain facts on distinct numbers and majorities: no memory, no Go.
import Derived.Test.YtalpnhgkhhmmlaaWWords
import Derived.Lib.SlicesCompact
namespace Go.Proofs.Ytalpnhgkhhmmlaa.PTal
open Go.Lib
theorem compact_mem (d : Array Int) (hs : ∀ i j : Nat, i ≤ j → j < d.size → d[i]! ≤ d[j]!) : ∀ m, m ≤ d.size → (∀ x, x ∈ compactUpTo d m ↔ ∃ j, j < m ∧ d[j]! = x) ∧ (compactUpTo d m).Nodup := by
  intro m
  induction m with
  | zero => intro _; exact ⟨fun x => ⟨fun h => by simp [compactUpTo] at h, fun ⟨j, hj, _⟩ => by omega⟩, by simp [compactUpTo]⟩
  | succ m ih =>
    intro hm
    obtain ⟨h1, h2⟩ := ih (by omega)
    rw [compactUpTo_succ]
    by_cases hk : keeps d m = true
    · rw [if_pos hk]
      refine ⟨fun x => ?_, ?_⟩
      · rw [List.mem_append, h1, List.mem_singleton]
        constructor
        · rintro (⟨j, hj, e⟩ | rfl)
          · exact ⟨j, by omega, e⟩
          · exact ⟨m, by omega, rfl⟩
        · rintro ⟨j, hj, e⟩
          rcases Nat.lt_or_ge j m with h | h
          · exact .inl ⟨j, h, e⟩
          · obtain rfl : j = m := by omega
            exact .inr e.symm
      · refine List.nodup_append.2 ⟨h2, by simp, ?_⟩
        intro a ha b hb e
        subst e
        rw [List.mem_singleton] at hb
        subst hb
        obtain ⟨j, hj, e⟩ := (h1 _).1 ha
        have hk' : m = 0 ∨ d[m]! ≠ d[m - 1]! := by simpa [keeps] using hk
        rcases hk' with h0 | hne
        · omega
        · have a1 := hs j (m - 1) (by omega) (by omega)
          have a2 := hs (m - 1) m (by omega) (by omega)
          exact hne (by omega)
    · rw [if_neg hk, List.append_nil]
      have hk' : ¬ (m = 0 ∨ d[m]! ≠ d[m - 1]!) := fun h => hk (by simpa [keeps] using h)
      have hm0 : m ≠ 0 := fun h => hk' (.inl h)
      have heq : d[m]! = d[m - 1]! := Decidable.byContradiction fun h => hk' (.inr h)
      refine ⟨fun x => ?_, h2⟩
      rw [h1]
      constructor
      · rintro ⟨j, hj, e⟩; exact ⟨j, by omega, e⟩
      · rintro ⟨j, hj, e⟩
        rcases Nat.lt_or_ge j m with h | h
        · exact ⟨j, h, e⟩
        · obtain rfl : j = m := by omega
          exact ⟨j - 1, by omega, by rw [← heq]; exact e⟩
def onceOf (l : List Int) : List Int := compact (l.mergeSort fun x y => decide (x ≤ y))
theorem once_mem (l : List Int) : (∀ x, x ∈ onceOf l ↔ x ∈ l) ∧ (onceOf l).Nodup := by
  have hp := List.mergeSort_perm l (fun x y => decide (x ≤ y))
  have hso : (l.mergeSort fun x y => decide (x ≤ y)).Pairwise (fun x y => decide (x ≤ y) = true) := List.pairwise_mergeSort (fun a b c h1 h2 => by simp at *; omega) (fun a b => by simp; omega) l
  unfold onceOf compact
  obtain ⟨S, hS⟩ : ∃ S, l.mergeSort (fun x y => decide (x ≤ y)) = S := ⟨_, rfl⟩
  rw [hS] at hp hso ⊢
  have hg : ∀ j, j < S.length → S.toArray[j]! = S.getD j 0 := fun j hj => by simp [List.getD_eq_getElem?_getD, getElem!_pos, hj]
  obtain ⟨h1, h2⟩ := compact_mem S.toArray (fun i j hij hj => by
    have hj' : j < S.length := by simpa using hj
    rw [hg _ (by omega), hg _ hj', List.getD_eq_getElem?_getD, List.getD_eq_getElem?_getD, List.getElem?_eq_getElem (by omega), List.getElem?_eq_getElem hj']
    rcases Nat.lt_or_ge i j with h | h
    · simpa using List.pairwise_iff_getElem.1 hso i j (by omega) hj' h
    · obtain rfl : i = j := by omega
      exact Int.le_refl _) S.length (by simp)
  refine ⟨fun x => ?_, h2⟩
  rw [h1, ← hp.mem_iff]
  constructor
  · rintro ⟨j, hj, e⟩
    rw [← e, getElem!_pos S.toArray j (by simpa using hj)]
    simp
  · intro hx
    obtain ⟨j, hj, e⟩ := List.getElem_of_mem hx
    exact ⟨j, hj, by rw [getElem!_pos S.toArray j (by simpa using hj)]; simpa using e⟩
theorem nodup_le : ∀ (xs ys : List Int), xs.Nodup → (∀ x ∈ xs, x ∈ ys) → xs.length ≤ ys.length
  | [], _, _, _ => Nat.zero_le _
  | x :: xs, ys, hn, hm => by
    have hx := hm x (by simp)
    have h1 := nodup_le xs (ys.erase x) (List.nodup_cons.1 hn).2 (fun z hz => by
      refine (List.mem_erase_of_ne (fun (e : z = x) => (List.nodup_cons.1 hn).1 (by rw [← e]; exact hz))).2 (hm z (by simp [hz])))
    rw [List.length_erase_of_mem hx] at h1
    have : 0 < ys.length := List.length_pos_of_mem hx
    simp; omega
theorem nodup_same {xs ys : List Int} (hx : xs.Nodup) (hy : ys.Nodup) (h : ∀ x, x ∈ xs ↔ x ∈ ys) (p : Int → Bool) : xs.countP p = ys.countP p := by
  rw [List.countP_eq_length_filter, List.countP_eq_length_filter]
  have a := nodup_le (xs.filter p) (ys.filter p) (hx.filter _) (fun z hz => by rw [List.mem_filter] at hz ⊢; exact ⟨(h z).1 hz.1, hz.2⟩)
  have b := nodup_le (ys.filter p) (xs.filter p) (hy.filter _) (fun z hz => by rw [List.mem_filter] at hz ⊢; exact ⟨(h z).2 hz.1, hz.2⟩)
  omega
theorem pigeon (p q : Int → Bool) : ∀ l : List Int, (∀ x ∈ l, ¬ (p x = true ∧ q x = true)) → l.countP p + l.countP q ≤ l.length
  | [], _ => by simp
  | x :: l, h => by
    have ih := pigeon p q l (fun z hz => h z (by simp [hz]))
    have hx := h x (by simp)
    simp only [List.countP_cons, List.length_cons]
    cases hp : p x <;> cases hq : q x <;> simp [hp, hq] at hx ⊢ <;> omega
/-- the first occurrences -/
def firstsOf (l : List Int) : Nat → List Int
  | 0 => []
  | k + 1 => firstsOf l k ++ (if l.getD k 0 ∈ l.take k then [] else [l.getD k 0])
theorem firsts_mem (l : List Int) : ∀ k, k ≤ l.length → (∀ x, x ∈ firstsOf l k ↔ x ∈ l.take k) ∧ (firstsOf l k).Nodup := by
  intro k
  induction k with
  | zero => intro _; simp [firstsOf]
  | succ k ih =>
    intro hk
    obtain ⟨h1, h2⟩ := ih (by omega)
    have hx : l.getD k 0 = l[k] := by rw [List.getD_eq_getElem?_getD, List.getElem?_eq_getElem (by omega)]; rfl
    have ht : l.take (k + 1) = l.take k ++ [l.getD k 0] := by rw [List.take_succ_eq_append_getElem (by omega), hx]
    unfold firstsOf
    by_cases hin : l.getD k 0 ∈ l.take k
    · rw [if_pos hin, List.append_nil, ht]
      refine ⟨fun x => ?_, h2⟩
      rw [h1, List.mem_append, List.mem_singleton]
      constructor
      · exact .inl
      · rintro (h | rfl)
        · exact h
        · exact hin
    · rw [if_neg hin, ht]
      refine ⟨fun x => by rw [List.mem_append, h1, List.mem_append], ?_⟩
      refine List.nodup_append.2 ⟨h2, by simp, ?_⟩
      intro a ha b hb e
      subst e
      rw [List.mem_singleton] at hb
      subst hb
      exact hin ((h1 _).1 ha)
def majOf (l0 l1 : List Int) : Bool := decide (2 * (onceOf l0).countP (fun x => decide (x ∈ l1)) > (onceOf l0).length)
theorem maj_firsts (l0 l1 : List Int) : majOf l0 l1 = decide (2 * (firstsOf l0 l0.length).countP (fun x => decide (x ∈ l1)) > (firstsOf l0 l0.length).length) := by
  obtain ⟨a1, a2⟩ := once_mem l0
  obtain ⟨b1, b2⟩ := firsts_mem l0 l0.length (Nat.le_refl _)
  have hm : ∀ x, x ∈ onceOf l0 ↔ x ∈ firstsOf l0 l0.length := fun x => by rw [a1, b1, List.take_length]
  have h1 := nodup_same a2 b2 hm (fun x => decide (x ∈ l1))
  have h2 := nodup_same a2 b2 hm (fun _ => true)
  simp only [List.countP_true] at h2
  unfold majOf
  rw [h1, h2]
theorem maj_common (l a b : List Int) (h1 : majOf l a = true) (h2 : majOf l b = true) : ∃ x, x ∈ l ∧ x ∈ a ∧ x ∈ b := by
  refine Decidable.byContradiction fun hn => ?_
  have hp := pigeon (fun x => decide (x ∈ a)) (fun x => decide (x ∈ b)) (onceOf l) (fun x hx h => hn ⟨x, ((once_mem l).1 x).1 hx, by simpa using h⟩)
  simp only [majOf, decide_eq_true_eq] at h1 h2
  omega
end Go.Proofs.Ytalpnhgkhhmmlaa.PTal
