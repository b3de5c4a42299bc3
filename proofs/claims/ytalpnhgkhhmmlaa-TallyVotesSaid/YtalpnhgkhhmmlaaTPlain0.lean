-- By the session: plain facts on In, Ints, Contains: no memory, no Go.
import Derived.Test.YtalpnhgkhhmmlaaPTalx2
import Derived.Test.YtalpnhgkhhmmlaaPTalx10
namespace Go.Proofs.Ytalpnhgkhhmmlaa.PTal
open Go.RowKit Go.Proofs.YtalpnhgkhhmmlaaW.PrintWords Go.Proofs.YtalpnhgkhhmmlaaW.PrintLast Go.Proofs.YtalpnhgkhhmmlaaW.PrintMore
set_option linter.unusedVariables false
open Classical
theorem wr1 {i : Nat} (h : i < 9223372036854775807) : wrap64 ((i : Int) + 1) = ((i + 1 : Nat) : Int) := by unfold wrap64; omega
theorem _root_.Go.Proofs.YtalpnhgkhhmmlaaW.PrintWords.Ev.to {α : Type} {g : Nat → Option α} {r r' : α} (h : Ev g r) (e : r = r') : Ev g r' := e ▸ h
theorem rd_get {l : List Int} {i : Nat} (h : i < l.length) : rd l i = l[i] := by simp [rd, List.getD_eq_getElem?_getD, List.getElem?_eq_getElem h]
theorem ints_eq (a b : List Int) : a = b ↔ a.length = b.length ∧ ∀ i : Nat, i < a.length → rd a i = rd b i := by
  constructor
  · rintro rfl; exact ⟨rfl, fun _ _ => rfl⟩
  · rintro ⟨h1, h2⟩
    refine List.ext_getElem h1 fun i hi hj => ?_
    have := h2 i hi
    rwa [rd_get hi, rd_get hj] at this
theorem ints_loop (a b : List Int) (hl : a.length = b.length) (hn : a.length < 9223372036854775807) : ∀ (d i : Nat), i + d = a.length → Ev (fun k => changeoverref01_Ints.l0 k a b i) (decide (∀ j : Nat, i ≤ j → j < a.length → rd a j = rd b j)) := by
  intro d
  induction d with
  | zero =>
    intro i hi
    refine Ev.step (f := fun _ => some true) (fun k => by simp only [changeoverref01_Ints.l0]; rw [if_neg (by omega)]) ((Ev.now _).to ?_)
    symm
    rw [decide_eq_true_iff]
    exact fun j h1 h2 => by omega
  | succ d ih =>
    intro i hi
    refine Ev.step (fun k => by simp only [changeoverref01_Ints.l0]; rw [if_pos (show (i : Int) < (a.length : Int) by omega), if_pos (Int.natCast_nonneg i), if_pos (show (i : Int) < (b.length : Int) by omega)]) ?_
    by_cases h1 : rd a i = rd b i
    · simp only [if_pos h1, wr1 (show i < 9223372036854775807 by omega)]
      refine (ih (i + 1) (by omega)).to ?_
      rw [decide_eq_decide]
      exact ⟨fun h j h2 h3 => by rcases Nat.eq_or_lt_of_le h2 with e | e; exact e ▸ h1; exact h j e h3, fun h j h2 h3 => h j (by omega) h3⟩
    · simp only [if_neg h1]
      refine (Ev.now _).to ?_
      symm
      rw [decide_eq_false_iff_not]
      exact fun h => h1 (h i (Nat.le_refl _) (by omega))
theorem ints_ev (a b : List Int) (hn : a.length < 9223372036854775807) : Ev (fun k => changeoverref01_Ints.f k a b) (decide (a = b)) := by
  unfold changeoverref01_Ints.f
  by_cases h : (a.length : Int) = (b.length : Int)
  · simp only [if_pos h]
    refine (ints_loop a b (by omega) hn a.length 0 (by omega)).to ?_
    rw [decide_eq_decide, ints_eq]
    exact ⟨fun h2 => ⟨by omega, fun i hi => h2 i (by omega) hi⟩, fun h2 j _ hj => h2.2 j hj⟩
  · simp only [if_neg h]
    refine (Ev.now _).to ?_
    symm
    rw [decide_eq_false_iff_not]
    rintro rfl
    exact h rfl
theorem in_loop (l : List Int) (x : Int) (hn : l.length < 9223372036854775807) : ∀ (d i : Nat), i + d = l.length → Ev (fun k => changeoverref01_In.l0 k l x i) (decide (∃ j : Nat, i ≤ j ∧ j < l.length ∧ rd l j = x)) := by
  intro d
  induction d with
  | zero =>
    intro i hi
    refine Ev.step (f := fun _ => some false) (fun k => by simp only [changeoverref01_In.l0]; rw [if_neg (by omega)]) ((Ev.now _).to ?_)
    symm
    rw [decide_eq_false_iff_not]
    rintro ⟨j, h1, h2, _⟩
    omega
  | succ d ih =>
    intro i hi
    refine Ev.step (fun k => by simp only [changeoverref01_In.l0]; rw [if_pos (show (i : Int) < (l.length : Int) by omega), if_pos (Int.natCast_nonneg i)]) ?_
    by_cases h1 : rd l i = x
    · simp only [if_pos h1]
      refine (Ev.now _).to ?_
      symm
      rw [decide_eq_true_iff]
      exact ⟨i, Nat.le_refl _, by omega, h1⟩
    · simp only [if_neg h1, wr1 (show i < 9223372036854775807 by omega)]
      refine (ih (i + 1) (by omega)).to ?_
      rw [decide_eq_decide]
      exact ⟨fun ⟨j, h2, h3, h4⟩ => ⟨j, by omega, h3, h4⟩, fun ⟨j, h2, h3, h4⟩ => by
        rcases Nat.eq_or_lt_of_le h2 with e | e
        · subst e; exact absurd h4 h1
        · exact ⟨j, e, h3, h4⟩⟩
theorem mem_rd (l : List Int) (x : Int) : x ∈ l ↔ ∃ j : Nat, j < l.length ∧ rd l j = x := by
  rw [List.mem_iff_getElem]
  constructor
  · rintro ⟨i, h, e⟩
    exact ⟨i, h, by rw [rd_get h]; exact e⟩
  · rintro ⟨i, h, e⟩
    exact ⟨i, h, by rw [rd_get h] at e; exact e⟩
theorem in_ev (l : List Int) (x : Int) (hn : l.length < 9223372036854775807) : Ev (fun k => changeoverref01_In.f k l x) (decide (x ∈ l)) :=
  (in_loop l x hn l.length 0 (by omega)).to (by rw [decide_eq_decide, mem_rd]; exact ⟨fun ⟨j, _, h⟩ => ⟨j, h⟩, fun ⟨j, h⟩ => ⟨j, by omega, h⟩⟩)
theorem index_loop (l : List Int) (x : Int) (hn : l.length < 9223372036854775807) : ∀ (d i : Nat), i + d = l.length → ∃ r, Ev (fun k => slices_Index_int_int.l0 k l x (l.length : Int) i) r ∧ (0 ≤ r ↔ ∃ j : Nat, i ≤ j ∧ j < l.length ∧ rd l j = x) := by
  intro d
  induction d with
  | zero =>
    intro i hi
    exact ⟨-1, Ev.step (f := fun _ => some (-1)) (fun k => by simp only [slices_Index_int_int.l0]; rw [if_neg (by omega)]) (Ev.now _), by omega, fun ⟨j, h1, h2, _⟩ => by omega⟩
  | succ d ih =>
    intro i hi
    by_cases h1 : x = rd l i
    · exact ⟨i, Ev.step (f := fun _ => some (i : Int)) (fun k => by simp only [slices_Index_int_int.l0]; rw [if_pos (by omega), if_pos (by omega), if_pos (by omega), if_pos h1]) (Ev.now _), fun _ => ⟨i, Nat.le_refl _, by omega, h1.symm⟩, fun _ => by omega⟩
    · obtain ⟨r, hr, hiff⟩ := ih (i + 1) (by omega)
      refine ⟨r, Ev.step (fun k => by simp only [slices_Index_int_int.l0]; rw [if_pos (show (i : Int) < (l.length : Int) by omega), if_pos (show 0 ≤ (i : Int) by omega), if_pos (show (i : Int) < (l.length : Int) by omega), if_neg h1, wr1 (by omega)]) hr, fun h => ?_, fun ⟨j, h2, h3, h4⟩ => ?_⟩
      · obtain ⟨j, h2, h3, h4⟩ := hiff.1 h
        exact ⟨j, by omega, h3, h4⟩
      · rcases Nat.eq_or_lt_of_le h2 with e | e
        · subst e; exact absurd h4.symm h1
        · exact hiff.2 ⟨j, e, h3, h4⟩
theorem contains_ev (l : List Int) (x : Int) (hn : l.length < 9223372036854775807) : Ev (fun k => slices_Contains_int_int.f k l x) (decide (x ∈ l)) := by
  obtain ⟨r, hr, hiff⟩ := index_loop l x hn l.length 0 (by omega)
  unfold slices_Contains_int_int.f
  refine Ev.bind (show Ev (fun k => slices_Index_int_int.f k l x) r from hr) ((Ev.now _).to ?_)
  rw [decide_eq_decide, mem_rd]
  exact ⟨fun h => by obtain ⟨j, _, h2⟩ := hiff.1 h; exact ⟨j, h2⟩, fun ⟨j, h⟩ => hiff.2 ⟨j, by omega, h⟩⟩
end Go.Proofs.Ytalpnhgkhhmmlaa.PTal
