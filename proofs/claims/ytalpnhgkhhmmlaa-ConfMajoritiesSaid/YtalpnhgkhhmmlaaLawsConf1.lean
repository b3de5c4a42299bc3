-- By the session: the plain laws of layer 11 (conf): no memory, no Go.
import Derived.Test.YtalpnhgkhhmmlaaPConfx1
import Derived.Test.YtalpnhgkhhmmlaaPConfx4
import Derived.Test.YtalpnhgkhhmmlaaPConfx5
import Derived.Test.YtalpnhgkhhmmlaaHConf4
namespace Go.Proofs.Ytalpnhgkhhmmlaa.PConf
open Go.RowKit Go.Proofs.YtalpnhgkhhmmlaaW.PrintWords Go.Proofs.YtalpnhgkhhmmlaaW.PrintLast Go.Proofs.YtalpnhgkhhmmlaaW.PrintMore
set_option linter.unusedVariables false
open Classical

theorem wr1 {i : Nat} (h : i < 9223372036854775807) : wrap64 ((i : Int) + 1) = ((i + 1 : Nat) : Int) := by unfold wrap64; omega
theorem wrm {i : Nat} (h0 : 0 < i) (h : i < 9223372036854775807) : wrap64 ((i : Int) - 1) = ((i - 1 : Nat) : Int) := by unfold wrap64; omega
theorem _root_.Go.Proofs.YtalpnhgkhhmmlaaW.PrintWords.Ev.to {α : Type} {g : Nat → Option α} {r r' : α} (h : Ev g r) (e : r = r') : Ev g r' := e ▸ h

def memAt (m : List Int) (i : Nat) : Prop := 1 ≤ rd m i ∧ rd m i ≤ 9 ∧ (0 < i → rd m ((i - 1 : Nat) : Int) < rd m i)
def mOk (m : List Int) : Prop := 0 < m.length ∧ ∀ i, i < m.length → memAt m i
def confAt (l : List S39) (i : Nat) : Prop := mOk (rd_T39 l i).f1 ∧ (rd_T39 l i).f0 ≤ 4294967296 ∧ (0 < i → (rd_T39 l ((i - 1 : Nat) : Int)).f0 < (rd_T39 l i).f0)
def cOk (l : List S39) : Prop := 0 < l.length ∧ (rd_T39 l 0).f0 = 1 ∧ ∀ i, i < l.length → confAt l i

theorem members_loop (m : List Int) (hn : m.length < 9223372036854775807) : ∀ (d i : Nat), i + d = m.length →
    Ev (fun k => conf_members.l0 k m m (m.length : Int) i) (decide (0 < m.length ∧ ∀ j, i ≤ j → j < m.length → memAt m j)) := by
  intro d
  induction d with
  | zero =>
    intro i hi
    refine Ev.step (f := fun _ => some (decide ((m.length : Int) > 0))) (fun k => by simp only [conf_members.l0]; rw [if_neg (by omega)]) ((Ev.now _).to ?_)
    rw [decide_eq_decide]
    exact ⟨fun h => ⟨by omega, fun j h1 h2 => by omega⟩, fun h => by omega⟩
  | succ d ih =>
    intro i hi
    refine Ev.step (fun k => by simp only [conf_members.l0]; rw [if_pos (show (i : Int) < (m.length : Int) by omega), if_pos (Int.natCast_nonneg i), if_pos (show (i : Int) < (m.length : Int) by omega)]) ?_
    by_cases h1 : rd m i < 1
    · simp only [if_pos h1]
      refine (Ev.now _).to ?_
      symm
      rw [decide_eq_false_iff_not]
      exact fun h => by have := (h.2 i (Nat.le_refl _) (by omega)).1; omega
    simp only [if_neg h1]
    by_cases h2 : rd m i > 9
    · simp only [if_pos h2]
      refine (Ev.now _).to ?_
      symm
      rw [decide_eq_false_iff_not]
      exact fun h => by have := (h.2 i (Nat.le_refl _) (by omega)).2.1; omega
    simp only [if_neg h2, wr1 (show i < 9223372036854775807 by omega)]
    have step : memAt m i → decide (0 < m.length ∧ ∀ j, i + 1 ≤ j → j < m.length → memAt m j) = decide (0 < m.length ∧ ∀ j, i ≤ j → j < m.length → memAt m j) := by
      intro hm
      rw [decide_eq_decide]
      exact ⟨fun h => ⟨h.1, fun j h1 h2 => by rcases Nat.eq_or_lt_of_le h1 with e | e; exact e ▸ hm; exact h.2 j e h2⟩, fun h => ⟨h.1, fun j h1 h2 => h.2 j (by omega) h2⟩⟩
    by_cases h3 : (i : Int) > 0
    · simp only [if_pos h3, wrm (show 0 < i by omega) (show i < 9223372036854775807 by omega), if_pos (show 0 ≤ ((i - 1 : Nat) : Int) by omega), if_pos (show ((i - 1 : Nat) : Int) < (m.length : Int) by omega)]
      by_cases h4 : rd m i ≤ rd m ((i - 1 : Nat) : Int)
      · simp only [if_pos h4]
        refine (Ev.now _).to ?_
        symm
        rw [decide_eq_false_iff_not]
        exact fun h => by have := (h.2 i (Nat.le_refl _) (by omega)).2.2 (by omega); omega
      · simp only [if_neg h4]
        exact (ih (i + 1) (by omega)).to (step ⟨by omega, by omega, fun _ => by omega⟩)
    · simp only [if_neg h3]
      exact (ih (i + 1) (by omega)).to (step ⟨by omega, by omega, fun _ => by omega⟩)
theorem members_ev (m : List Int) (hn : m.length < 9223372036854775807) : Ev (fun k => conf_members.f k m) (decide (mOk m)) :=
  (members_loop m hn m.length 0 (by omega)).to (by rw [decide_eq_decide]; exact ⟨fun h => ⟨h.1, fun i hi => h.2 i (by omega) hi⟩, fun h => ⟨h.1, fun j _ hj => h.2 j hj⟩⟩)

/-- lengths that fit an int -/
def Fits (l : List S39) : Prop := l.length < 9223372036854775807 ∧ ∀ i : Nat, i < l.length → (rd_T39 l i).f1.length < 9223372036854775807

theorem check_loop (l : List S39) (hn : Fits l) : ∀ (d i : Nat), i + d = l.length → Ev (fun k => conf_Check.l0 k l l (l.length : Int) i) (if ∀ j, i ≤ j → j < l.length → confAt l j then 0 else 3) := by
  have hn0 := hn.1
  intro d
  induction d with
  | zero =>
    intro i hi
    refine Ev.step (f := fun _ => some 0) (fun k => by simp only [conf_Check.l0]; rw [if_neg (by omega)]) ((Ev.now _).to ?_)
    rw [if_pos (fun j h1 h2 => by omega)]
  | succ d ih =>
    intro i hi
    refine Ev.step (fun k => by simp only [conf_Check.l0]; rw [if_pos (show (i : Int) < (l.length : Int) by omega), if_pos (Int.natCast_nonneg i), if_pos (show (i : Int) < (l.length : Int) by omega)]) ?_
    refine Ev.bind (members_ev _ (hn.2 i (by omega))) ?_
    by_cases h1 : mOk (rd_T39 l i).f1
    case neg =>
      simp only [h1, decide_false, Bool.false_eq_true, if_false]
      refine (Ev.now _).to ?_
      rw [if_neg (fun h => h1 (h i (Nat.le_refl _) (by omega)).1)]
    simp only [h1, decide_true, if_true]
    by_cases h2 : (rd_T39 l i).f0 > 4294967296
    · simp only [if_pos h2]
      refine (Ev.now _).to ?_
      rw [if_neg (fun h => by have := (h i (Nat.le_refl _) (by omega)).2.1; omega)]
    simp only [if_neg h2, wr1 (show i < 9223372036854775807 by omega)]
    have step : confAt l i → (if ∀ j, i + 1 ≤ j → j < l.length → confAt l j then (0 : Int) else 3) = (if ∀ j, i ≤ j → j < l.length → confAt l j then 0 else 3) := by
      intro hm
      have : (∀ j, i + 1 ≤ j → j < l.length → confAt l j) ↔ (∀ j, i ≤ j → j < l.length → confAt l j) :=
        ⟨fun h j h1 h2 => by rcases Nat.eq_or_lt_of_le h1 with e | e; exact e ▸ hm; exact h j e h2, fun h j h1 h2 => h j (by omega) h2⟩
      simp only [this]
    by_cases h3 : (i : Int) > 0
    · simp only [if_pos h3, wrm (show 0 < i by omega) (show i < 9223372036854775807 by omega), if_pos (show 0 ≤ ((i - 1 : Nat) : Int) by omega), if_pos (show ((i - 1 : Nat) : Int) < (l.length : Int) by omega)]
      by_cases h4 : (rd_T39 l i).f0 ≤ (rd_T39 l ((i - 1 : Nat) : Int)).f0
      · simp only [if_pos h4]
        refine (Ev.now _).to ?_
        rw [if_neg (fun h => by have := (h i (Nat.le_refl _) (by omega)).2.2 (by omega); omega)]
      · simp only [if_neg h4]
        exact (ih (i + 1) (by omega)).to (step ⟨h1, by omega, fun _ => by omega⟩)
    · simp only [if_neg h3]
      exact (ih (i + 1) (by omega)).to (step ⟨h1, by omega, fun _ => by omega⟩)
theorem check_ev (l : List S39) (hn : Fits l) : Ev (fun k => conf_Check.f k l) (if cOk l then 0 else 3) := by
  unfold conf_Check.f
  by_cases h0 : (l.length : Int) = 0
  · simp only [if_pos h0]
    refine Ev.step (f := fun _ => some 3) (fun k => by simp [conf_Check.j0]) ((Ev.now _).to ?_)
    rw [if_neg (fun h => by have := h.1; omega)]
  simp only [if_neg h0, if_pos (show 0 < (l.length : Int) by omega)]
  by_cases h1 : (rd_T39 l 0).f0 = 1
  · refine Ev.step (f := fun k => conf_Check.l0 k l l (l.length : Int) 0) (fun k => by simp [conf_Check.j0, h1]) ((check_loop l hn l.length 0 (by omega)).to ?_)
    have : (∀ j, 0 ≤ j → j < l.length → confAt l j) ↔ cOk l := ⟨fun h => ⟨by omega, h1, fun i hi => h i (by omega) hi⟩, fun h j _ hj => h.2.2 j hj⟩
    simp only [this]
  · refine Ev.step (f := fun _ => some 3) (fun k => by simp [conf_Check.j0, h1]) ((Ev.now _).to ?_)
    rw [if_neg (fun h => h1 h.2.1)]

/-! the reference's Check -/
theorem refmembers_loop (l : List S39) (i0 : Nat) (m : List Int) (hn : m.length < 9223372036854775807) (r : Bool) (hk : i0 < 9223372036854775807) (hnext : mOk m → Ev (fun k => changeoverref11_Check.l0 k l ((i0 + 1 : Nat) : Int)) r) (hbad : ¬ mOk m → r = false) (hpos : 0 < m.length) : ∀ (d i : Nat), i + d = m.length → (∀ j, j < i → memAt m j) →
    Ev (fun k => changeoverref11_Check.l1 k l i0 m i) r := by
  intro d
  induction d with
  | zero =>
    intro i hi hall
    refine Ev.step (f := fun k => changeoverref11_Check.l0 k l ((i0 + 1 : Nat) : Int)) (fun k => by simp only [changeoverref11_Check.l1]; rw [if_neg (by omega), wr1 hk]) (hnext ⟨hpos, fun j hj => hall j (by omega)⟩)
  | succ d ih =>
    intro i hi hall
    refine Ev.step (fun k => by simp only [changeoverref11_Check.l1]; rw [if_pos (show (i : Int) < (m.length : Int) by omega), if_pos (Int.natCast_nonneg i)]) ?_
    by_cases h1 : rd m i < 1
    · simp only [if_pos h1]
      exact (Ev.now _).to (hbad (fun h => by have := (h.2 i (by omega)).1; omega)).symm
    simp only [if_neg h1]
    by_cases h2 : rd m i > 9
    · simp only [if_pos h2]
      exact (Ev.now _).to (hbad (fun h => by have := (h.2 i (by omega)).2.1; omega)).symm
    simp only [if_neg h2, wr1 (show i < 9223372036854775807 by omega)]
    have step : memAt m i → (∀ j, j < i + 1 → memAt m j) := fun hm j hj => by
      rcases Nat.lt_succ_iff_lt_or_eq.1 hj with e | e
      · exact hall j e
      · exact e ▸ hm
    by_cases h3 : (i : Int) > 0
    · simp only [if_pos h3, wrm (show 0 < i by omega) (show i < 9223372036854775807 by omega), if_pos (show 0 ≤ ((i - 1 : Nat) : Int) by omega), if_pos (show ((i - 1 : Nat) : Int) < (m.length : Int) by omega)]
      by_cases h4 : rd m i ≤ rd m ((i - 1 : Nat) : Int)
      · simp only [if_pos h4]
        exact (Ev.now _).to (hbad (fun h => by have := (h.2 i (by omega)).2.2 (by omega); omega)).symm
      · simp only [if_neg h4]
        exact ih (i + 1) (by omega) (step ⟨by omega, by omega, fun _ => by omega⟩)
    · simp only [if_neg h3]
      exact ih (i + 1) (by omega) (step ⟨by omega, by omega, fun _ => by omega⟩)
theorem refcheck_loop (l : List S39) (hn : Fits l) : ∀ (d i : Nat), i + d = l.length → Ev (fun k => changeoverref11_Check.l0 k l i) (decide (∀ j, i ≤ j → j < l.length → confAt l j)) := by
  have hn0 := hn.1
  intro d
  induction d with
  | zero =>
    intro i hi
    refine Ev.step (f := fun _ => some true) (fun k => by simp only [changeoverref11_Check.l0]; rw [if_neg (by omega)]) ((Ev.now _).to ?_)
    symm
    rw [decide_eq_true_iff]
    exact fun j h1 h2 => by omega
  | succ d ih =>
    intro i hi
    refine Ev.step (fun k => by simp only [changeoverref11_Check.l0]; rw [if_pos (show (i : Int) < (l.length : Int) by omega), if_pos (Int.natCast_nonneg i)]) ?_
    have hbad : ¬ confAt l i → false = decide (∀ j, i ≤ j → j < l.length → confAt l j) := fun h => by
      symm
      rw [decide_eq_false_iff_not]
      exact fun h2 => h (h2 i (Nat.le_refl _) (by omega))
    have step : confAt l i → decide (∀ j, i + 1 ≤ j → j < l.length → confAt l j) = decide (∀ j, i ≤ j → j < l.length → confAt l j) := by
      intro hm
      rw [decide_eq_decide]
      exact ⟨fun h j h1 h2 => by rcases Nat.eq_or_lt_of_le h1 with e | e; exact e ▸ hm; exact h j e h2, fun h j h1 h2 => h j (by omega) h2⟩
    have hj2 : ∀ b : Bool, (b = true → ¬ confAt l i) → (b = false → 0 < (rd_T39 l i).f1.length ∧ (rd_T39 l i).f0 ≤ 4294967296 ∧ (0 < i → (rd_T39 l ((i - 1 : Nat) : Int)).f0 < (rd_T39 l i).f0)) →
        Ev (fun k => changeoverref11_Check.j2 k l i (rd_T39 l i).f1 b) (decide (∀ j, i ≤ j → j < l.length → confAt l j)) := by
      intro b hb1 hb2
      cases b with
      | true => exact Ev.step (f := fun _ => some false) (fun k => by simp [changeoverref11_Check.j2]) ((Ev.now _).to (hbad (hb1 rfl)))
      | false =>
        obtain ⟨q1, q2, q3⟩ := hb2 rfl
        refine Ev.step (f := fun k => changeoverref11_Check.l1 k l i (rd_T39 l i).f1 ((0 : Nat) : Int)) (fun k => by simp [changeoverref11_Check.j2]) ?_
        refine refmembers_loop l i _ (hn.2 i (by omega)) _ (by omega) (fun hm => (ih (i + 1) (by omega)).to (step ⟨hm, q2, q3⟩)) (fun hm => (hbad (fun h => hm h.1)).symm) q1 _ 0 (Nat.zero_add _) (fun j hj => by omega)
    by_cases h1 : ((rd_T39 l i).f1.length : Int) = 0
    · simp only [if_pos h1]
      exact hj2 true (fun _ h => by have := h.1.1; omega) (fun h => by cases h)
    simp only [if_neg h1]
    by_cases h2 : (rd_T39 l i).f0 > 4294967296
    · simp only [if_pos h2]
      exact hj2 true (fun _ h => by have := h.2.1; omega) (fun h => by cases h)
    simp only [if_neg h2]
    by_cases h3 : (i : Int) > 0
    · simp only [if_pos h3, wrm (show 0 < i by omega) (show i < 9223372036854775807 by omega), if_pos (show 0 ≤ ((i - 1 : Nat) : Int) by omega), if_pos (show ((i - 1 : Nat) : Int) < (l.length : Int) by omega)]
      by_cases h4 : (rd_T39 l i).f0 ≤ (rd_T39 l ((i - 1 : Nat) : Int)).f0
      · simp only [decide_eq_true h4]
        exact hj2 true (fun _ h => by have := h.2.2 (by omega); omega) (fun h => by cases h)
      · simp only [decide_eq_false h4]
        exact hj2 false (fun h => by cases h) (fun _ => ⟨by omega, by omega, fun _ => by omega⟩)
    · simp only [if_neg h3]
      exact hj2 false (fun h => by cases h) (fun _ => ⟨by omega, by omega, fun _ => by omega⟩)
theorem refcheck_ev (l : List S39) (hn : Fits l) : Ev (fun k => changeoverref11_Check.f k l) (decide (cOk l)) := by
  unfold changeoverref11_Check.f
  by_cases h0 : (l.length : Int) = 0
  · simp only [if_pos h0]
    refine Ev.step (f := fun _ => some false) (fun k => by simp [changeoverref11_Check.j0]) ((Ev.now _).to ?_)
    symm
    rw [decide_eq_false_iff_not]
    exact fun h => by have := h.1; omega
  simp only [if_neg h0, if_pos (show 0 < (l.length : Int) by omega)]
  by_cases h1 : (rd_T39 l 0).f0 = 1
  · refine Ev.step (f := fun k => changeoverref11_Check.l0 k l ((0 : Nat) : Int)) (fun k => by simp [changeoverref11_Check.j0, h1]) ((refcheck_loop l hn l.length 0 (by omega)).to ?_)
    rw [decide_eq_decide]
    exact ⟨fun h => ⟨by omega, h1, fun i hi => h i (by omega) hi⟩, fun h j _ hj => h.2.2 j hj⟩
  · refine Ev.step (f := fun _ => some false) (fun k => by simp [changeoverref11_Check.j0, h1]) ((Ev.now _).to ?_)
    symm
    rw [decide_eq_false_iff_not]
    exact fun h => h1 h.2.1
end Go.Proofs.Ytalpnhgkhhmmlaa.PConf
