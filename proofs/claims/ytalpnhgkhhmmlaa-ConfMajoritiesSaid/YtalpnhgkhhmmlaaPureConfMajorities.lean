/- For every three lists of whole numbers, the law ConfMajorities answers true and the inputs read as they did. Conditions: none beyond the statement. -/
-- By the session: the plain law of ConfMajorities.
import Derived.Test.YtalpnhgkhhmmlaaPConfx18
import Derived.Test.YtalpnhgkhhmmlaaLawsConf2
namespace Go.Proofs.Ytalpnhgkhhmmlaa.Pure
open Go.RowKit Go.Proofs.Ytalpnhgkhhmmlaa.PConf Go.Proofs.YtalpnhgkhhmmlaaW.PrintWords Go.Proofs.YtalpnhgkhhmmlaaW.PrintLast
set_option linter.unusedVariables false
theorem getD_rd (l : List Int) (k : Nat) : l.getD k 0 = rd l k := by simp [rd]
theorem firsts_le (l : List Int) : ∀ k, (firstsOf l k).length ≤ k
  | 0 => by simp [firstsOf]
  | k + 1 => by
    have := firsts_le l k
    unfold firstsOf
    split <;> simp <;> omega
theorem refmaj_loop (l of : List Int) (hn : l.length < 1000000000000) (ho : of.length < 1000000000000) : ∀ (d i : Nat), i + d = l.length →
    Ev (fun k => changeoverref11_Majority.l0 k l of (((firstsOf l i).length : Nat) : Int) (((firstsOf l i).countP (fun x => decide (x ∈ of)) : Nat) : Int) i) (majOf l of) := by
  intro d
  induction d with
  | zero =>
    intro i hi
    obtain rfl : i = l.length := by omega
    have h1 := firsts_le l l.length
    have h2 : (firstsOf l l.length).countP (fun x => decide (x ∈ of)) ≤ (firstsOf l l.length).length := List.countP_le_length
    refine Ev.step (f := fun _ => some (majOf l of)) (fun k => by
      simp only [changeoverref11_Majority.l0]
      rw [if_neg (by omega), maj_firsts]
      congr 1
      refine decide_eq_decide.2 ?_
      unfold wrap64
      omega) (Ev.now _)
  | succ d ih =>
    intro i hi
    have h1 := firsts_le l i
    have h2 : (firstsOf l i).countP (fun x => decide (x ∈ of)) ≤ (firstsOf l i).length := List.countP_le_length
    have hlt : i < l.length := by omega
    have ih' := ih (i + 1) (by omega)
    refine Ev.step (fun k => by simp only [changeoverref11_Majority.l0]; rw [if_pos (show (i : Int) < (l.length : Int) by omega), if_pos (show 0 ≤ (i : Int) by omega), if_pos (show (i : Int) ≤ (l.length : Int) by omega)]) ?_
    simp only [Int.toNat_natCast]
    refine Ev.bind (in_ev (l.take i) (rd l i) (by simp; omega)) ?_
    simp only [firstsOf, getD_rd] at ih'
    by_cases hin : rd l i ∈ l.take i
    · simp only [hin, decide_true, if_true, wr1 (show i < 9223372036854775807 by omega)]
      simpa [hin] using ih'
    · simp only [hin, decide_false, Bool.false_eq_true, if_false, wr1 (show i < 9223372036854775807 by omega)]
      simp only [hin, if_false] at ih'
      refine Ev.bind (in_ev of (rd l i) (by omega)) ?_
      rw [wr1 (by omega), wr1 (by omega)]
      by_cases hof : rd l i ∈ of
      · simp only [hof, decide_true, if_true]
        simpa [hof, List.countP_append] using ih'
      · simp only [hof, decide_false, Bool.false_eq_true, if_false]
        simpa [hof, List.countP_append] using ih'
theorem refmaj_ev (l of : List Int) (hn : l.length < 1000000000000) (ho : of.length < 1000000000000) : Ev (fun k => changeoverref11_Majority.f k l of) (majOf l of) := by
  have := refmaj_loop l of hn ho l.length 0 (by omega)
  simpa [firstsOf, changeoverref11_Majority.f] using this
theorem maj_is (l of : List Int) (hn : l.length < 1000000000000) (ho : of.length < 1000000000000) : conf_Majority.f l of = some (majOf l of) := by
  unfold conf_Majority.f
  rw [if_pos ⟨hn, ho⟩]
theorem law_loop (l a b : List Int) (hn : l.length ≤ 60) (ha : a.length ≤ 60) (hb : b.length ≤ 60) : ∀ (d i : Nat), i + d = l.length → ∀ c : Bool, (c = true ↔ ∃ j : Nat, j < i ∧ rd l j ∈ a ∧ rd l j ∈ b) →
    Ev (fun k => changeoverlaw11_ConfMajorities.l0 k l a b (majOf l a) (majOf l b) c i) true := by
  intro d
  induction d with
  | zero =>
    intro i hi c hc
    obtain rfl : i = l.length := by omega
    refine Ev.step (fun k => by simp only [changeoverlaw11_ConfMajorities.l0]; rw [if_neg (show ¬ ((l.length : Nat) : Int) < (l.length : Int) by omega)]) ?_
    refine Ev.bind (refmaj_ev l a (by omega) (by omega)) ?_
    simp only [beq_self_eq_true, if_true]
    refine Ev.bind (refmaj_ev l b (by omega) (by omega)) ?_
    simp only [beq_self_eq_true, if_true]
    cases h1 : majOf l a
    · simp only [Bool.false_eq_true, if_false]; exact Ev.bind awake_ev (Ev.now _)
    · cases h2 : majOf l b
      · simp only [Bool.false_eq_true, if_false, if_true]; exact Ev.bind awake_ev (Ev.now _)
      · have hct : c = true := hc.2 (by
          obtain ⟨x, hx, hxa, hxb⟩ := maj_common l a b h1 h2
          obtain ⟨j, hj, e⟩ := (mem_rd l x).1 hx
          exact ⟨j, hj, by rw [e]; exact ⟨hxa, hxb⟩⟩)
        subst hct
        simp only [if_true]
        exact Ev.bind awake_ev (Ev.now _)
  | succ d ih =>
    intro i hi c hc
    have w1 := wr1 (show i < 9223372036854775807 by omega)
    refine Ev.step (fun k => by simp only [changeoverlaw11_ConfMajorities.l0]; rw [if_pos (show (i : Int) < (l.length : Int) by omega), w1]) ?_
    cases c with
    | true =>
      simp only [if_true]
      obtain ⟨j, hj, h⟩ := hc.1 rfl
      exact ih (i + 1) (by omega) true ⟨fun _ => ⟨j, by omega, h⟩, fun _ => rfl⟩
    | false =>
      have hno : ∀ j : Nat, j < i → ¬ (rd l j ∈ a ∧ rd l j ∈ b) := fun j hj h => by have := hc.2 ⟨j, hj, h⟩; cases this
      simp only [Bool.false_eq_true, if_false]
      simp only [show (0 : Int) ≤ (i : Int) from by omega, if_true]
      refine Ev.bind (in_ev a (rd l i) (by omega)) ?_
      by_cases h1 : rd l i ∈ a
      · simp only [h1, decide_true, if_true]
        refine Ev.bind (in_ev b (rd l i) (by omega)) ?_
        refine ih (i + 1) (by omega) _ ?_
        rw [decide_eq_true_iff]
        exact ⟨fun h2 => ⟨i, by omega, h1, h2⟩, fun ⟨j, hj, h2⟩ => by
          rcases Nat.lt_or_ge j i with h3 | h3
          · exact absurd h2 (hno j h3)
          · obtain rfl : j = i := by omega
            exact h2.2⟩
      · simp only [h1, decide_false, Bool.false_eq_true, if_false]
        refine ih (i + 1) (by omega) false ⟨fun h => (by cases h), fun ⟨j, hj, h2⟩ => ?_⟩
        rcases Nat.lt_or_ge j i with h3 | h3
        · exact absurd h2 (hno j h3)
        · obtain rfl : j = i := by omega
          exact absurd h2.1 h1
theorem ConfMajorities : changeoverlaw11_ConfMajorities.Pure := by
  intro l a b _ _ _ _ _ _ _ _ _
  refine Ev.rounds (g := fun k => changeoverlaw11_ConfMajorities.f k l a b) ?_
  have hj : Ev (fun k => changeoverlaw11_ConfMajorities.j0 k l a b true) true :=
    Ev.step (fun k => by simp only [changeoverlaw11_ConfMajorities.j0, if_true]) (Ev.bind awake_ev (Ev.now _))
  unfold changeoverlaw11_ConfMajorities.f
  by_cases h1 : (l.length : Int) > 60
  · simp only [if_pos h1]; exact hj
  simp only [if_neg h1]
  by_cases h2 : (a.length : Int) > 60
  · simp only [if_pos h2]; exact hj
  simp only [if_neg h2]
  by_cases h3 : (b.length : Int) > 60
  · simp only [h3, decide_true]; exact hj
  simp only [h3, decide_false]
  refine Ev.step (fun k => by simp only [changeoverlaw11_ConfMajorities.j0, Bool.false_eq_true, if_false]; rfl) ?_
  rw [maj_is l a (by omega) (by omega), maj_is l b (by omega) (by omega)]
  simp only [Option.bind_some]
  exact law_loop l a b (by omega) (by omega) (by omega) l.length 0 (by omega) false ⟨fun h => (by cases h), fun ⟨j, hj, _⟩ => by omega⟩
end Go.Proofs.Ytalpnhgkhhmmlaa.Pure
