-- By the session: contracts proved by hand.
import Derived.Test.YtncmkcggkgahnaaHBag18
namespace Go.Proofs.Ytncmkcggkgahnaa.PBag
open Go.RowKit Go.Proofs.YtncmkcggkgahnaaW.PrintWords Go.Proofs.YtncmkcggkgahnaaW.PrintLast Go.Proofs.YtncmkcggkgahnaaW.PrintMore
set_option linter.unusedVariables false
set_option linter.unusedSimpArgs false
theorem _root_.Go.Proofs.YtncmkcggkgahnaaW.PrintWords.Ev.to {α : Type} {g : Nat → Option α} {r r' : α} (h : Ev g r) (e : r = r') : Ev g r' := e ▸ h
theorem all_same (l : List S30) (hl : l.length < 9223372036854775807) (hd : ∀ p ∈ l, p.f2.length < 9223372036854775807) : Ev (fun k => changeoverref38_All.f k l l) true := by
  have key : ∀ (m i : Nat), i + m = l.length → Ev (fun k => changeoverref38_All.l0 k l l i) true := by
    intro m
    induction m with
    | zero =>
      intro i hi
      exact Ev.step (f := fun _ => some true) (fun k => by simp only [changeoverref38_All.l0]; rw [if_neg (by omega)]) (Ev.now _)
    | succ m ih =>
      intro i hi
      have hw : wrap64 ((i : Int) + 1) = ((i + 1 : Nat) : Int) := by unfold wrap64; omega
      have hm : rd_T30 l (i : Int) ∈ l := by
        rw [rdP_T30]
        unfold rdP
        rw [List.getD_eq_getElem?_getD, List.getElem?_eq_getElem (show i < l.length by omega)]
        exact List.getElem_mem _
      refine Ev.step (fun k => by
        simp only [changeoverref38_All.l0]
        rw [if_pos (show (i : Int) < (l.length : Int) by omega), if_pos (Int.natCast_nonneg i), if_pos (show (i : Int) < (l.length : Int) by omega), hw]) ?_
      refine Ev.bind (a := true) ?_ ?_
      · unfold changeoverref38_Same.f
        simp only [if_true]
        exact Ev.bind (bytes_same _ (hd _ hm)) (Ev.now _)
      · simp only [if_true]
        exact ih (i + 1) (by omega)
  unfold changeoverref38_All.f
  simp only [if_true]
  exact key l.length 0 (by omega)
theorem ints_same (d : List Int) (hn : d.length < 9223372036854775807) : Ev (fun k => changeoverref01_Ints.f k d d) true := by
  have key : ∀ (m i : Nat), i + m = d.length → Ev (fun k => changeoverref01_Ints.l0 k d d i) true := by
    intro m
    induction m with
    | zero =>
      intro i hi
      exact Ev.step (f := fun _ => some true) (fun k => by simp only [changeoverref01_Ints.l0]; rw [if_neg (by omega)]) (Ev.now _)
    | succ m ih =>
      intro i hi
      have hw : wrap64 ((i : Int) + 1) = ((i + 1 : Nat) : Int) := by unfold wrap64; omega
      refine Ev.step (f := fun k => changeoverref01_Ints.l0 k d d ((i + 1 : Nat) : Int)) (fun k => by
        simp only [changeoverref01_Ints.l0, if_true]
        rw [if_pos (show (i : Int) < (d.length : Int) by omega), if_pos (Int.natCast_nonneg i), if_pos (show (i : Int) < (d.length : Int) by omega), hw]) (ih (i + 1) (by omega))
  unfold changeoverref01_Ints.f
  simp only [if_true]
  exact key d.length 0 (by omega)
/-! large -/
def SmallS (L : List S34) : Prop := L.length ≤ 80 ∧ ∀ j : Nat, j < L.length → (rd_T34 L j).f2.f2.length ≤ 50
open Classical in
theorem largeS_loop (L : List S34) (hn : L.length < 9223372036854775807) : ∀ (d i : Nat), i + d = 80 → Ev (fun k => changeoverlaw38_large.l0 k L i) (decide (L.length > 80 ∨ ∃ j : Nat, i ≤ j ∧ j < 80 ∧ j < L.length ∧ (rd_T34 L j).f2.f2.length > 50)) := by
  have fin : ∀ i : Nat, (80 ≤ i ∨ L.length ≤ i) → decide ((L.length : Int) > 80) = decide (L.length > 80 ∨ ∃ j : Nat, i ≤ j ∧ j < 80 ∧ j < L.length ∧ (rd_T34 L j).f2.f2.length > 50) := fun i h => by
    rw [decide_eq_decide]
    exact ⟨fun h => .inl (by omega), fun h => by rcases h with h | ⟨j, h1, h2, h3, _⟩ <;> omega⟩
  intro d
  induction d with
  | zero =>
    intro i hi
    by_cases h : (i : Int) < (L.length : Int)
    · refine Ev.step (f := fun k => changeoverlaw38_large.j1 k L i false) (fun k => by simp only [changeoverlaw38_large.l0]; rw [if_pos h]; congr 1; simp; omega) ?_
      exact Ev.step (f := fun _ => some (decide ((L.length : Int) > 80))) (fun k => by simp [changeoverlaw38_large.j1]) ((Ev.now _).to (fin i (by omega)))
    · refine Ev.step (f := fun k => changeoverlaw38_large.j1 k L i false) (fun k => by simp only [changeoverlaw38_large.l0]; rw [if_neg h]) ?_
      exact Ev.step (f := fun _ => some (decide ((L.length : Int) > 80))) (fun k => by simp [changeoverlaw38_large.j1]) ((Ev.now _).to (fin i (by omega)))
  | succ d ih =>
    intro i hi
    by_cases h : (i : Int) < (L.length : Int)
    case neg =>
      refine Ev.step (f := fun k => changeoverlaw38_large.j1 k L i false) (fun k => by simp only [changeoverlaw38_large.l0]; rw [if_neg h]) ?_
      exact Ev.step (f := fun _ => some (decide ((L.length : Int) > 80))) (fun k => by simp [changeoverlaw38_large.j1]) ((Ev.now _).to (fin i (by omega)))
    have hw : wrap64 ((i : Int) + 1) = ((i + 1 : Nat) : Int) := by unfold wrap64; omega
    refine Ev.step (f := fun k => changeoverlaw38_large.j1 k L i true) (fun k => by simp only [changeoverlaw38_large.l0]; rw [if_pos h]; congr 1; simp; omega) ?_
    refine Ev.step (fun k => by simp only [changeoverlaw38_large.j1, if_true]; rw [if_pos (Int.natCast_nonneg i), if_pos h]) ?_
    by_cases h1 : ((rd_T34 L i).f2.f2.length : Int) > 50
    · simp only [if_pos h1]
      refine (Ev.now _).to ?_
      symm
      rw [decide_eq_true_iff]
      exact .inr ⟨i, Nat.le_refl _, by omega, by omega, by omega⟩
    · simp only [if_neg h1, hw]
      refine (ih (i + 1) (by omega)).to ?_
      rw [decide_eq_decide]
      constructor
      · rintro (h2 | ⟨j, h2, h3, h4, h5⟩)
        · exact .inl h2
        · exact .inr ⟨j, by omega, h3, h4, h5⟩
      · rintro (h2 | ⟨j, h2, h3, h4, h5⟩)
        · exact .inl h2
        · rcases Nat.eq_or_lt_of_le h2 with e | e
          · subst e; exact absurd h5 (by omega)
          · exact .inr ⟨j, e, h3, h4, h5⟩
open Classical in
theorem largeS_ev (L : List S34) (hn : L.length < 9223372036854775807) : Ev (fun k => changeoverlaw38_large.f k L) (decide (¬ SmallS L)) := by
  unfold changeoverlaw38_large.f
  refine (largeS_loop L hn 80 0 (by omega)).to ?_
  rw [decide_eq_decide]
  unfold SmallS
  constructor
  · rintro (h | ⟨j, _, h2, h3, h4⟩) ⟨h5, h6⟩
    · omega
    · have := h6 j h3; omega
  · intro h
    by_cases h1 : L.length > 80
    · exact .inl h1
    · right
      refine Classical.byContradiction fun hne => h ⟨by omega, fun j hj => ?_⟩
      rcases Nat.lt_or_ge 50 (rd_T34 L j).f2.f2.length with h3 | h3
      · exact absurd ⟨j, by omega, by omega, hj, h3⟩ hne
      · exact h3
/-! what is there behind steps -/
def allL (L : List S34) : List S30 := L.foldl (fun l s => stepL l s.f0 s.f1 s.f2) []
theorem step_mem {l : List S30} {kd n : Int} {p q : S30} (h : q ∈ stepL l kd n p) : q ∈ l ∨ q = p := by
  have put : ∀ (l : List S30) (p : S30), q ∈ putL l p → q ∈ l ∨ q = p := fun l p h => by
    unfold putL at h
    split at h
    · simpa using h
    · exact .inl h
  unfold stepL at h
  split at h
  · exact put l p h
  · split at h
    · unfold takeL at h
      split at h
      · rcases List.mem_append.1 h with h | h
        · exact .inl (List.mem_of_mem_take h)
        · exact .inl (List.mem_of_mem_drop h)
      · exact .inl h
    · split at h
      · unfold twiceL at h
        split at h
        · rename_i hn
          rcases put l _ h with h | h
          · exact .inl h
          · refine .inl ?_
            rw [h]
            unfold rdP
            rw [List.getD_eq_getElem?_getD, List.getElem?_eq_getElem (show n.toNat < l.length by omega)]
            exact List.getElem_mem _
        · exact .inl h
      · exact .inl h
theorem put_len (l : List S30) (p : S30) : (putL l p).length ≤ l.length + 1 := by unfold putL; split <;> simp
theorem step_len (l : List S30) (kd n : Int) (p : S30) : (stepL l kd n p).length ≤ l.length + 1 := by
  unfold stepL
  split
  · exact put_len l p
  · split
    · unfold takeL; split
      · rw [List.length_append, List.length_take, List.length_drop]; omega
      · omega
    · split
      · unfold twiceL; split
        · exact put_len l _
        · omega
      · omega
theorem allL_snoc (L : List S34) (i : Nat) (h : i < L.length) : allL (L.take (i + 1)) = stepL (allL (L.take i)) (rd_T34 L i).f0 (rd_T34 L i).f1 (rd_T34 L i).f2 := by
  unfold allL
  rw [List.take_succ_eq_append_getElem h, List.foldl_append]
  simp [rd_T34, List.getD_eq_getElem?_getD, List.getElem?_eq_getElem h]
theorem allL_ok (L : List S34) (hs : SmallS L) : ∀ i : Nat, i ≤ L.length → (allL (L.take i)).length ≤ i ∧ ∀ q ∈ allL (L.take i), q.f2.length ≤ 50 := by
  intro i
  induction i with
  | zero => intro _; simp [allL]
  | succ i ih =>
    intro hi
    obtain ⟨h1, h2⟩ := ih (by omega)
    rw [allL_snoc L i (by omega)]
    refine ⟨Nat.le_trans (step_len _ _ _ _) (by omega), fun q hq => ?_⟩
    rcases step_mem hq with h | h
    · exact h2 q h
    · rw [h]; exact hs.2 i (by omega)
end Go.Proofs.Ytncmkcggkgahnaa.PBag
