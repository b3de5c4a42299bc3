-- By the session: the plain laws of layer 11 (conf), second part: ConfAts.
import Derived.Test.YtalpnhgkhhmmlaaLawsConf1
import Derived.Test.YtalpnhgkhhmmlaaPConfx6
namespace Go.Proofs.Ytalpnhgkhhmmlaa.PConf
open Go.RowKit Go.Proofs.YtalpnhgkhhmmlaaW.PrintWords Go.Proofs.YtalpnhgkhhmmlaaW.PrintLast Go.Proofs.YtalpnhgkhhmmlaaW.PrintMore
set_option linter.unusedVariables false
open Classical

theorem rd_get {l : List Int} {i : Nat} (h : i < l.length) : rd l i = l[i] := by simp [rd, List.getD_eq_getElem?_getD, List.getElem?_eq_getElem h]
theorem ints_eq (a b : List Int) : a = b ↔ a.length = b.length ∧ ∀ i : Nat, i < a.length → rd a i = rd b i := by
  constructor
  · rintro rfl; exact ⟨rfl, fun _ _ => rfl⟩
  · rintro ⟨h1, h2⟩
    refine List.ext_getElem h1 fun i hi hj => ?_
    have := h2 i hi
    rwa [rd_get hi, rd_get hj] at this
theorem ints_loop (a b : List Int) (hl : a.length = b.length) (hn : a.length < 9223372036854775807) : ∀ (d i : Nat), i + d = a.length → Ev (fun k => changeoverref01_Ints.l0 k a b i) (decide (∀ j : Nat, i ≤ j → j < a.length → rd a j = rd b j)) := by
  intro d
  induction d with
  | zero =>
    intro i hi
    refine Ev.step (f := fun _ => some true) (fun k => by simp only [changeoverref01_Ints.l0]; rw [if_neg (by omega)]) ((Ev.now _).to ?_)
    symm
    rw [decide_eq_true_iff]
    exact fun j h1 h2 => by omega
  | succ d ih =>
    intro i hi
    refine Ev.step (fun k => by simp only [changeoverref01_Ints.l0]; rw [if_pos (show (i : Int) < (a.length : Int) by omega), if_pos (Int.natCast_nonneg i), if_pos (show (i : Int) < (b.length : Int) by omega)]) ?_
    by_cases h1 : rd a i = rd b i
    · simp only [if_pos h1, wr1 (show i < 9223372036854775807 by omega)]
      refine (ih (i + 1) (by omega)).to ?_
      rw [decide_eq_decide]
      exact ⟨fun h j h2 h3 => by rcases Nat.eq_or_lt_of_le h2 with e | e; exact e ▸ h1; exact h j e h3, fun h j h2 h3 => h j (by omega) h3⟩
    · simp only [if_neg h1]
      refine (Ev.now _).to ?_
      symm
      rw [decide_eq_false_iff_not]
      exact fun h => h1 (h i (Nat.le_refl _) (by omega))
theorem ints_ev (a b : List Int) (hn : a.length < 9223372036854775807) : Ev (fun k => changeoverref01_Ints.f k a b) (decide (a = b)) := by
  unfold changeoverref01_Ints.f
  by_cases h : (a.length : Int) = (b.length : Int)
  · simp only [if_pos h]
    refine (ints_loop a b (by omega) hn a.length 0 (by omega)).to ?_
    rw [decide_eq_decide, ints_eq]
    exact ⟨fun h2 => ⟨by omega, fun i hi => h2 i (by omega) hi⟩, fun h2 j _ hj => h2.2 j hj⟩
  · simp only [if_neg h]
    refine (Ev.now _).to ?_
    symm
    rw [decide_eq_false_iff_not]
    rintro rfl
    exact h rfl
theorem in_loop (l : List Int) (x : Int) (hn : l.length < 9223372036854775807) : ∀ (d i : Nat), i + d = l.length → Ev (fun k => changeoverref01_In.l0 k l x i) (decide (∃ j : Nat, i ≤ j ∧ j < l.length ∧ rd l j = x)) := by
  intro d
  induction d with
  | zero =>
    intro i hi
    refine Ev.step (f := fun _ => some false) (fun k => by simp only [changeoverref01_In.l0]; rw [if_neg (by omega)]) ((Ev.now _).to ?_)
    symm
    rw [decide_eq_false_iff_not]
    rintro ⟨j, h1, h2, _⟩
    omega
  | succ d ih =>
    intro i hi
    refine Ev.step (fun k => by simp only [changeoverref01_In.l0]; rw [if_pos (show (i : Int) < (l.length : Int) by omega), if_pos (Int.natCast_nonneg i)]) ?_
    by_cases h1 : rd l i = x
    · simp only [if_pos h1]
      refine (Ev.now _).to ?_
      symm
      rw [decide_eq_true_iff]
      exact ⟨i, Nat.le_refl _, by omega, h1⟩
    · simp only [if_neg h1, wr1 (show i < 9223372036854775807 by omega)]
      refine (ih (i + 1) (by omega)).to ?_
      rw [decide_eq_decide]
      exact ⟨fun ⟨j, h2, h3, h4⟩ => ⟨j, by omega, h3, h4⟩, fun ⟨j, h2, h3, h4⟩ => by
        rcases Nat.eq_or_lt_of_le h2 with e | e
        · subst e; exact absurd h4 h1
        · exact ⟨j, e, h3, h4⟩⟩
theorem mem_rd (l : List Int) (x : Int) : x ∈ l ↔ ∃ j : Nat, j < l.length ∧ rd l j = x := by
  rw [List.mem_iff_getElem]
  constructor
  · rintro ⟨i, h, e⟩
    exact ⟨i, h, by rw [rd_get h]; exact e⟩
  · rintro ⟨i, h, e⟩
    exact ⟨i, h, by rw [rd_get h] at e; exact e⟩
theorem in_ev (l : List Int) (x : Int) (hn : l.length < 9223372036854775807) : Ev (fun k => changeoverref01_In.f k l x) (decide (x ∈ l)) :=
  (in_loop l x hn l.length 0 (by omega)).to (by rw [decide_eq_decide, mem_rd]; exact ⟨fun ⟨j, _, h⟩ => ⟨j, h⟩, fun ⟨j, h⟩ => ⟨j, by omega, h⟩⟩)
theorem index_loop (l : List Int) (x : Int) (hn : l.length < 9223372036854775807) : ∀ (d i : Nat), i + d = l.length → ∃ r, Ev (fun k => slices_Index_int_int.l0 k l x (l.length : Int) i) r ∧ (0 ≤ r ↔ ∃ j : Nat, i ≤ j ∧ j < l.length ∧ rd l j = x) := by
  intro d
  induction d with
  | zero =>
    intro i hi
    exact ⟨-1, Ev.step (f := fun _ => some (-1)) (fun k => by simp only [slices_Index_int_int.l0]; rw [if_neg (by omega)]) (Ev.now _), by omega, fun ⟨j, h1, h2, _⟩ => by omega⟩
  | succ d ih =>
    intro i hi
    by_cases h1 : x = rd l i
    · exact ⟨i, Ev.step (f := fun _ => some (i : Int)) (fun k => by simp only [slices_Index_int_int.l0]; rw [if_pos (by omega), if_pos (by omega), if_pos (by omega), if_pos h1]) (Ev.now _), fun _ => ⟨i, Nat.le_refl _, by omega, h1.symm⟩, fun _ => by omega⟩
    · obtain ⟨r, hr, hiff⟩ := ih (i + 1) (by omega)
      refine ⟨r, Ev.step (fun k => by simp only [slices_Index_int_int.l0]; rw [if_pos (show (i : Int) < (l.length : Int) by omega), if_pos (show 0 ≤ (i : Int) by omega), if_pos (show (i : Int) < (l.length : Int) by omega), if_neg h1, wr1 (by omega)]) hr, fun h => ?_, fun ⟨j, h2, h3, h4⟩ => ?_⟩
      · obtain ⟨j, h2, h3, h4⟩ := hiff.1 h
        exact ⟨j, by omega, h3, h4⟩
      · rcases Nat.eq_or_lt_of_le h2 with e | e
        · subst e; exact absurd h4.symm h1
        · exact hiff.2 ⟨j, e, h3, h4⟩
theorem contains_ev (l : List Int) (x : Int) (hn : l.length < 9223372036854775807) : Ev (fun k => slices_Contains_int_int.f k l x) (decide (x ∈ l)) := by
  obtain ⟨r, hr, hiff⟩ := index_loop l x hn l.length 0 (by omega)
  unfold slices_Contains_int_int.f
  refine Ev.bind (show Ev (fun k => slices_Index_int_int.f k l x) r from hr) ((Ev.now _).to ?_)
  rw [decide_eq_decide, mem_rd]
  exact ⟨fun h => by obtain ⟨j, _, h2⟩ := hiff.1 h; exact ⟨j, h2⟩, fun ⟨j, h⟩ => hiff.2 ⟨j, by omega, h⟩⟩
/-! Large -/
theorem large_loop (l : List S39) (hn : l.length < 9223372036854775807) : ∀ (d i : Nat), i + d = 40 → Ev (fun k => changeoverref11_Large.l0 k l i) (decide (l.length > 40 ∨ ∃ j : Nat, i ≤ j ∧ j < 40 ∧ j < l.length ∧ (rd_T39 l j).f1.length > 40)) := by
  have fin : ∀ i : Nat, (40 ≤ i ∨ l.length ≤ i) → decide ((l.length : Int) > 40) = decide (l.length > 40 ∨ ∃ j : Nat, i ≤ j ∧ j < 40 ∧ j < l.length ∧ (rd_T39 l j).f1.length > 40) := fun i h => by
    rw [decide_eq_decide]
    exact ⟨fun h => .inl (by omega), fun h => by rcases h with h | ⟨j, h1, h2, h3, _⟩ <;> omega⟩
  intro d
  induction d with
  | zero =>
    intro i hi
    by_cases h : (i : Int) < (l.length : Int)
    · refine Ev.step (f := fun k => changeoverref11_Large.j1 k l i false) (fun k => by simp only [changeoverref11_Large.l0]; rw [if_pos h]; congr 1; simp; omega) ?_
      exact Ev.step (f := fun _ => some (decide ((l.length : Int) > 40))) (fun k => by simp [changeoverref11_Large.j1]) ((Ev.now _).to (fin i (by omega)))
    · refine Ev.step (f := fun k => changeoverref11_Large.j1 k l i false) (fun k => by simp only [changeoverref11_Large.l0]; rw [if_neg h]) ?_
      exact Ev.step (f := fun _ => some (decide ((l.length : Int) > 40))) (fun k => by simp [changeoverref11_Large.j1]) ((Ev.now _).to (fin i (by omega)))
  | succ d ih =>
    intro i hi
    by_cases h : (i : Int) < (l.length : Int)
    case neg =>
      refine Ev.step (f := fun k => changeoverref11_Large.j1 k l i false) (fun k => by simp only [changeoverref11_Large.l0]; rw [if_neg h]) ?_
      exact Ev.step (f := fun _ => some (decide ((l.length : Int) > 40))) (fun k => by simp [changeoverref11_Large.j1]) ((Ev.now _).to (fin i (by omega)))
    refine Ev.step (f := fun k => changeoverref11_Large.j1 k l i true) (fun k => by simp only [changeoverref11_Large.l0]; rw [if_pos h]; congr 1; simp; omega) ?_
    refine Ev.step (fun k => by simp only [changeoverref11_Large.j1, if_true]; rw [if_pos (Int.natCast_nonneg i), if_pos h]) ?_
    by_cases h1 : ((rd_T39 l i).f1.length : Int) > 40
    · simp only [if_pos h1]
      refine (Ev.now _).to ?_
      symm
      rw [decide_eq_true_iff]
      exact .inr ⟨i, Nat.le_refl _, by omega, by omega, by omega⟩
    · simp only [if_neg h1, wr1 (show i < 9223372036854775807 by omega)]
      refine (ih (i + 1) (by omega)).to ?_
      rw [decide_eq_decide]
      constructor
      · rintro (h2 | ⟨j, h2, h3, h4, h5⟩)
        · exact .inl h2
        · exact .inr ⟨j, by omega, h3, h4, h5⟩
      · rintro (h2 | ⟨j, h2, h3, h4, h5⟩)
        · exact .inl h2
        · rcases Nat.eq_or_lt_of_le h2 with e | e
          · subst e; exact absurd h5 (by omega)
          · exact .inr ⟨j, e, h3, h4, h5⟩
def Small (l : List S39) : Prop := l.length ≤ 40 ∧ ∀ j : Nat, j < l.length → (rd_T39 l j).f1.length ≤ 40
theorem large_ev (l : List S39) (hn : l.length < 9223372036854775807) : Ev (fun k => changeoverref11_Large.f k l) (decide (¬ Small l)) := by
  refine (show Ev (fun k => changeoverref11_Large.f k l) _ from large_loop l hn 40 0 rfl).to ?_
  rw [decide_eq_decide]
  constructor
  · rintro (h | ⟨j, _, _, h3, h4⟩) h2
    · have := h2.1; omega
    · have := h2.2 j h3; omega
  · intro h
    rcases Decidable.em (l.length > 40) with h2 | h2
    · exact .inl h2
    · right
      refine Classical.byContradiction fun hne => h ⟨by omega, fun j hj => ?_⟩
      rcases Nat.lt_or_ge 40 (rd_T39 l j).f1.length with h3 | h3
      · exact absurd ⟨j, by omega, by omega, hj, h3⟩ hne
      · exact h3
/-! place -/
def placeOf (l : List S39) (a : Int) : Int := (l.foldl (fun (s : Int × Int) c => (s.1 + 1, if c.f0 ≤ a then s.1 else s.2)) ((0 : Int), (-1 : Int))).2
theorem placeOf_fst (l : List S39) (a : Int) : (l.foldl (fun (s : Int × Int) c => (s.1 + 1, if c.f0 ≤ a then s.1 else s.2)) ((0 : Int), (-1 : Int))).1 = l.length := by
  suffices ∀ s : Int × Int, (l.foldl (fun (s : Int × Int) c => (s.1 + 1, if c.f0 ≤ a then s.1 else s.2)) s).1 = s.1 + l.length by simpa using this (0, -1)
  induction l with
  | nil => intro s; simp
  | cons x r ih => intro s; rw [List.foldl_cons, ih]; simp; omega
theorem placeOf_snoc (l : List S39) (x : S39) (a : Int) : placeOf (l ++ [x]) a = if x.f0 ≤ a then (l.length : Int) else placeOf l a := by
  unfold placeOf
  rw [List.foldl_append, List.foldl_cons, List.foldl_nil, placeOf_fst]
theorem place_loop (l : List S39) (a : Int) (hn : l.length < 9223372036854775807) : ∀ (d i : Nat), i + d = l.length → Ev (fun k => conf_place.l0 k a (placeOf (l.take i) a) l (l.length : Int) i) (placeOf l a) := by
  intro d
  induction d with
  | zero =>
    intro i hi
    obtain rfl : i = l.length := by omega
    rw [List.take_length]
    exact Ev.step (f := fun _ => some (placeOf l a)) (fun k => by simp only [conf_place.l0]; rw [if_neg (by omega)]) (Ev.now _)
  | succ d ih =>
    intro i hi
    refine Ev.step (fun k => by simp only [conf_place.l0]; rw [if_pos (show (i : Int) < (l.length : Int) by omega), if_pos (Int.natCast_nonneg i), if_pos (show (i : Int) < (l.length : Int) by omega)]) ?_
    have h := ih (i + 1) (by omega)
    rw [take_snoc39 l i (by omega), placeOf_snoc, List.length_take, Nat.min_eq_left (by omega)] at h
    by_cases h1 : (rd_T39 l i).f0 ≤ a
    · simp only [if_pos h1, wr1 (show i < 9223372036854775807 by omega)] at h ⊢
      exact h
    · simp only [if_neg h1, wr1 (show i < 9223372036854775807 by omega)] at h ⊢
      exact h
theorem place_ev (l : List S39) (a : Int) (hn : l.length < 9223372036854775807) : Ev (fun k => conf_place.f k l a) (placeOf l a) := place_loop l a hn l.length 0 (by omega)
/-- the place, and what stands there -/
theorem place_tells (l : List S39) (a : Int) : ∀ i : Nat, i ≤ l.length → (placeOf (l.take i) a = -1 ∧ (∀ j : Nat, j < i → ¬ (rd_T39 l j).f0 ≤ a) ∧ atF (l.take i) a = []) ∨
    ∃ p : Nat, p < i ∧ placeOf (l.take i) a = p ∧ (rd_T39 l p).f0 ≤ a ∧ (∀ j : Nat, p < j → j < i → ¬ (rd_T39 l j).f0 ≤ a) ∧ atF (l.take i) a = (rd_T39 l p).f1 := by
  intro i
  induction i with
  | zero => intro _; exact .inl ⟨by simp [placeOf], fun j hj => by omega, by simp [atF]⟩
  | succ i ih =>
    intro hi
    rw [take_snoc39 l i (by omega), placeOf_snoc, atF_snoc, List.length_take, Nat.min_eq_left (by omega)]
    by_cases h1 : (rd_T39 l i).f0 ≤ a
    · exact .inr ⟨i, by omega, by rw [if_pos h1], h1, fun j h2 h3 => by omega, by rw [if_pos h1]⟩
    · rw [if_neg h1, if_neg h1]
      rcases ih (by omega) with ⟨h2, h3, h4⟩ | ⟨p, h2, h3, h4, h5, h6⟩
      · refine .inl ⟨h2, fun j hj => ?_, h4⟩
        rcases Nat.lt_succ_iff_lt_or_eq.1 hj with e | e
        · exact h3 j e
        · subst e; exact h1
      · refine .inr ⟨p, by omega, h3, h4, fun j hj1 hj2 => ?_, h6⟩
        rcases Nat.lt_succ_iff_lt_or_eq.1 hj2 with e | e
        · exact h5 j hj1 e
        · subst e; exact h1
theorem place_whole (l : List S39) (a : Int) : (placeOf l a = -1 ∧ (∀ j : Nat, j < l.length → ¬ (rd_T39 l j).f0 ≤ a) ∧ atF l a = []) ∨
    ∃ p : Nat, p < l.length ∧ placeOf l a = p ∧ (rd_T39 l p).f0 ≤ a ∧ (∀ j : Nat, p < j → j < l.length → ¬ (rd_T39 l j).f0 ≤ a) ∧ atF l a = (rd_T39 l p).f1 := by
  have := place_tells l a l.length (Nat.le_refl _)
  rwa [List.take_length] at this
theorem mOk_len {m : List Int} (h : mOk m) : m.length ≤ 9 := by
  have key : ∀ i : Nat, i < m.length → (i : Int) + 1 ≤ rd m i := by
    intro i
    induction i with
    | zero => intro hi; have := (h.2 0 hi).1; omega
    | succ i ih =>
      intro hi
      have h1 := ih (by omega)
      have h2 := (h.2 (i + 1) hi).2.2 (by omega)
      simp only [Nat.add_sub_cancel] at h2
      omega
  rcases Nat.lt_or_ge 9 m.length with h1 | h1
  · have := key 9 h1
    have := (h.2 9 h1).2.1
    omega
  · exact h1
theorem clone_ev (m : List Int) (h : m.length < 17592186044416) : slices_Clone_int_int.f m = some m := by unfold slices_Clone_int_int.f; rw [if_pos h]
theorem at_ev (l : List S39) (a : Int) (hn : Fits l) : Ev (fun k => conf_At.f k l a) (if cOk l ∧ 1 ≤ a then atF l a else []) := by
  unfold conf_At.f
  refine Ev.bind (check_ev l hn) ?_
  by_cases h : cOk l
  · simp only [if_pos h, if_true]
    by_cases h1 : 1 ≤ a
    · rw [if_pos ⟨h, h1⟩]
      refine Ev.step (f := fun k => (conf_place.f k l a).bind fun t176 => (if 0 ≤ t176 then (if t176 < (l.length : Int) then ((slices_Clone_int_int.f ((rd_T39 l t176).f1)).bind fun t178 => (some t178)) else (none)) else (none))) (fun k => by simp only [conf_At.j0]; rw [if_neg (by simp; omega)]) ?_
      refine Ev.bind (place_ev l a hn.1) ?_
      rcases place_whole l a with ⟨h2, h3, _⟩ | ⟨p, h2, h3, h4, _, h5⟩
      · have h6 : ¬ (rd_T39 l 0).f0 ≤ a := h3 0 h.1
        have := h.2.1
        omega
      · have hl := mOk_len (h.2.2 p h2).1
        simp only [h3, if_pos (show 0 ≤ (p : Int) by omega), if_pos (show (p : Int) < (l.length : Int) by omega), clone_ev _ (show (rd_T39 l p).f1.length < 17592186044416 by omega), Option.bind_some, h5]
        exact Ev.now _
    · rw [if_neg (fun h2 => h1 h2.2)]
      exact Ev.step (f := fun _ => some []) (fun k => by simp only [conf_At.j0]; rw [if_pos (by simp; omega)]) (Ev.now _)
  · simp only [if_neg h, if_neg (show ¬ ((3 : Int) = 0) by omega), if_neg (fun h2 : cOk l ∧ 1 ≤ a => h h2.1)]
    exact Ev.step (f := fun _ => some []) (fun k => by simp [conf_At.j0]) (Ev.now _)
theorem atF_len (l : List S39) (a : Int) (h : Small l) : (atF l a).length ≤ 40 := by
  rcases place_whole l a with ⟨_, _, h5⟩ | ⟨p, h2, _, _, _, h5⟩
  · rw [h5]; simp
  · rw [h5]; exact h.2 p h2
theorem awake_ev : Ev (fun k => changeoverlaw11_awake.f k) true := Ev.of (fun k => changeoverlaw11_awake.mono k) (k := 60) (by decide +kernel)
theorem ConfAts_pure (l : List S39) (a b : Int) (hn : l.length < 9223372036854775807) : ∃ k, changeoverlaw11_ConfAts.f k l a b = some true := by
  refine Ev.rounds (g := fun k => changeoverlaw11_ConfAts.f k l a b) ?_
  unfold changeoverlaw11_ConfAts.f
  refine Ev.bind (large_ev l hn) ?_
  by_cases hs : Small l
  case neg =>
    simp only [hs, not_false_eq_true, decide_true, if_true]
    exact Ev.bind awake_ev (Ev.now _)
  have hf : Fits l := ⟨hn, fun i hi => by have := hs.2 i hi; omega⟩
  simp only [hs, not_true_eq_false, decide_false, Bool.false_eq_true, if_false]
  refine Ev.bind (refcheck_ev l hf) ?_
  have key : ∀ w : List Int, w.length ≤ 40 → w = (if cOk l ∧ 1 ≤ a then atF l a else []) → Ev (fun k => changeoverlaw11_ConfAts.j1 k l a b (decide (cOk l)) w) true := by
    intro w hw he
    refine Ev.step (f := fun k => _) (fun k => by simp only [changeoverlaw11_ConfAts.j1]; rfl) ?_
    refine Ev.bind (check_ev l hf) ?_
    have hc : (((if cOk l then (0 : Int) else 3) == 0) == decide (cOk l)) = true := by by_cases h : cOk l <;> simp [h]
    have body : Ev (fun k => ((conf_At.f k l a).bind fun t195 => ((changeoverref01_Ints.f k t195 w).bind fun t198 => (if t198 = true then ((conf_Is.f k l a b).bind fun t199 => ((changeoverref01_In.f k w b).bind fun t200 => (if (t199 == t200) = true then ((changeoverlaw11_awake.f k).bind fun t201 => (some t201)) else (some false)))) else (some false))))) true := by
      refine Ev.bind (at_ev l a hf) ?_
      rw [← he]
      refine Ev.bind (ints_ev w w (by omega)) ?_
      simp only [decide_true, if_true]
      refine Ev.bind (a := decide (b ∈ w)) ?_ ?_
      · unfold conf_Is.f
        refine Ev.bind (at_ev l a hf) ?_
        rw [← he]
        exact Ev.bind (contains_ev w b (by omega)) (Ev.now _)
      refine Ev.bind (in_ev w b (by omega)) ?_
      simp only [beq_self_eq_true, if_true]
      exact Ev.bind awake_ev (Ev.now _)
    simp only [hc, if_true]
    by_cases h : cOk l
    · simp only [h, decide_true, if_true]
      exact body
    · simp only [h, decide_false, Bool.false_eq_true, if_false]
      refine Ev.bind (check_ev l hf) ?_
      simp only [h, if_false, if_true]
      exact body
  by_cases h : cOk l
  · simp only [h, decide_true, if_true]
    have key := key
    simp only [h, decide_true, true_and] at key
    by_cases h1 : 1 ≤ a
    · refine Ev.step (f := fun k => (changeoverref11_At.f l a).bind fun t191 => (changeoverlaw11_ConfAts.j1 k l a b true t191)) (fun k => by simp only [changeoverlaw11_ConfAts.j0]; rw [if_pos (by simp; omega)]) ?_
      simp only [changeoverref11_At.f, Option.bind_some]
      exact key _ (atF_len l a hs) (by rw [if_pos h1])
    · refine Ev.step (f := fun k => (changeoverlaw11_ConfAts.j1 k l a b true [])) (fun k => by simp only [changeoverlaw11_ConfAts.j0]; rw [if_neg (by simp; omega)]) ?_
      exact key _ (by simp) (by rw [if_neg h1])
  · simp only [h, decide_false, Bool.false_eq_true, if_false]
    have key := key
    simp only [h, decide_false, false_and, if_false] at key
    refine Ev.step (f := fun k => (changeoverlaw11_ConfAts.j1 k l a b false [])) (fun k => by simp [changeoverlaw11_ConfAts.j0]) ?_
    exact key _ (by simp) rfl
end Go.Proofs.Ytalpnhgkhhmmlaa.PConf
