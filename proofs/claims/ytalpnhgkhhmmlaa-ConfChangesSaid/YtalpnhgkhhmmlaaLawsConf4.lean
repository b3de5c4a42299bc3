-- By the session: the plain laws of layer 11 (conf), fourth part: changed, Changed, Change.
import Derived.Test.YtalpnhgkhhmmlaaLawsConf3
import Derived.Test.YtalpnhgkhhmmlaaHConf5
import Derived.Test.YtalpnhgkhhmmlaaPConfx10
namespace Go.Proofs.Ytalpnhgkhhmmlaa.PConf
open Go.RowKit Go.Proofs.YtalpnhgkhhmmlaaW.PrintWords Go.Proofs.YtalpnhgkhhmmlaaW.PrintLast Go.Proofs.YtalpnhgkhhmmlaaW.PrintMore
set_option linter.unusedVariables false
open Classical

theorem sorted_ext : ∀ (a b : List Int), a.Pairwise (· < ·) → b.Pairwise (· < ·) → (∀ x, x ∈ a ↔ x ∈ b) → a = b
  | [], [], _, _, _ => rfl
  | [], y :: b, _, _, h => absurd ((h y).2 List.mem_cons_self) (by simp)
  | x :: a, [], _, _, h => absurd ((h x).1 List.mem_cons_self) (by simp)
  | x :: a, y :: b, ha, hb, h => by
    obtain ⟨ha1, ha2⟩ := List.pairwise_cons.1 ha
    obtain ⟨hb1, hb2⟩ := List.pairwise_cons.1 hb
    have hxy : x = y := by
      have h1 := (h x).1 List.mem_cons_self
      have h2 := (h y).2 List.mem_cons_self
      rcases List.mem_cons.1 h1 with h1 | h1
      · exact h1
      · rcases List.mem_cons.1 h2 with h2 | h2
        · exact h2.symm
        · have := hb1 x h1; have := ha1 y h2; omega
    subst hxy
    rw [sorted_ext a b ha2 hb2 (fun z => ?_)]
    constructor
    · intro hz
      rcases List.mem_cons.1 ((h z).1 (List.mem_cons_of_mem _ hz)) with e | e
      · subst e; exact absurd (ha1 z hz) (by omega)
      · exact e
    · intro hz
      rcases List.mem_cons.1 ((h z).2 (List.mem_cons_of_mem _ hz)) with e | e
      · subst e; exact absurd (hb1 z hz) (by omega)
      · exact e
theorem mOk_up {m : List Int} (h : mOk m) : ∀ (j i : Nat), i < j → j < m.length → rd m i < rd m j := by
  intro j
  induction j with
  | zero => intro i hi; omega
  | succ j ih =>
    intro i hi hj
    have h2 := (h.2 (j + 1) hj).2.2 (by omega)
    simp only [Nat.add_sub_cancel] at h2
    rcases Nat.lt_succ_iff_lt_or_eq.1 hi with e | e
    · have := ih i e (by omega); omega
    · subst e; exact h2
theorem mOk_sorted {m : List Int} (h : mOk m) : m.Pairwise (· < ·) := by
  rw [List.pairwise_iff_getElem]
  intro i j hi hj hij
  have := mOk_up h j i hij hj
  rwa [rd_get hi, rd_get hj] at this
theorem mOk_range {m : List Int} (h : mOk m) : ∀ x ∈ m, 1 ≤ x ∧ x ≤ 9 := by
  intro x hx
  obtain ⟨j, hj, rfl⟩ := (mem_rd m x).1 hx
  exact ⟨(h.2 j hj).1, (h.2 j hj).2.1⟩
theorem mOk_of {m : List Int} (h0 : 0 < m.length) (h1 : m.Pairwise (· < ·)) (h2 : ∀ x ∈ m, 1 ≤ x ∧ x ≤ 9) : mOk m := by
  refine ⟨h0, fun i hi => ?_⟩
  have hx := h2 (rd m i) ((mem_rd m _).2 ⟨i, hi, rfl⟩)
  refine ⟨hx.1, hx.2, fun h => ?_⟩
  rw [rd_get hi, rd_get (show i - 1 < m.length by omega)]
  exact List.pairwise_iff_getElem.1 h1 (i - 1) i (by omega) hi (by omega)
/-- BinarySearch -/
def Cut (m : List Int) (x : Int) (i : Nat) : Prop := i ≤ m.length ∧ (∀ j : Nat, j < i → rd m j < x) ∧ ∀ j : Nat, i ≤ j → j < m.length → x ≤ rd m j
theorem bs_loop (m : List Int) (x : Int) (hm : mOk m) : ∀ (d a b : Nat), b - a = d → a ≤ b → b ≤ m.length → (∀ j : Nat, j < a → rd m j < x) → (∀ j : Nat, b ≤ j → j < m.length → x ≤ rd m j) →
    ∃ i : Nat, Cut m x i ∧ Ev (fun k => slices_BinarySearch_int_int.l0 k m x (m.length : Int) a b) ((i : Int), decide (x ∈ m)) := by
  have hl := mOk_len hm
  intro d
  induction d using Nat.strongRecOn with
  | ind d ih =>
    intro a b hd hab hb h1 h2
    rcases Nat.eq_or_lt_of_le hab with e | e
    · subst e
      refine ⟨a, ⟨hb, h1, h2⟩, ?_⟩
      refine Ev.step (fun k => by simp only [slices_BinarySearch_int_int.l0]; rw [if_neg (show ¬ (a : Int) < (a : Int) by omega)]) ?_
      by_cases ha : (a : Int) < (m.length : Int)
      · simp only [if_pos ha, if_pos (show (0 : Int) ≤ (a : Int) by omega)]
        by_cases hx : rd m a = x
        · simp only [if_pos hx]
          refine (Ev.now _).to ?_
          rw [Prod.mk.injEq]
          refine ⟨rfl, ?_⟩
          symm
          rw [decide_eq_true_iff]
          exact (mem_rd m x).2 ⟨a, by omega, hx⟩
        · simp only [if_neg hx, slices_isNaN_int.f, Option.bind_some, bne_self_eq_false, Bool.false_eq_true, if_false]
          refine (Ev.now _).to ?_
          rw [Prod.mk.injEq]
          refine ⟨rfl, ?_⟩
          symm
          rw [decide_eq_false_iff_not]
          intro hmem
          obtain ⟨j, hj, hj2⟩ := (mem_rd m x).1 hmem
          rcases Nat.lt_trichotomy j a with h | h | h
          · have := h1 j h; omega
          · subst h; exact hx hj2
          · have := mOk_up hm j a h hj; have := h2 a (Nat.le_refl _) (by omega); omega
      · simp only [if_neg ha]
        refine (Ev.now _).to ?_
        rw [Prod.mk.injEq]
        refine ⟨rfl, ?_⟩
        symm
        rw [decide_eq_false_iff_not]
        intro hmem
        obtain ⟨j, hj, hj2⟩ := (mem_rd m x).1 hmem
        have := h1 j (by omega)
        omega
    · have hmid : wrap64 ((IntKind.u64.wrap (wrap64 ((a : Int) + (b : Int)))) / 2) = (((a + b) / 2 : Nat) : Int) := by
        have h1 : wrap64 ((a : Int) + (b : Int)) = (a : Int) + (b : Int) := by unfold wrap64; omega
        have h2 : IntKind.u64.wrap ((a : Int) + (b : Int)) = (a : Int) + (b : Int) := by
          simp [IntKind.wrap, IntKind.signed, IntKind.bits]
          omega
        rw [h1, h2]
        unfold wrap64
        omega
      obtain ⟨c, hc⟩ : ∃ c, c = (a + b) / 2 := ⟨_, rfl⟩
      rw [← hc] at hmid
      have hw : wrap64 ((c : Int) + 1) = ((c + 1 : Nat) : Int) := wr1 (by omega)
      by_cases hx : rd m c < x
      · obtain ⟨i, hi, hE⟩ := ih (b - (c + 1)) (by omega) (c + 1) b rfl (by omega) hb (fun j hj => by
          rcases Nat.lt_succ_iff_lt_or_eq.1 hj with h | h
          · have := mOk_up hm c j h (by omega); omega
          · subst h; exact hx) h2
        refine ⟨i, hi, ?_⟩
        refine Ev.step (f := fun k => slices_BinarySearch_int_int.l0 k m x (m.length : Int) ((c + 1 : Nat) : Int) b) (fun k => by
          simp only [slices_BinarySearch_int_int.l0]
          rw [if_pos (show (a : Int) < (b : Int) by omega), hmid, if_pos (show (0 : Int) ≤ (c : Int) by omega), if_pos (show (c : Int) < (m.length : Int) by omega), hw]
          simp [cmp_Less_int.f, cmp_isNaN_int.f, hx]) hE
      · obtain ⟨i, hi, hE⟩ := ih (c - a) (by omega) a c rfl (by omega) (by omega) h1 (fun j hj hj2 => by
          rcases Nat.eq_or_lt_of_le hj with h | h
          · subst h; omega
          · have := mOk_up hm j c h hj2; omega)
        refine ⟨i, hi, ?_⟩
        refine Ev.step (f := fun k => slices_BinarySearch_int_int.l0 k m x (m.length : Int) a c) (fun k => by
          simp only [slices_BinarySearch_int_int.l0]
          rw [if_pos (show (a : Int) < (b : Int) by omega), hmid, if_pos (show (0 : Int) ≤ (c : Int) by omega), if_pos (show (c : Int) < (m.length : Int) by omega), hw]
          simp [cmp_Less_int.f, cmp_isNaN_int.f, hx]) hE
theorem bs_ev (m : List Int) (x : Int) (hm : mOk m) : ∃ i : Nat, Cut m x i ∧ Ev (fun k => slices_BinarySearch_int_int.f k m x) ((i : Int), decide (x ∈ m)) :=
  bs_loop m x hm _ 0 m.length rfl (by omega) (Nat.le_refl _) (fun j hj => by omega) (fun j h1 h2 => by omega)

/-- the members with one more, without one -/
def upTo (m : List Int) (x : Int) (c : Nat) : List Int := (((List.range c).map fun i : Nat => (i : Int) + 1)).filter fun n => decide (n = x ∨ n ∈ m)
def insF (m : List Int) (x : Int) : List Int := upTo m x 9
def delF (m : List Int) (x : Int) : List Int := m.filter fun n => decide (n ≠ x)
theorem mem_upTo (m : List Int) (x : Int) (c : Nat) (y : Int) : y ∈ upTo m x c ↔ (1 ≤ y ∧ y ≤ c) ∧ (y = x ∨ y ∈ m) := by
  unfold upTo
  rw [List.mem_filter, decide_eq_true_iff, List.mem_map]
  refine and_congr_left fun _ => ?_
  constructor
  · rintro ⟨i, hi, rfl⟩
    rw [List.mem_range] at hi
    omega
  · intro h
    exact ⟨(y - 1).toNat, List.mem_range.2 (by omega), by omega⟩
theorem upTo_sorted (m : List Int) (x : Int) (c : Nat) : (upTo m x c).Pairwise (· < ·) := by
  refine List.Pairwise.filter _ ?_
  rw [List.pairwise_map]
  exact List.Pairwise.imp (fun h => by omega) (List.pairwise_lt_range)
theorem ins_ok (m : List Int) (x : Int) (hm : mOk m) (h1 : 1 ≤ x) (h2 : x ≤ 9) : mOk (insF m x) := by
  refine mOk_of (List.length_pos_of_mem ((mem_upTo m x 9 x).2 ⟨by omega, .inl rfl⟩)) (upTo_sorted _ _ _) (fun y hy => ?_)
  have := ((mem_upTo m x 9 y).1 hy).1
  omega
theorem del_len (m : List Int) (x : Int) (hm : mOk m) (hx : x ∈ m) (hl : 1 < m.length) : 0 < (delF m x).length := by
  have h01 := mOk_up hm 1 0 (by omega) hl
  by_cases e : rd m (0 : Nat) = x
  · exact List.length_pos_of_mem (a := rd m (1 : Nat)) (List.mem_filter.2 ⟨(mem_rd m _).2 ⟨1, hl, rfl⟩, decide_eq_true (by omega)⟩)
  · exact List.length_pos_of_mem (a := rd m (0 : Nat)) (List.mem_filter.2 ⟨(mem_rd m _).2 ⟨0, by omega, rfl⟩, decide_eq_true e⟩)
theorem del_ok (m : List Int) (x : Int) (hm : mOk m) (hl : 0 < (delF m x).length) : mOk (delF m x) :=
  mOk_of hl (List.Pairwise.filter _ (mOk_sorted hm)) (fun y hy => mOk_range hm y (List.mem_filter.1 hy).1)
theorem cut_before {m : List Int} {x : Int} {i : Nat} (h : Cut m x i) : ∀ y ∈ m.take i, y < x := by
  intro y hy
  obtain ⟨j, hj, rfl⟩ := List.getElem_of_mem hy
  rw [List.length_take] at hj
  have := h.2.1 j (by omega)
  rw [rd_get (by omega)] at this
  rwa [List.getElem_take]
theorem cut_behind {m : List Int} {x : Int} {i : Nat} (h : Cut m x i) : ∀ y ∈ m.drop i, x ≤ y := by
  intro y hy
  obtain ⟨j, hj, rfl⟩ := List.getElem_of_mem hy
  rw [List.length_drop] at hj
  have := h.2.2 (i + j) (by omega) (by omega)
  rw [rd_get (by omega)] at this
  rwa [List.getElem_drop]
theorem ins_eq (m : List Int) (x : Int) (i : Nat) (hm : mOk m) (h : Cut m x i) (hx : x ∉ m) (h1 : 1 ≤ x) (h2 : x ≤ 9) : m.take i ++ [x] ++ m.drop i = insF m x := by
  have hs := mOk_sorted hm
  refine sorted_ext _ _ ?_ (upTo_sorted _ _ _) (fun y => ?_)
  · rw [List.append_assoc, List.pairwise_append]
    refine ⟨hs.sublist (List.take_sublist _ _), ?_, fun a ha b hb => ?_⟩
    · rw [List.singleton_append, List.pairwise_cons]
      exact ⟨fun b hb => by
        have := cut_behind h b hb
        have : b ≠ x := fun e => hx (e ▸ List.mem_of_mem_drop hb)
        omega, hs.sublist (List.drop_sublist _ _)⟩
    · have h3 := cut_before h a ha
      rcases List.mem_append.1 hb with hb | hb
      · rw [List.mem_singleton.1 hb]; exact h3
      · have := cut_behind h b hb; omega
  · have e : y ∈ m ↔ y ∈ m.take i ∨ y ∈ m.drop i := by rw [← List.mem_append, List.take_append_drop]
    rw [insF, mem_upTo, List.mem_append, List.mem_append, List.mem_singleton, e]
    constructor
    · rintro ((h3 | h3) | h3)
      · have := mOk_range hm y (List.mem_of_mem_take h3); exact ⟨by omega, .inr (.inl h3)⟩
      · subst h3; exact ⟨by omega, .inl rfl⟩
      · have := mOk_range hm y (List.mem_of_mem_drop h3); exact ⟨by omega, .inr (.inr h3)⟩
    · rintro ⟨_, h3 | h3 | h3⟩
      · exact .inl (.inr h3)
      · exact .inl (.inl h3)
      · exact .inr h3
theorem cut_at {m : List Int} {x : Int} {i : Nat} (hm : mOk m) (h : Cut m x i) (hx : x ∈ m) : i < m.length ∧ rd m i = x := by
  obtain ⟨j, hj, hj2⟩ := (mem_rd m x).1 hx
  rcases Nat.lt_trichotomy j i with h3 | h3 | h3
  · have := h.2.1 j h3; omega
  · subst h3; exact ⟨hj, hj2⟩
  · have := mOk_up hm j i h3 hj; have := h.2.2 i (Nat.le_refl _) (by omega); omega
theorem del_eq (m : List Int) (x : Int) (i : Nat) (hm : mOk m) (h : Cut m x i) (hx : x ∈ m) : m.take i ++ m.drop (i + 1) = delF m x := by
  have hs := mOk_sorted hm
  obtain ⟨hi, he⟩ := cut_at hm h hx
  have hd : m.drop i = x :: m.drop (i + 1) := by rw [List.drop_eq_getElem_cons hi, ← rd_get hi, he]
  have hsd : (m.drop i).Pairwise (· < ·) := hs.sublist (List.drop_sublist _ _)
  rw [hd, List.pairwise_cons] at hsd
  unfold delF
  conv => rhs; rw [← List.take_append_drop i m, hd, List.filter_append, List.filter_cons]
  rw [if_neg (by simp), List.filter_eq_self.2 (fun a ha => decide_eq_true (by have := cut_before h a ha; omega)), List.filter_eq_self.2 (fun a ha => decide_eq_true (by have := hsd.1 a ha; omega))]
theorem changed_ev (m : List Int) (kd x : Int) (hm : mOk m) : Ev (fun k => conf_changed.f k m kd x)
    (if kd = 7 ∧ x ∉ m ∧ 1 ≤ x ∧ x ≤ 9 then (insF m x, true) else if kd = 8 ∧ x ∈ m ∧ 1 < m.length then (delF m x, true) else ([], false)) := by
  have hl := mOk_len hm
  obtain ⟨i, hi, hE⟩ := bs_ev m x hm
  unfold conf_changed.f
  refine Ev.bind hE ?_
  have yes : x ∉ m → 1 ≤ x → x ≤ 9 → Ev (fun k => conf_changed.j0 k m kd x i false true) (insF m x, true) := fun h1 h2 h3 => by
    refine Ev.step (f := fun _ => some (insF m x, true)) (fun k => ?_) (Ev.now _)
    have hil := hi.1
    simp only [conf_changed.j0, if_true, clone_ev m (by omega), Option.bind_some, slices_Insert_int_int.f, Int.toNat_natCast]
    rw [if_pos ⟨rfl, by omega, by omega, by omega⟩, ins_eq m x i hm hi h1 h2 h3]
    rfl
  have no1 : Ev (fun k => conf_changed.j1 k m i false) ([], false) := Ev.step (f := fun _ => some ([], false)) (fun k => by simp [conf_changed.j1]) (Ev.now _)
  have no : x ∉ m ∨ kd ≠ 8 → Ev (fun k => conf_changed.j0 k m kd x i (decide (x ∈ m)) false) ([], false) := fun h => by
    refine Ev.step (fun k => by simp only [conf_changed.j0, Bool.false_eq_true, if_false]; rfl) ?_
    by_cases h8 : kd = 8
    · have hx : x ∉ m := h.resolve_right (fun h => h h8)
      simp only [if_pos h8, hx, decide_false, Bool.false_eq_true, if_false]
      exact no1
    · simp only [if_neg h8]
      exact no1
  by_cases h7 : kd = 7
  · subst h7
    simp only [if_true, true_and]
    rw [if_neg (fun h : (7 : Int) = 8 ∧ _ => by omega)]
    by_cases hx : x ∈ m
    · simp only [hx, decide_true, if_true, not_true_eq_false, false_and, if_false]
      have := no (.inr (by omega))
      simp only [hx, decide_true] at this
      exact this
    · simp only [hx, decide_false, Bool.false_eq_true, if_false, not_false_eq_true, true_and]
      have hn := no (.inl hx)
      simp only [hx, decide_false] at hn
      by_cases h1 : x ≥ 1
      · simp only [if_pos h1]
        by_cases h2 : x ≤ 9
        · rw [if_pos ⟨h1, h2⟩]; simp only [h2, decide_true]; exact yes hx h1 h2
        · rw [if_neg (fun h => h2 h.2)]; simp only [h2, decide_false]; exact hn
      · simp only [if_neg h1]
        rw [if_neg (fun h => h1 h.1)]; exact hn
  · simp only [if_neg h7]
    rw [if_neg (fun h => h7 h.1)]
    by_cases h : kd = 8 ∧ x ∈ m
    · obtain ⟨rfl, hx⟩ := h
      refine Ev.step (f := fun k => conf_changed.j1 k m i (decide ((m.length : Int) > 1))) (fun k => by simp [conf_changed.j0, hx]) ?_
      by_cases h1 : 1 < m.length
      · rw [if_pos ⟨rfl, hx, h1⟩]
        refine Ev.step (f := fun _ => some (delF m x, true)) (fun k => ?_) (Ev.now _)
        have hil := (cut_at hm hi hx).1
        have hw : wrap64 ((i : Int) + 1) = ((i + 1 : Nat) : Int) := wr1 (by omega)
        simp only [conf_changed.j1, show (m.length : Int) > 1 by omega, decide_true, if_true, clone_ev m (by omega), Option.bind_some, slices_Delete_int_int.f, hw, Int.toNat_natCast]
        rw [if_pos ⟨by omega, by omega, by omega, by omega⟩, del_eq m x i hm hi hx]
        rfl
      · rw [if_neg (fun h => h1 h.2.2)]
        simp only [show ¬ (m.length : Int) > 1 by omega, decide_false]
        exact no1
    · rw [if_neg (fun h2 => h ⟨h2.1, h2.2.1⟩)]
      refine no ?_
      by_cases hx : x ∈ m
      · exact .inr (fun h8 => h ⟨h8, hx⟩)
      · exact .inl hx
/-! the reference -/
theorem refl1_loop (m : List Int) (x : Int) (hm : m.length ≤ 9) : ∀ (d i : Nat), i + d = m.length → Ev (fun k => changeoverref11_Changed.l1 k m x ((m.take i).filter fun n => decide (n ≠ x)) i) (delF m x) := by
  intro d
  induction d with
  | zero =>
    intro i hi
    obtain rfl : i = m.length := by omega
    rw [List.take_length]
    exact Ev.step (f := fun _ => some (delF m x)) (fun k => by simp only [changeoverref11_Changed.l1]; rw [if_neg (by omega)]; rfl) (Ev.now _)
  | succ d ih =>
    intro i hi
    have e : m.take (i + 1) = m.take i ++ [rd m i] := by rw [rd_get (show i < m.length by omega), List.take_succ_eq_append_getElem (by omega)]
    have h := ih (i + 1) (by omega)
    rw [e, List.filter_append] at h
    refine Ev.step (fun k => by simp only [changeoverref11_Changed.l1]; rw [if_pos (show (i : Int) < (m.length : Int) by omega), if_pos (Int.natCast_nonneg i), wr1 (show i < 9223372036854775807 by omega)]) ?_
    by_cases h1 : rd m i = x
    · simp only [if_pos h1]
      rw [List.filter_cons, if_neg (by simp [h1]), List.filter_nil, List.append_nil] at h
      exact h
    · have hlt : ((m.take i).filter fun n => decide (n ≠ x)).length < 17592186044416 := by
        have := List.length_filter_le (fun n => decide (n ≠ x)) (m.take i)
        rw [List.length_take] at this
        omega
      simp only [if_neg h1, if_pos hlt]
      rw [List.filter_cons, if_pos (by simp [h1]), List.filter_nil] at h
      exact h
theorem refl0_loop (m : List Int) (x : Int) (hm : mOk m) : ∀ (d i : Nat), i + d = 9 → Ev (fun k => changeoverref11_Changed.l0 k m 7 x (upTo m x i) ((i + 1 : Nat) : Int)) (insF m x) := by
  intro d
  induction d with
  | zero =>
    intro i hi
    obtain rfl : i = 9 := by omega
    refine Ev.step (f := fun k => changeoverref11_Changed.j2 k m 7 x (insF m x)) (fun k => by simp only [changeoverref11_Changed.l0]; rw [if_neg (by omega)]; rfl) ?_
    refine Ev.step (f := fun k => changeoverref11_Changed.j3 k m x (insF m x) false) (fun k => by simp [changeoverref11_Changed.j2]) ?_
    exact Ev.step (f := fun _ => some (insF m x)) (fun k => by simp [changeoverref11_Changed.j3]) (Ev.now _)
  | succ d ih =>
    intro i hi
    have e : upTo m x (i + 1) = upTo m x i ++ (if (((i + 1 : Nat) : Int) = x ∨ ((i + 1 : Nat) : Int) ∈ m) then [((i + 1 : Nat) : Int)] else []) := by
      unfold upTo
      rw [List.range_succ, List.map_append, List.filter_append, List.map_singleton, List.filter_cons, List.filter_nil]
      simp only [decide_eq_true_eq]
      rfl
    have h := ih (i + 1) (by omega)
    rw [e] at h
    have hlt : (upTo m x i).length < 17592186044416 := by
      have := List.length_filter_le (fun n => decide (n = x ∨ n ∈ m)) ((List.range i).map fun i : Nat => (i : Int) + 1)
      rw [List.length_map, List.length_range] at this
      unfold upTo
      omega
    refine Ev.step (fun k => by simp only [changeoverref11_Changed.l0]; rw [if_pos (show ((i + 1 : Nat) : Int) ≤ 9 by omega), wr1 (show i + 1 < 9223372036854775807 by omega)]) ?_
    by_cases h1 : ((i + 1 : Nat) : Int) = x
    · simp only [if_pos h1, if_pos hlt]
      rw [if_pos (.inl h1)] at h
      exact h
    · simp only [if_neg h1]
      refine Ev.bind (in_ev m _ (by have := mOk_len hm; omega)) ?_
      by_cases h2 : ((i + 1 : Nat) : Int) ∈ m
      · rw [if_pos (.inr h2)] at h
        simp only [h2, decide_true, if_true, if_pos hlt]
        exact h
      · rw [if_neg (fun h3 => h3.elim h1 h2), List.append_nil] at h
        simp only [h2, decide_false, Bool.false_eq_true, if_false]
        exact h
def changedF (m : List Int) (kd x : Int) : List Int := if kd = 7 ∧ x ∉ m ∧ 1 ≤ x ∧ x ≤ 9 then insF m x else if kd = 8 ∧ x ∈ m then delF m x else []
theorem refChanged_ev (m : List Int) (kd x : Int) (hm : mOk m) : Ev (fun k => changeoverref11_Changed.f k m kd x) (changedF m kd x) := by
  have hl := mOk_len hm
  unfold changeoverref11_Changed.f changedF
  have no3 : Ev (fun k => changeoverref11_Changed.j3 k m x [] false) [] := Ev.step (f := fun _ => some []) (fun k => by simp [changeoverref11_Changed.j3]) (Ev.now _)
  have no : ¬ (kd = 7 ∧ x ∉ m ∧ 1 ≤ x ∧ x ≤ 9) → Ev (fun k => changeoverref11_Changed.j0 k m kd x [] false) (if kd = 7 ∧ x ∉ m ∧ 1 ≤ x ∧ x ≤ 9 then insF m x else if kd = 8 ∧ x ∈ m then delF m x else []) := fun h => by
    rw [if_neg h]
    refine Ev.step (f := fun k => changeoverref11_Changed.j2 k m kd x []) (fun k => by simp [changeoverref11_Changed.j0]) ?_
    refine Ev.step (fun k => by simp only [changeoverref11_Changed.j2]; rfl) ?_
    by_cases h8 : kd = 8
    · simp only [if_pos h8, h8, true_and]
      refine Ev.bind (in_ev m x (by omega)) ?_
      by_cases hx : x ∈ m
      · simp only [hx, decide_true, if_true]
        refine Ev.step (f := fun k => changeoverref11_Changed.l1 k m x [] 0) (fun k => by simp [changeoverref11_Changed.j3]) ?_
        have := refl1_loop m x hl m.length 0 (by omega)
        simp only [List.take_zero, List.filter_nil] at this
        exact this
      · simp only [hx, decide_false, if_false]
        exact no3
    · simp only [if_neg h8, h8, false_and, if_false]
      exact no3
  by_cases h7 : kd = 7
  · subst h7
    simp only [if_true]
    by_cases h1 : x ≥ 1
    · simp only [if_pos h1]
      by_cases h2 : x ≤ 9
      · simp only [if_pos h2]
        refine Ev.bind (in_ev m x (by omega)) ?_
        by_cases hx : x ∈ m
        · simp only [hx, decide_true, Bool.not_true]
          have := no (fun h => h.2.1 hx)
          simp only [hx] at this
          exact this
        · rw [if_pos ⟨trivial, hx, h1, h2⟩]
          simp only [hx, decide_false, Bool.not_false]
          refine Ev.step (f := fun k => changeoverref11_Changed.l0 k m 7 x [] 1) (fun k => by simp [changeoverref11_Changed.j0]) ?_
          exact refl0_loop m x hm 9 0 (by omega)
      · simp only [if_neg h2]
        exact (no (fun h => h2 h.2.2.2)).to (by simp)
    · simp only [if_neg h1]
      exact (no (fun h => h1 h.2.2.1)).to (by simp)
  · simp only [if_neg h7]
    exact no (fun h => h7 h.1)

/-! Change -/
def lastOf (l : List S39) : S39 := rd_T39 l ((l.length - 1 : Nat) : Int)
def fromF (l : List S39) (a : Int) : Int := if (lastOf l).f0 > a + 4 then (lastOf l).f0 else a + 4
def chgF (l : List S39) (a kd x : Int) : List S39 := (l.filter fun c => decide (c.f0 < fromF l a)) ++ [⟨fromF l a, changedF (lastOf l).f1 kd x⟩]
theorem last_ok {l : List S39} (h : cOk l) : confAt l (l.length - 1) := h.2.2 (l.length - 1) (by have := h.1; omega)
theorem last_rd {l : List S39} (h : 0 < l.length) : rd_T39 l ((l.length : Int) - 1) = lastOf l := by
  unfold lastOf
  rw [show ((l.length : Int) - 1) = ((l.length - 1 : Nat) : Int) by omega]
theorem froms_up {l : List S39} (h : cOk l) : ∀ (j i : Nat), i < j → j < l.length → (rd_T39 l i).f0 < (rd_T39 l j).f0 := by
  intro j
  induction j with
  | zero => intro i hi; omega
  | succ j ih =>
    intro i hi hj
    have h2 := (h.2.2 (j + 1) hj).2.2 (by omega)
    simp only [Nat.add_sub_cancel] at h2
    rcases Nat.lt_succ_iff_lt_or_eq.1 hi with e | e
    · have := ih i e (by omega); omega
    · subst e; exact h2
theorem mem_t39 (l : List S39) (x : S39) : x ∈ l ↔ ∃ j : Nat, j < l.length ∧ rd_T39 l j = x := by
  rw [List.mem_iff_getElem]
  constructor
  · rintro ⟨j, hj, e⟩; exact ⟨j, hj, by rw [t39_get hj]; exact e⟩
  · rintro ⟨j, hj, e⟩; exact ⟨j, hj, by rw [← t39_get hj]; exact e⟩
/-- what the program keeps is what the reference keeps -/
theorem kept_eq (l : List S39) (a : Int) (h : cOk l) : (if fromF l a = (lastOf l).f0 then l.take (l.length - 1) else l) = l.filter fun c => decide (c.f0 < fromF l a) := by
  have hl := h.1
  have hsplit : l = l.take (l.length - 1) ++ [lastOf l] := by
    conv => lhs; rw [← List.take_append_drop (l.length - 1) l, List.drop_eq_getElem_cons (show l.length - 1 < l.length by omega)]
    rw [show l.length - 1 + 1 = l.length by omega, List.drop_length, lastOf, t39_get (show l.length - 1 < l.length by omega)]
  have hall : ∀ c ∈ l.take (l.length - 1), c.f0 < (lastOf l).f0 := by
    intro c hc
    obtain ⟨j, hj, rfl⟩ := List.getElem_of_mem hc
    rw [List.length_take] at hj
    have := froms_up h (l.length - 1) j (by omega) (by omega)
    rw [t39_get (show j < l.length by omega)] at this
    rw [List.getElem_take]
    exact this
  have hge : (lastOf l).f0 ≤ fromF l a := by unfold fromF; split <;> omega
  by_cases e : fromF l a = (lastOf l).f0
  · rw [if_pos e]
    conv => rhs; rw [hsplit, List.filter_append, List.filter_cons]
    rw [← hsplit, if_neg (by simp [e]), List.filter_nil, List.append_nil]
    exact (List.filter_eq_self.2 (fun c hc => decide_eq_true (by have := hall c hc; omega))).symm
  · rw [if_neg e]
    refine (List.filter_eq_self.2 (fun c hc => decide_eq_true ?_)).symm
    rw [hsplit] at hc
    rcases List.mem_append.1 hc with hc | hc
    · have := hall c hc; omega
    · rw [List.mem_singleton.1 hc]; omega
theorem refchg_loop (l : List S39) (m : List Int) (f : Int) (hl : l.length ≤ 40) : ∀ (d i : Nat), i + d = l.length → Ev (fun k => changeoverref11_Change.l0 k l m f ((l.take i).filter fun c => decide (c.f0 < f)) i) ((l.filter fun c => decide (c.f0 < f)) ++ [⟨f, m⟩], true) := by
  have lt : ∀ i, ((l.take i).filter fun c => decide (c.f0 < f)).length < 4398046511104 := fun i => by
    have := List.length_filter_le (fun c : S39 => decide (c.f0 < f)) (l.take i)
    rw [List.length_take] at this
    omega
  intro d
  induction d with
  | zero =>
    intro i hi
    obtain rfl : i = l.length := by omega
    have := lt l.length
    rw [List.take_length] at this ⊢
    exact Ev.step (f := fun _ => some ((l.filter fun c => decide (c.f0 < f)) ++ [⟨f, m⟩], true)) (fun k => by simp only [changeoverref11_Change.l0]; rw [if_neg (by omega), if_pos this]) (Ev.now _)
  | succ d ih =>
    intro i hi
    have h := ih (i + 1) (by omega)
    rw [take_snoc39 l i (by omega), List.filter_append, List.filter_cons, List.filter_nil] at h
    refine Ev.step (fun k => by simp only [changeoverref11_Change.l0]; rw [if_pos (show (i : Int) < (l.length : Int) by omega), if_pos (Int.natCast_nonneg i), wr1 (show i < 9223372036854775807 by omega)]) ?_
    by_cases h1 : (rd_T39 l i).f0 < f
    · simp only [if_pos h1, if_pos (lt i)]
      rw [if_pos (by simpa using h1)] at h
      exact h
    · simp only [if_neg h1]
      rw [if_neg (by simpa using h1), List.append_nil] at h
      exact h
theorem refChange_ev (l : List S39) (a kd x : Int) (hs : Small l) (hc : cOk l) (h1 : 1 ≤ a) (h2 : a ≤ 4294967292) : Ev (fun k => changeoverref11_Change.f k l a kd x)
    (if (changedF (lastOf l).f1 kd x).length = 0 then ([], false) else (chgF l a kd x, true)) := by
  have hl := hs.1
  have h0 := hc.1
  unfold changeoverref11_Change.f
  have hw : wrap64 ((l.length : Int) - 1) = (l.length : Int) - 1 := by unfold wrap64; omega
  have hw4 : wrap64 (a + 4) = a + 4 := by unfold wrap64; omega
  simp only [hw, hw4, if_pos (show (0 : Int) ≤ (l.length : Int) - 1 by omega), if_pos (show (l.length : Int) - 1 < (l.length : Int) by omega), last_rd h0]
  refine Ev.bind (refChanged_ev _ kd x (last_ok hc).1) ?_
  by_cases e : (changedF (lastOf l).f1 kd x).length = 0
  · simp only [if_pos (show ((changedF (lastOf l).f1 kd x).length : Int) = 0 by omega), if_pos e]
    exact Ev.now _
  · simp only [if_neg (show ¬ ((changedF (lastOf l).f1 kd x).length : Int) = 0 by omega), if_neg e]
    have key : ∀ f, f = fromF l a → Ev (fun k => changeoverref11_Change.j0 k l (changedF (lastOf l).f1 kd x) f) (chgF l a kd x, true) := by
      rintro f rfl
      refine Ev.step (f := fun k => changeoverref11_Change.l0 k l (changedF (lastOf l).f1 kd x) (fromF l a) [] 0) (fun k => by simp only [changeoverref11_Change.j0]) ?_
      have := refchg_loop l (changedF (lastOf l).f1 kd x) (fromF l a) hl l.length 0 (by omega)
      simp only [List.take_zero, List.filter_nil] at this
      exact this
    by_cases hb : (lastOf l).f0 > a + 4
    · simp only [if_pos hb]; exact key _ (by unfold fromF; rw [if_pos hb])
    · simp only [if_neg hb]; exact key _ (by unfold fromF; rw [if_neg hb])
theorem change_ev (l : List S39) (a kd x : Int) (hs : Small l) : Ev (fun k => conf_Change.f k l a kd x)
    (if cOk l then (if a < 1 ∨ a > 4294967292 then ([], 6) else if (changedF (lastOf l).f1 kd x).length = 0 then ([], 16) else (chgF l a kd x, 0)) else ([], 3)) := by
  have hl := hs.1
  have hf : Fits l := ⟨by omega, fun i hi => by have := hs.2 i hi; omega⟩
  have ht : Tiny l := ⟨by omega, fun i hi => by have := hs.2 i hi; omega⟩
  unfold conf_Change.f
  refine Ev.bind (check_ev l hf) ?_
  by_cases h : cOk l
  case neg =>
    simp only [if_neg h, if_neg (show ¬ ((3 : Int) = 0) by omega)]
    exact Ev.now _
  simp only [if_pos h, if_true]
  by_cases hr : a < 1 ∨ a > 4294967292
  · simp only [if_pos hr]
    exact Ev.now _
  have h0 := h.1
  simp only [if_neg hr, if_pos (show 0 < l.length ∧ l.length < 1000000000000 from ⟨h0, by omega⟩), last_rd h0]
  have hm := (last_ok h).1
  have hm' : mOk (lastOf l).f1 := hm
  have hcf : changeFrom l a = fromF l a := by
    unfold changeFrom fromF mx
    rw [last_rd h0, show wrap64 (a + 4) = a + 4 by unfold wrap64; omega]
  refine Ev.bind (changed_ev _ kd x hm') ?_
  have fin : Ev (fun k => (conf_clone.f k l).bind fun out => if out.length = l.length then some ((if changeFrom l a = (lastOf l).f0 then out.take (out.length - 1) else out) ++ [⟨changeFrom l a, changedF (lastOf l).f1 kd x⟩], (0 : Int)) else none) (chgF l a kd x, 0) := by
    refine Ev.bind (cclone_ev l ht) ?_
    simp only [if_true]
    refine (Ev.now _).to ?_
    rw [hcf, kept_eq l a h]
    rfl
  unfold changedF at fin ⊢
  by_cases hA : kd = 7 ∧ x ∉ (lastOf l).f1 ∧ 1 ≤ x ∧ x ≤ 9
  · simp only [if_pos hA] at fin ⊢
    have := (ins_ok _ x hm' hA.2.2.1 hA.2.2.2).1
    rw [if_neg (by omega)]
    exact fin
  simp only [if_neg hA] at fin ⊢
  by_cases hB : kd = 8 ∧ x ∈ (lastOf l).f1
  · simp only [if_pos hB] at fin ⊢
    by_cases hC : 1 < (lastOf l).f1.length
    · simp only [if_pos (show kd = 8 ∧ x ∈ (lastOf l).f1 ∧ 1 < (lastOf l).f1.length from ⟨hB.1, hB.2, hC⟩), if_true]
      have := del_len _ x hm' hB.2 hC
      rw [if_neg (by omega)]
      exact fin
    · simp only [if_neg (fun h => hC h.2.2 : ¬ (kd = 8 ∧ x ∈ (lastOf l).f1 ∧ 1 < (lastOf l).f1.length)), Bool.false_eq_true, if_false]
      have : (delF (lastOf l).f1 x).length = 0 := by
        obtain ⟨y, hy⟩ := List.length_eq_one_iff.1 (show (lastOf l).f1.length = 1 by have := hm'.1; omega)
        have hx := hB.2
        unfold delF
        rw [hy] at hx ⊢
        rw [List.mem_singleton] at hx
        simp [hx]
      rw [if_pos this]
      exact Ev.now _
  · simp only [if_neg hB, if_neg (fun h => hB ⟨h.1, h.2.1⟩ : ¬ (kd = 8 ∧ x ∈ (lastOf l).f1 ∧ 1 < (lastOf l).f1.length)), Bool.false_eq_true, if_false]
    rw [if_pos (by simp)]
    exact Ev.now _
/-- behind a change the confs may be, and below Window behind the index nothing is changed -/
theorem chg_ok (l : List S39) (a kd x : Int) (h : cOk l) (h1 : 1 ≤ a) (h2 : a ≤ 4294967292) (hn : (changedF (lastOf l).f1 kd x).length ≠ 0) : cOk (chgF l a kd x) := by
  have h0 := h.1
  have hm' : mOk (lastOf l).f1 := (last_ok h).1
  have hm : mOk (changedF (lastOf l).f1 kd x) := by
    unfold changedF at hn ⊢
    by_cases hA : kd = 7 ∧ x ∉ (lastOf l).f1 ∧ 1 ≤ x ∧ x ≤ 9
    · rw [if_pos hA]; exact ins_ok _ x hm' hA.2.2.1 hA.2.2.2
    · rw [if_neg hA] at hn ⊢
      by_cases hB : kd = 8 ∧ x ∈ (lastOf l).f1
      · rw [if_pos hB] at hn ⊢; exact del_ok _ x hm' (by omega)
      · rw [if_neg hB] at hn; simp at hn
  have hlast : (lastOf l).f0 ≤ 4294967296 := (last_ok h).2.1
  have hfr : fromF l a ≤ 4294967296 ∧ 5 ≤ fromF l a := by unfold fromF; split <;> omega
  have hk := kept_eq l a h
  obtain ⟨n, hn1, hn2, hn3⟩ : ∃ n : Nat, 0 < n ∧ n ≤ l.length ∧ (l.filter fun c => decide (c.f0 < fromF l a)) = l.take n := by
    by_cases e : fromF l a = (lastOf l).f0
    · rw [if_pos e] at hk
      refine ⟨l.length - 1, ?_, by omega, hk.symm⟩
      rcases Nat.eq_or_lt_of_le h0 with e1 | e1
      · exfalso
        have : lastOf l = rd_T39 l 0 := by unfold lastOf; rw [← e1]; rfl
        rw [this, h.2.1] at e
        omega
      · omega
    · rw [if_neg e] at hk
      exact ⟨l.length, h0, Nat.le_refl _, by rw [← hk, List.take_length]⟩
  have hlen : (chgF l a kd x).length = n + 1 := by unfold chgF; rw [hn3, List.length_append, List.length_take]; simp; omega
  have hg : ∀ i : Nat, i < n → rd_T39 (chgF l a kd x) i = rd_T39 l i := by
    intro i hi
    rw [t39_get (by omega), t39_get (by omega)]
    unfold chgF
    simp only [hn3]
    rw [List.getElem_append_left (by rw [List.length_take]; omega), List.getElem_take]
  have hgn : rd_T39 (chgF l a kd x) n = ⟨fromF l a, changedF (lastOf l).f1 kd x⟩ := by
    rw [t39_get (by omega)]
    unfold chgF
    simp only [hn3]
    rw [List.getElem_append_right (by rw [List.length_take]; omega)]
    simp
  refine ⟨by omega, ?_, fun i hi => ?_⟩
  · have := hg 0 hn1
    rw [show ((0 : Nat) : Int) = 0 from rfl] at this
    rw [this]; exact h.2.1
  · rcases Nat.lt_or_ge i n with hi2 | hi2
    · have hc := h.2.2 i (by omega)
      refine ⟨by rw [hg i hi2]; exact hc.1, by rw [hg i hi2]; exact hc.2.1, fun h3 => ?_⟩
      rw [hg i hi2, hg (i - 1) (by omega)]
      exact hc.2.2 h3
    · obtain rfl : i = n := by omega
      refine ⟨by rw [hgn]; exact hm, by rw [hgn]; exact hfr.1, fun h3 => ?_⟩
      rw [hgn, hg (i - 1) (by omega)]
      have hmem : l[i - 1]'(by omega) ∈ l.filter fun c => decide (c.f0 < fromF l a) := by
        rw [hn3]
        have : (l.take i)[i - 1]'(by rw [List.length_take]; omega) ∈ l.take i := List.getElem_mem _
        rwa [List.getElem_take] at this
      rw [t39_get (show i - 1 < l.length by omega)]
      exact of_decide_eq_true (List.mem_filter.1 hmem).2
theorem chg_at (l : List S39) (a kd x b : Int) (h : cOk l) (hb : b < a + 4) : atF (chgF l a kd x) b = atF l b := by
  have hge : b < fromF l a := by unfold fromF; split <;> omega
  have hfil : ∀ (r : List S39) (o : List Int), (r.filter fun c => decide (c.f0 < fromF l a)).foldl (fun o c => if c.f0 ≤ b then c.f1 else o) o = r.foldl (fun o c => if c.f0 ≤ b then c.f1 else o) o := by
    intro r
    induction r with
    | nil => intro o; rfl
    | cons c r ih =>
      intro o
      rw [List.filter_cons]
      by_cases hc : c.f0 < fromF l a
      · rw [if_pos (decide_eq_true hc), List.foldl_cons, List.foldl_cons, ih]
      · rw [if_neg (by simpa using hc), List.foldl_cons, ih, if_neg (by omega)]
  unfold chgF
  rw [atF_snoc]
  simp only
  rw [if_neg (by omega)]
  exact hfil l []
theorem chg_small (l : List S39) (a kd x : Int) (hs : Small l) (h : cOk l) (hc : cOk (chgF l a kd x)) : (chgF l a kd x).length ≤ 41 ∧ ∀ j : Nat, j < (chgF l a kd x).length → (rd_T39 (chgF l a kd x) j).f1.length ≤ 9 := by
  refine ⟨?_, fun j hj => mOk_len (hc.2.2 j hj).1⟩
  unfold chgF
  have := List.length_filter_le (fun c : S39 => decide (c.f0 < fromF l a)) l
  have := hs.1
  simp
  omega
end Go.Proofs.Ytalpnhgkhhmmlaa.PConf
