-- By the session: the plain laws of layer 11 (conf), third part: ConfTrims.
import Derived.Test.YtalpnhgkhhmmlaaLawsConf2
import Derived.Test.YtalpnhgkhhmmlaaPConfx7
import Derived.Test.YtalpnhgkhhmmlaaPConfx8
namespace Go.Proofs.Ytalpnhgkhhmmlaa.PConf
open Go.RowKit Go.Proofs.YtalpnhgkhhmmlaaW.PrintWords Go.Proofs.YtalpnhgkhhmmlaaW.PrintLast Go.Proofs.YtalpnhgkhhmmlaaW.PrintMore
set_option linter.unusedVariables false
open Classical

theorem t39_get {l : List S39} {i : Nat} (h : i < l.length) : rd_T39 l i = l[i] := by simp [rd_T39, List.getD_eq_getElem?_getD, List.getElem?_eq_getElem h]
theorem s39_ext {x y : S39} (h0 : x.f0 = y.f0) (h1 : x.f1 = y.f1) : x = y := by cases x; cases y; simp at h0 h1; subst h0; subst h1; rfl
theorem confs_eq (a b : List S39) : a = b ↔ a.length = b.length ∧ ∀ i : Nat, i < a.length → (rd_T39 a i).f0 = (rd_T39 b i).f0 ∧ (rd_T39 a i).f1 = (rd_T39 b i).f1 := by
  constructor
  · rintro rfl; exact ⟨rfl, fun _ _ => ⟨rfl, rfl⟩⟩
  · rintro ⟨h1, h2⟩
    refine List.ext_getElem h1 fun i hi hj => ?_
    have := h2 i hi
    rw [t39_get hi, t39_get hj] at this
    exact s39_ext this.1 this.2
theorem same_loop (a b : List S39) (hl : a.length = b.length) (hf : Fits a) : ∀ (d i : Nat), i + d = a.length → Ev (fun k => changeoverref11_Same.l0 k a b i) (decide (∀ j : Nat, i ≤ j → j < a.length → (rd_T39 a j).f0 = (rd_T39 b j).f0 ∧ (rd_T39 a j).f1 = (rd_T39 b j).f1)) := by
  have hn := hf.1
  intro d
  induction d with
  | zero =>
    intro i hi
    refine Ev.step (f := fun _ => some true) (fun k => by simp only [changeoverref11_Same.l0]; rw [if_neg (by omega)]) ((Ev.now _).to ?_)
    symm
    rw [decide_eq_true_iff]
    exact fun j h1 h2 => by omega
  | succ d ih =>
    intro i hi
    refine Ev.step (fun k => by simp only [changeoverref11_Same.l0]; rw [if_pos (show (i : Int) < (a.length : Int) by omega), if_pos (Int.natCast_nonneg i), if_pos (show (i : Int) < (b.length : Int) by omega)]) ?_
    have no : ¬ ((rd_T39 a i).f0 = (rd_T39 b i).f0 ∧ (rd_T39 a i).f1 = (rd_T39 b i).f1) → Ev (fun k : Nat => some false) (decide (∀ j : Nat, i ≤ j → j < a.length → (rd_T39 a j).f0 = (rd_T39 b j).f0 ∧ (rd_T39 a j).f1 = (rd_T39 b j).f1)) := fun h1 => by
      refine (Ev.now _).to ?_
      symm
      rw [decide_eq_false_iff_not]
      exact fun h => h1 (h i (Nat.le_refl _) (by omega))
    by_cases h1 : (rd_T39 a i).f0 = (rd_T39 b i).f0
    · simp only [if_pos h1, wr1 (show i < 9223372036854775807 by omega)]
      refine Ev.bind (ints_ev _ _ (hf.2 i (by omega))) ?_
      by_cases h2 : (rd_T39 a i).f1 = (rd_T39 b i).f1
      · simp only [h2, decide_true, if_true]
        refine (ih (i + 1) (by omega)).to ?_
        rw [decide_eq_decide]
        exact ⟨fun h j h3 h4 => by rcases Nat.eq_or_lt_of_le h3 with e | e; exact e ▸ ⟨h1, h2⟩; exact h j e h4, fun h j h3 h4 => h j (by omega) h4⟩
      · simp only [h2, decide_false, Bool.false_eq_true, if_false]
        exact no (fun h => h2 h.2)
    · simp only [if_neg h1]
      exact no (fun h => h1 h.1)
theorem same_ev (a b : List S39) (hf : Fits a) : Ev (fun k => changeoverref11_Same.f k a b) (decide (a = b)) := by
  unfold changeoverref11_Same.f
  by_cases h : (a.length : Int) = (b.length : Int)
  · simp only [if_pos h]
    refine (same_loop a b (by omega) hf a.length 0 (by omega)).to ?_
    rw [decide_eq_decide, confs_eq]
    exact ⟨fun h2 => ⟨by omega, fun i hi => h2 i (by omega) hi⟩, fun h2 j _ hj => h2.2 j hj⟩
  · simp only [if_neg h]
    refine (Ev.now _).to ?_
    symm
    rw [decide_eq_false_iff_not]
    rintro rfl
    exact h rfl
def Tiny (l : List S39) : Prop := l.length < 4398046511104 ∧ ∀ i : Nat, i < l.length → (rd_T39 l i).f1.length < 17592186044416
theorem cclone_loop (l : List S39) (ht : Tiny l) : ∀ (d i : Nat), i + d = l.length → Ev (fun k => conf_clone.l0 k (l.take i) l (l.length : Int) i) l := by
  have hn := ht.1
  intro d
  induction d with
  | zero =>
    intro i hi
    obtain rfl : i = l.length := by omega
    rw [List.take_length]
    exact Ev.step (f := fun _ => some l) (fun k => by simp only [conf_clone.l0]; rw [if_neg (by omega)]) (Ev.now _)
  | succ d ih =>
    intro i hi
    refine Ev.step (f := fun k => conf_clone.l0 k (l.take i ++ [(⟨(rd_T39 l i).f0, (rd_T39 l i).f1⟩ : S39)]) l (l.length : Int) ((i + 1 : Nat) : Int)) (fun k => by
      simp only [conf_clone.l0]
      rw [if_pos (show (i : Int) < (l.length : Int) by omega), if_pos (Int.natCast_nonneg i), if_pos (show (i : Int) < (l.length : Int) by omega), clone_ev _ (ht.2 i (by omega)), Option.bind_some, if_pos (by rw [List.length_take]; omega), wr1 (by omega)]) ?_
    have h := ih (i + 1) (by omega)
    rw [take_snoc39 l i (by omega)] at h
    exact h
theorem cclone_ev (l : List S39) (ht : Tiny l) : Ev (fun k => conf_clone.f k l) l := by
  have := cclone_loop l ht l.length 0 (by omega)
  simp only [List.take_zero] at this
  exact this
/-- the rest from p on, its first from 1 -/
def restF (l : List S39) (p : Nat) : List S39 := (l.drop p).set 0 (⟨1, (rd_T39 l p).f1⟩ : S39)
theorem rest_len (l : List S39) (p : Nat) : (restF l p).length = l.length - p := by simp [restF]
theorem rest_get0 (l : List S39) (p : Nat) (h : p < l.length) : rd_T39 (restF l p) 0 = ⟨1, (rd_T39 l p).f1⟩ := by
  have hl : 0 < (restF l p).length := by rw [rest_len]; omega
  have := t39_get (l := restF l p) (i := 0) hl
  rw [show ((0 : Nat) : Int) = 0 from rfl] at this
  rw [this]
  simp [restF]
theorem rest_get (l : List S39) (p i : Nat) (h0 : 0 < i) (h : p + i < l.length) : rd_T39 (restF l p) i = rd_T39 l ((p + i : Nat) : Int) := by
  have hl : i < (restF l p).length := by rw [rest_len]; omega
  rw [t39_get hl, t39_get h]
  simp [restF, List.getElem_set, show ¬ 0 = i by omega]
theorem rest_ok (l : List S39) (p : Nat) (hc : cOk l) (h : p < l.length) : cOk (restF l p) := by
  have h0 := rest_get0 l p h
  have up : ∀ i : Nat, i < l.length → (rd_T39 l 0).f0 + i ≤ (rd_T39 l i).f0 := by
    intro i
    induction i with
    | zero => intro _; simp
    | succ i ih =>
      intro hi
      have h1 := ih (by omega)
      have h2 := (hc.2.2 (i + 1) hi).2.2 (by omega)
      simp only [Nat.add_sub_cancel] at h2
      omega
  refine ⟨by rw [rest_len]; omega, by rw [h0], fun i hi => ?_⟩
  rw [rest_len] at hi
  rcases Nat.eq_zero_or_pos i with e | e
  · subst e
    refine ⟨?_, ?_, fun h => by omega⟩
    · show mOk (rd_T39 (restF l p) 0).f1
      rw [h0]; exact (hc.2.2 p h).1
    · show (rd_T39 (restF l p) 0).f0 ≤ _
      rw [h0]; simp
  · have hg := rest_get l p i e (by omega)
    have hc1 := hc.2.2 (p + i) (by omega)
    refine ⟨by rw [hg]; exact hc1.1, by rw [hg]; exact hc1.2.1, fun _ => ?_⟩
    rw [hg]
    by_cases e1 : i = 1
    · subst e1
      show (rd_T39 (restF l p) 0).f0 < _
      rw [h0]
      have := up (p + 1) (by omega)
      have := hc.2.1
      simp only
      omega
    · have hg1 := rest_get l p (i - 1) (by omega) (by omega)
      rw [hg1]
      have := hc1.2.2 (by omega)
      rw [show p + i - 1 = p + (i - 1) by omega] at this
      exact this
/-- at or behind the place both say the same -/
theorem rest_at (l : List S39) (p : Nat) (a b : Int) (h : p < l.length) (hp : (rd_T39 l p).f0 ≤ a) (hab : a ≤ b) (h1 : 1 ≤ b) : atF (restF l p) b = atF l b := by
  have e : l = l.take (p + 1) ++ l.drop (p + 1) := (List.take_append_drop _ _).symm
  have e2 : restF l p = (⟨1, (rd_T39 l p).f1⟩ : S39) :: l.drop (p + 1) := by
    unfold restF
    rw [List.drop_eq_getElem_cons h]
    rfl
  rw [e2]
  conv => rhs; rw [e, take_snoc39 l p h]
  unfold atF
  rw [List.foldl_append, List.foldl_append, List.foldl_cons, List.foldl_cons, List.foldl_nil]
  simp only
  rw [if_pos h1, if_pos (by omega)]
theorem trim_ev (l : List S39) (a : Int) (hf : Fits l) (ht : Tiny l) : Ev (fun k => conf_Trim.f k l a) (if cOk l ∧ 1 ≤ a then restF l (placeOf l a).toNat else l) := by
  unfold conf_Trim.f
  refine Ev.bind (check_ev l hf) ?_
  by_cases h : cOk l
  case neg =>
    simp only [if_neg h, if_neg (show ¬ ((3 : Int) = 0) by omega), if_neg (fun h2 : cOk l ∧ 1 ≤ a => h h2.1)]
    exact Ev.step (f := fun _ => some l) (fun k => by simp [conf_Trim.j0]) (Ev.now _)
  simp only [if_pos h, if_true]
  by_cases h1 : 1 ≤ a
  case neg =>
    rw [if_neg (fun h2 => h1 h2.2)]
    exact Ev.step (f := fun _ => some l) (fun k => by simp only [conf_Trim.j0]; rw [if_pos (by simp; omega)]) (Ev.now _)
  rw [if_pos ⟨h, h1⟩]
  refine Ev.step (fun k => by simp only [conf_Trim.j0]; rw [if_neg (by simp; omega)]) ?_
  refine Ev.bind (place_ev l a hf.1) ?_
  rcases place_whole l a with ⟨h2, h3, _⟩ | ⟨p, h2, h3, h4, _, h5⟩
  · have h6 : ¬ (rd_T39 l 0).f0 ≤ a := h3 0 h.1
    have := h.2.1
    omega
  simp only [h3, if_pos (show 0 ≤ (p : Int) by omega), if_pos (show (p : Int) ≤ (l.length : Int) by omega), Int.toNat_natCast]
  have ht2 : Tiny (l.drop p) := ⟨by rw [List.length_drop]; have := ht.1; omega, fun i hi => by
    rw [List.length_drop] at hi
    have e : rd_T39 (l.drop p) i = rd_T39 l ((p + i : Nat) : Int) := by rw [t39_get (by rw [List.length_drop]; omega), t39_get (by omega)]; simp
    rw [e]; exact ht.2 (p + i) (by omega)⟩
  refine Ev.bind (cclone_ev _ ht2) ?_
  simp only [if_pos (show (0 : Int) < ((l.drop p).length : Int) by rw [List.length_drop]; omega)]
  have e : rd_T39 (l.drop p) 0 = rd_T39 l p := by
    have := t39_get (l := l.drop p) (i := 0) (by rw [List.length_drop]; omega)
    rw [show ((0 : Nat) : Int) = 0 from rfl] at this
    rw [this, t39_get h2]; simp
  rw [e]
  exact Ev.now _
theorem ConfTrims_pure (l : List S39) (a b : Int) (hn : l.length < 9223372036854775807) (hb : 0 ≤ b ∧ b ≤ 65535) (ha : -9223372036854775808 ≤ a) : ∃ k, changeoverlaw11_ConfTrims.f k l a b = some true := by
  refine Ev.rounds (g := fun k => changeoverlaw11_ConfTrims.f k l a b) ?_
  unfold changeoverlaw11_ConfTrims.f
  have out : Ev (fun k => changeoverlaw11_ConfTrims.j0 k l a b true) true := Ev.step (fun k => by simp only [changeoverlaw11_ConfTrims.j0, if_true]) (Ev.bind awake_ev (Ev.now _))
  refine Ev.bind (large_ev l hn) ?_
  by_cases hs : Small l
  case neg =>
    simp only [hs, not_false_eq_true, decide_true, if_true]
    exact out
  have hf : Fits l := ⟨hn, fun i hi => by have := hs.2 i hi; omega⟩
  have ht : Tiny l := ⟨by have := hs.1; omega, fun i hi => by have := hs.2 i hi; omega⟩
  simp only [hs, not_true_eq_false, decide_false, Bool.false_eq_true, if_false]
  by_cases hbig : a > 1099511627776
  · simp only [hbig, decide_true]
    exact out
  simp only [hbig, decide_false]
  refine Ev.step (fun k => by simp only [changeoverlaw11_ConfTrims.j0, Bool.false_eq_true, if_false]; rfl) ?_
  refine Ev.bind (trim_ev l a hf ht) ?_
  refine Ev.bind (refcheck_ev l hf) ?_
  have same : Ev (fun k => changeoverlaw11_ConfTrims.j1 k l a b l true) true := by
    refine Ev.step (fun k => by simp only [changeoverlaw11_ConfTrims.j1, if_true]; rfl) ?_
    refine Ev.bind (same_ev l l hf) ?_
    simp only [decide_true, if_true]
    exact Ev.bind awake_ev (Ev.now _)
  by_cases h : cOk l
  case neg =>
    simp only [h, decide_false, Bool.false_eq_true, if_false, false_and]
    exact same
  simp only [h, decide_true, if_true, true_and]
  by_cases h1 : 1 ≤ a
  case neg =>
    simp only [h1, if_false, show a < 1 by omega, decide_true]
    exact same
  simp only [h1, if_true, show ¬ a < 1 by omega, decide_false]
  rcases place_whole l a with ⟨h2, h3, _⟩ | ⟨p, h2, h3, h4, h6, h5⟩
  · have h6 : ¬ (rd_T39 l 0).f0 ≤ a := h3 0 h.1
    have := h.2.1
    omega
  rw [h3, Int.toNat_natCast]
  have hlen := rest_len l p
  have hsx : Small (restF l p) := ⟨by rw [hlen]; have := hs.1; omega, fun j hj => by
    rw [hlen] at hj
    rcases Nat.eq_zero_or_pos j with e | e
    · subst e
      show (rd_T39 (restF l p) 0).f1.length ≤ 40
      rw [rest_get0 l p h2]; exact hs.2 p h2
    · rw [rest_get l p j e (by omega)]; exact hs.2 (p + j) (by omega)⟩
  have hfx : Fits (restF l p) := ⟨by have := hsx.1; omega, fun i hi => by have := hsx.2 i hi; omega⟩
  have hcx := rest_ok l p h h2
  refine Ev.step (fun k => by simp only [changeoverlaw11_ConfTrims.j1, Bool.false_eq_true, if_false]; rfl) ?_
  refine Ev.bind (refcheck_ev _ hfx) ?_
  simp only [hcx, decide_true, if_true, if_neg (show ¬ ((restF l p).length : Int) > (l.length : Int) by rw [hlen]; omega)]
  have w : wrap64 (a + wrap64 b) = a + b := by unfold wrap64; omega
  have tail : Ev (fun k => changeoverlaw11_ConfTrims.j2 k l a b (restF l p) false) true := by
    refine Ev.step (fun k => by simp only [changeoverlaw11_ConfTrims.j2, Bool.false_eq_true, if_false, w]; rfl) ?_
    refine Ev.bind (at_ev _ _ hfx) ?_
    rw [if_pos ⟨hcx, by omega⟩, rest_at l p a (a + b) h2 h4 (by omega) (by omega)]
    simp only [changeoverref11_At.f, Option.bind_some]
    refine Ev.bind (ints_ev _ _ (by have := atF_len l (a + b) hs; omega)) ?_
    simp only [decide_true, if_true]
    exact Ev.bind awake_ev (Ev.now _)
  by_cases hm : ((restF l p).length : Int) > 1
  · simp only [if_pos hm, if_pos (show (1 : Int) < ((restF l p).length : Int) from hm)]
    have hg := rest_get l p 1 (by omega) (by rw [hlen] at hm; omega)
    have := h6 (p + 1) (by omega) (by rw [hlen] at hm; omega)
    rw [show ((1 : Nat) : Int) = 1 from rfl] at hg
    rw [hg]
    simp only [this, decide_false]
    exact tail
  · simp only [if_neg hm]
    exact tail
end Go.Proofs.Ytalpnhgkhhmmlaa.PConf
