-- By the session: plain facts on ref Majority, Counts and Nodes against a tally's bits: no memory, no Go.
import Derived.Test.YtalpnhgkhhmmlaaHTal7
import Derived.Test.YtalpnhgkhhmmlaaTPlain0
import Derived.Test.YtalpnhgkhhmmlaaTMaj
import Derived.Test.YtalpnhgkhhmmlaaPTalx11
import Derived.Test.YtalpnhgkhhmmlaaHTalA7
namespace Go.Proofs.Ytalpnhgkhhmmlaa.PTal
open Go.RowKit Go.Proofs.YtalpnhgkhhmmlaaW.PrintWords Go.Proofs.YtalpnhgkhhmmlaaW.PrintLast Go.Proofs.YtalpnhgkhhmmlaaW.PrintMore
set_option linter.unusedVariables false
set_option linter.unusedSimpArgs false
open Classical
theorem getD_rd (l : List Int) (k : Nat) : l.getD k 0 = rd l k := by simp [rd]
theorem firsts_le (l : List Int) : ∀ k, (firstsOf l k).length ≤ k
  | 0 => by simp [firstsOf]
  | k + 1 => by
    have := firsts_le l k
    unfold firstsOf
    split <;> simp <;> omega
theorem refmaj_loop (l of : List Int) (hn : l.length < 1000000000000) (ho : of.length < 1000000000000) : ∀ (d i : Nat), i + d = l.length →
    Ev (fun k => changeoverref11_Majority.l0 k l of (((firstsOf l i).length : Nat) : Int) (((firstsOf l i).countP (fun x => decide (x ∈ of)) : Nat) : Int) i) (majOf l of) := by
  intro d
  induction d with
  | zero =>
    intro i hi
    obtain rfl : i = l.length := by omega
    have h1 := firsts_le l l.length
    have h2 : (firstsOf l l.length).countP (fun x => decide (x ∈ of)) ≤ (firstsOf l l.length).length := List.countP_le_length
    refine Ev.step (f := fun _ => some (majOf l of)) (fun k => by
      simp only [changeoverref11_Majority.l0]
      rw [if_neg (by omega), maj_firsts]
      congr 1
      refine decide_eq_decide.2 ?_
      unfold wrap64
      omega) (Ev.now _)
  | succ d ih =>
    intro i hi
    have h1 := firsts_le l i
    have h2 : (firstsOf l i).countP (fun x => decide (x ∈ of)) ≤ (firstsOf l i).length := List.countP_le_length
    have hlt : i < l.length := by omega
    have ih' := ih (i + 1) (by omega)
    refine Ev.step (fun k => by simp only [changeoverref11_Majority.l0]; rw [if_pos (show (i : Int) < (l.length : Int) by omega), if_pos (show 0 ≤ (i : Int) by omega), if_pos (show (i : Int) ≤ (l.length : Int) by omega)]) ?_
    simp only [Int.toNat_natCast]
    refine Ev.bind (in_ev (l.take i) (rd l i) (by simp; omega)) ?_
    simp only [firstsOf, getD_rd] at ih'
    by_cases hin : rd l i ∈ l.take i
    · simp only [hin, decide_true, if_true, wr1 (show i < 9223372036854775807 by omega)]
      simpa [hin] using ih'
    · simp only [hin, decide_false, Bool.false_eq_true, if_false, wr1 (show i < 9223372036854775807 by omega)]
      simp only [hin, if_false] at ih'
      refine Ev.bind (in_ev of (rd l i) (by omega)) ?_
      rw [wr1 (by omega), wr1 (by omega)]
      by_cases hof : rd l i ∈ of
      · simp only [hof, decide_true, if_true]
        simpa [hof, List.countP_append] using ih'
      · simp only [hof, decide_false, Bool.false_eq_true, if_false]
        simpa [hof, List.countP_append] using ih'
theorem refmaj_ev (l of : List Int) (hn : l.length < 1000000000000) (ho : of.length < 1000000000000) : Ev (fun k => changeoverref11_Majority.f k l of) (majOf l of) := by
  have := refmaj_loop l of hn ho l.length 0 (by omega)
  simpa [firstsOf, changeoverref11_Majority.f] using this

/-- What counted so far, behind drops up to low, as bits by indexes. -/
structure GV (got : List S55) (low : Int) (V : Int → Nat) : Prop where
  bit : ∀ (i : Int) (x : Nat), V i / 2 ^ x % 2 = 1 ↔ low < i ∧ ∃ j : Nat, j < got.length ∧ (rd_T55 got j).f1 = i ∧ (rd_T55 got j).f2 = (x : Int)
  node : ∀ j : Nat, j < got.length → 1 ≤ (rd_T55 got j).f2 ∧ (rd_T55 got j).f2 ≤ 9
theorem GV.start : GV [] 0 (fun _ => 0) := ⟨fun i x => ⟨fun h => by simp at h, fun ⟨_, j, h, _⟩ => absurd h (Nat.not_lt_zero _)⟩, fun j h => absurd h (Nat.not_lt_zero _)⟩
theorem rd_snoc_lt {l : List S55} {v : S55} {j : Nat} (h : j < l.length) : rd_T55 (l ++ [v]) j = rd_T55 l j := by
  unfold rd_T55
  rw [Int.toNat_natCast, List.getD_eq_getElem?_getD, List.getElem?_append_left h, List.getD_eq_getElem?_getD]
theorem rd_snoc_eq {l : List S55} {v : S55} : rd_T55 (l ++ [v]) (l.length : Nat) = v := by
  unfold rd_T55
  rw [Int.toNat_natCast, List.getD_eq_getElem?_getD, List.getElem?_append_right (Nat.le_refl _)]
  simp
theorem GV.drop {got : List S55} {low : Int} {V : Int → Nat} (h : GV got low V) (i : Int) : GV got (mx low i) (fun j => if j ≤ i then 0 else V j) := by
  refine ⟨fun j x => ?_, h.node⟩
  have hm : mx low i = if low < i then i else low := rfl
  by_cases e : j ≤ i
  · simp only [if_pos e]
    constructor
    · intro h; simp at h
    · rintro ⟨h1, _⟩; rw [hm] at h1; split at h1 <;> omega
  · simp only [if_neg e]
    rw [h.bit]
    constructor
    · rintro ⟨h1, h2⟩; exact ⟨by rw [hm]; split <;> omega, h2⟩
    · rintro ⟨h1, h2⟩; exact ⟨by rw [hm] at h1; split at h1 <;> omega, h2⟩
theorem bit_or2 (c x y : Nat) : (c ||| 2 ^ x) / 2 ^ y % 2 = 1 ↔ c / 2 ^ y % 2 = 1 ∨ x = y := by
  have h1 := Nat.testBit_or c (2 ^ x) y
  rw [Nat.testBit_two_pow, Nat.testBit_eq_decide_div_mod_eq, Nat.testBit_eq_decide_div_mod_eq] at h1
  rw [← decide_eq_true_iff (p := (c ||| 2 ^ x) / 2 ^ y % 2 = 1), h1]
  simp
theorem GV.put {got : List S55} {low : Int} {V : Int → Nat} (h : GV got low V) (v : S55) (h1 : low < v.f1) (h2 : 1 ≤ v.f2) (h3 : v.f2 ≤ 9) : GV (got ++ [v]) low (upd V v.f1 (V v.f1 ||| 2 ^ v.f2.toNat)) := by
  have hl : (got ++ [v]).length = got.length + 1 := by simp
  refine ⟨fun i x => ?_, fun j hj => ?_⟩
  · have key : (∃ j : Nat, j < (got ++ [v]).length ∧ (rd_T55 (got ++ [v]) j).f1 = i ∧ (rd_T55 (got ++ [v]) j).f2 = (x : Int)) ↔ (∃ j : Nat, j < got.length ∧ (rd_T55 got j).f1 = i ∧ (rd_T55 got j).f2 = (x : Int)) ∨ (v.f1 = i ∧ v.f2 = (x : Int)) := by
      constructor
      · rintro ⟨j, hj, h4⟩
        rcases Nat.lt_or_ge j got.length with h5 | h5
        · rw [rd_snoc_lt h5] at h4; exact .inl ⟨j, h5, h4⟩
        · obtain rfl : j = got.length := by omega
          rw [rd_snoc_eq] at h4; exact .inr h4
      · rintro (⟨j, hj, h4⟩ | h4)
        · exact ⟨j, by omega, by rw [rd_snoc_lt hj]; exact h4⟩
        · exact ⟨got.length, by omega, by rw [rd_snoc_eq]; exact h4⟩
    rw [key]
    by_cases e : i = v.f1
    · subst e
      simp only [upd, if_true]
      rw [bit_or2, h.bit]
      constructor
      · rintro (⟨a, b⟩ | hx)
        · exact ⟨a, .inl b⟩
        · exact ⟨h1, .inr ⟨trivial, by omega⟩⟩
      · rintro ⟨a, (b | ⟨_, b⟩)⟩
        · exact .inl ⟨a, b⟩
        · exact .inr (by omega)
    · simp only [upd, if_neg e]
      rw [h.bit]
      constructor
      · rintro ⟨a, b⟩; exact ⟨a, .inl b⟩
      · rintro ⟨a, (b | ⟨b, _⟩)⟩
        · exact ⟨a, b⟩
        · exact absurd b.symm e
  · rcases Nat.lt_or_ge j got.length with h5 | h5
    · rw [rd_snoc_lt h5]; exact h.node j h5
    · obtain rfl : j = got.length := by omega
      rw [rd_snoc_eq]; exact ⟨h2, h3⟩
theorem cnt_yes {r0 r1 low b0 b1 i x : Int} {V : Int → Nat} (h : cnt r0 r1 low V b0 b1 i x = true) : low < i ∧ 1 ≤ x ∧ x ≤ 9 := by
  simp [cnt] at h; omega
theorem counts_loop (l : List S55) (i x : Int) (b0 b1 : Int) (dr : Bool) (hn : l.length < 9223372036854775807) : ∀ (d j : Nat), j + d = l.length →
    Ev (fun k => changeoverref34_Counts.l0 k l j b0 b1 i x dr) (decide (¬ ∃ q : Nat, j ≤ q ∧ q < l.length ∧ (rd_T55 l q).f1 = i ∧ (rd_T55 l q).f2 = x)) := by
  intro d
  induction d with
  | zero =>
    intro j hj
    refine Ev.step (f := fun _ => some true) (fun k => by simp only [changeoverref34_Counts.l0]; rw [if_neg (by omega)]) ((Ev.now _).to ?_)
    symm
    rw [decide_eq_true_iff]
    rintro ⟨q, h1, h2, _⟩
    omega
  | succ d ih =>
    intro j hj
    refine Ev.step (fun k => by simp only [changeoverref34_Counts.l0]; rw [if_pos (show (j : Int) < (l.length : Int) by omega), if_pos (Int.natCast_nonneg j), wr1 (show j < 9223372036854775807 by omega)]) ?_
    have next : (¬ ((rd_T55 l j).f1 = i ∧ (rd_T55 l j).f2 = x)) → Ev (fun k => changeoverref34_Counts.l0 k l ((j + 1 : Nat) : Int) b0 b1 i x dr) (decide (¬ ∃ q : Nat, j ≤ q ∧ q < l.length ∧ (rd_T55 l q).f1 = i ∧ (rd_T55 l q).f2 = x)) := fun hno =>
      (ih (j + 1) (by omega)).to (by
        rw [decide_eq_decide]
        refine not_congr ⟨fun ⟨q, h1, h2⟩ => ⟨q, by omega, h2⟩, fun ⟨q, h1, h2, h3⟩ => ?_⟩
        rcases Nat.eq_or_lt_of_le h1 with e | e
        · subst e; exact absurd h3 hno
        · exact ⟨q, e, h2, h3⟩)
    by_cases h1 : (rd_T55 l j).f1 = i
    · simp only [if_pos h1]
      by_cases h2 : (rd_T55 l j).f2 = x
      · simp only [if_pos h2]
        refine (Ev.now _).to ?_
        symm
        rw [decide_eq_false_iff_not]
        exact fun h => h ⟨j, Nat.le_refl _, by omega, h1, h2⟩
      · simp only [if_neg h2]; exact next (fun h => h2 h.2)
    · simp only [if_neg h1]; exact next (fun h => h1 h.1)
theorem counts_ev (got : List S55) (low : Int) (V : Int → Nat) (h : GV got low V) (r0 r1 b0 b1 i x : Int) (dr : Bool) (hn : got.length < 9223372036854775807) : Ev (fun k => changeoverref34_Counts.f k r0 r1 got low b0 b1 i x dr) (cnt r0 r1 low V b0 b1 i x) := by
  have hj : Ev (fun k => changeoverref34_Counts.j0 k got true b0 b1 i x dr) false := Ev.step (f := fun _ => some false) (fun k => by simp only [changeoverref34_Counts.j0, if_true]) (Ev.now _)
  have no : cnt r0 r1 low V b0 b1 i x = false → Ev (fun k => changeoverref34_Counts.j0 k got true b0 b1 i x dr) (cnt r0 r1 low V b0 b1 i x) := fun e => hj.to e.symm
  unfold changeoverref34_Counts.f
  by_cases h0 : b0 = r0
  case neg => simp only [h0, beq_iff_eq, beq_eq_false_iff_ne, ne_eq, not_false_eq_true, Bool.not_eq_true', Bool.or_eq_true, true_or, if_true, Bool.not_eq_eq_eq_not, Bool.not_true]; exact no (by simp [cnt, h0])
  by_cases h1 : b1 = r1
  case neg => simp only [h1, beq_iff_eq, beq_eq_false_iff_ne, ne_eq, not_false_eq_true, Bool.not_eq_true', Bool.or_eq_true, or_true, if_true, Bool.not_eq_eq_eq_not, Bool.not_true]; exact no (by simp [cnt, h1])
  subst h0
  subst h1
  simp only [beq_self_eq_true, Bool.not_true, Bool.or_self, Bool.false_eq_true, if_false]
  by_cases n0 : i < 1
  · simp only [if_pos n0]; exact no (by simp [cnt, n0])
  simp only [if_neg n0]
  by_cases n1 : i > 4294967296
  · simp only [if_pos n1]; exact no (by simp [cnt, n1])
  simp only [if_neg n1]
  by_cases n2 : i ≤ low
  · simp only [if_pos n2]; exact no (by simp [cnt, n2])
  simp only [if_neg n2]
  by_cases n3 : x < 1
  · simp only [if_pos n3]; exact no (by simp [cnt, n3])
  simp only [if_neg n3]
  by_cases n4 : x > 9
  · simp only [decide_eq_true n4]; exact no (by simp [cnt, n4])
  simp only [decide_eq_false n4]
  refine Ev.step (fun k => by simp only [changeoverref34_Counts.j0, Bool.false_eq_true, if_false]; rfl) ((counts_loop got i x b0 b1 dr hn got.length 0 (by omega)).to ?_)
  have hb := h.bit i x.toNat
  have hx : ((x.toNat : Nat) : Int) = x := by omega
  rw [hx] at hb
  have hc : cnt b0 b1 low V b0 b1 i x = decide (¬ (V i / 2 ^ x.toNat % 2 = 1)) := by by_cases e : V i / 2 ^ x.toNat % 2 = 1 <;> simp [cnt, n0, n1, n2, n3, n4, e]
  rw [hc, decide_eq_decide, hb]
  exact not_congr ⟨fun ⟨q, _, h2⟩ => ⟨by omega, q, h2⟩, fun ⟨_, q, h2⟩ => ⟨q, Nat.zero_le _, h2⟩⟩
theorem nodes_skip (l : List S55) (low i : Int) (n : Int) (hn : l.length < 1000000) : ∀ (d j : Nat) (out : List Int) (r : List Int), j + d = l.length → out.length < 1000000 → (n ∈ out ∨ ¬ low < i ∨ ∀ q : Nat, j ≤ q → q < l.length → ¬ ((rd_T55 l q).f1 = i ∧ (rd_T55 l q).f2 = n)) →
    Ev (fun k => changeoverref34_Nodes.l0 k l low i out (wrap64 (n + 1))) r → Ev (fun k => changeoverref34_Nodes.l1 k l low i out n j) r := by
  intro d
  induction d with
  | zero =>
    intro j out r hj ho hs hr
    exact Ev.step (fun k => by simp only [changeoverref34_Nodes.l1]; rw [if_neg (by omega)]) hr
  | succ d ih =>
    intro j out r hj ho hs hr
    refine Ev.step (fun k => by simp only [changeoverref34_Nodes.l1]; rw [if_pos (show (j : Int) < (l.length : Int) by omega), if_pos (Int.natCast_nonneg j), wr1 (show j < 9223372036854775807 by omega)]) ?_
    have next : Ev (fun k => changeoverref34_Nodes.l1 k l low i out n ((j + 1 : Nat) : Int)) r := ih (j + 1) out r (by omega) ho (by
      rcases hs with h | h | h
      · exact .inl h
      · exact .inr (.inl h)
      · exact .inr (.inr (fun q h1 h2 => h q (by omega) h2))) hr
    by_cases h1 : (rd_T55 l j).f1 = i
    case neg => simp only [if_neg h1]; exact next
    by_cases h2 : i > low
    case neg => simp only [if_pos h1, if_neg h2]; exact next
    by_cases h3 : (rd_T55 l j).f2 = n
    case neg => simp only [if_pos h1, if_pos h2, if_neg h3]; exact next
    simp only [if_pos h1, if_pos h2, if_pos h3]
    have h4 : n ∈ out := by
      rcases hs with h | h | h
      · exact h
      · exact absurd h2 h
      · exact absurd ⟨h1, h3⟩ (h j (Nat.le_refl _) (by omega))
    refine Ev.bind (in_ev out n (by omega)) ?_
    simp only [h4, decide_true, if_true]; exact next
theorem nodes_hit (l : List S55) (low i : Int) (n : Int) (hn : l.length < 1000000) (hlow : low < i) (out : List Int) (ho : out.length < 100000) (hno : n ∉ out) (r : List Int) (hr : Ev (fun k => changeoverref34_Nodes.l0 k l low i (out ++ [n]) (wrap64 (n + 1))) r) :
    ∀ (d j : Nat), j + d = l.length → (∃ q : Nat, j ≤ q ∧ q < l.length ∧ (rd_T55 l q).f1 = i ∧ (rd_T55 l q).f2 = n) → Ev (fun k => changeoverref34_Nodes.l1 k l low i out n j) r := by
  intro d
  induction d with
  | zero => rintro j hj ⟨q, h1, h2, _⟩; omega
  | succ d ih =>
    rintro j hj ⟨q, q1, q2, q3⟩
    refine Ev.step (fun k => by simp only [changeoverref34_Nodes.l1]; rw [if_pos (show (j : Int) < (l.length : Int) by omega), if_pos (Int.natCast_nonneg j), wr1 (show j < 9223372036854775807 by omega)]) ?_
    have next : ¬ ((rd_T55 l j).f1 = i ∧ (rd_T55 l j).f2 = n) → Ev (fun k => changeoverref34_Nodes.l1 k l low i out n ((j + 1 : Nat) : Int)) r := fun h => ih (j + 1) (by omega) ⟨q, by
      rcases Nat.eq_or_lt_of_le q1 with e | e
      · subst e; exact absurd q3 h
      · exact e, q2, q3⟩
    by_cases h1 : (rd_T55 l j).f1 = i
    case neg => simp only [if_neg h1]; exact next (fun h => h1 h.1)
    by_cases h3 : (rd_T55 l j).f2 = n
    case neg => simp only [if_pos h1, if_pos (show i > low from hlow), if_neg h3]; exact next (fun h => h3 h.2)
    simp only [if_pos h1, if_pos (show i > low from hlow), if_pos h3]
    refine Ev.bind (in_ev out n (by omega)) ?_
    simp only [hno, decide_false, Bool.false_eq_true, if_false]
    simp only [if_pos (show out.length < 17592186044416 by omega)]
    exact nodes_skip l low i n hn d (j + 1) (out ++ [n]) r (by omega) (by simp; omega) (.inl (by simp)) hr
theorem nodes_ev (got : List S55) (low i : Int) (V : Int → Nat) (h : GV got low V) (hn : got.length < 1000000) : Ev (fun k => changeoverref34_Nodes.f k got low i) (nodesOf (V i) 10) := by
  have key : ∀ (d m : Nat), m + d = 10 → 1 ≤ m → Ev (fun k => changeoverref34_Nodes.l0 k got low i (nodesOf (V i) m) (m : Int)) (nodesOf (V i) 10) := by
    intro d
    induction d with
    | zero =>
      intro m hm _
      obtain rfl : m = 10 := by omega
      exact Ev.step (f := fun _ => some (nodesOf (V i) 10)) (fun k => by simp only [changeoverref34_Nodes.l0]; rw [if_neg (by omega)]) (Ev.now _)
    | succ d ih =>
      intro m hm h1
      have hl := nodesOf_len (V i) m
      have hno : (m : Int) ∉ nodesOf (V i) m := fun hin => by
        obtain ⟨k, hk, _, e⟩ := (mem_nodesOf _ _ _).1 hin; omega
      have hr := ih (m + 1) (by omega) (by omega)
      rw [nodesOf_succ] at hr
      refine Ev.step (fun k => by simp only [changeoverref34_Nodes.l0]; rw [if_pos (show (m : Int) ≤ 9 by omega)]) ?_
      by_cases hb : V i / 2 ^ m % 2 = 1
      · rw [if_pos hb] at hr
        obtain ⟨hlow, q, q1, q2⟩ := (h.bit i m).1 hb
        exact nodes_hit got low i m hn hlow _ (by omega) hno _ (by rw [wr1 (by omega)]; exact hr) got.length 0 (by omega) ⟨q, Nat.zero_le _, q1, q2⟩
      · rw [if_neg hb, List.append_nil] at hr
        refine nodes_skip got low i m hn got.length 0 _ _ (by omega) (by omega) ?_ (by rw [wr1 (by omega)]; exact hr)
        by_cases hlow : low < i
        · exact .inr (.inr (fun q _ q1 q2 => hb ((h.bit i m).2 ⟨hlow, q, q1, q2⟩)))
        · exact .inr (.inl hlow)
  have h0 : nodesOf (V i) 1 = [] := by
    rw [nodesOf_succ]
    have hb : ¬ (V i / 2 ^ 0 % 2 = 1) := fun hb => by
      obtain ⟨_, q, q1, q2, q3⟩ := (h.bit i 0).1 hb
      have := h.node q q1
      omega
    rw [if_neg hb, List.append_nil]
    rfl
  have := key 9 1 (by omega) (by omega)
  rw [h0] at this
  exact this
end Go.Proofs.Ytalpnhgkhhmmlaa.PTal
