-- By the session: contracts proved by hand.
import Derived.Test.YtncmkcggkgahnaaHDskA11
import Derived.Test.YtncmkcggkgahnaaPDskx8
import Derived.RangeFuncBox
import Derived.RangeFuncWrites
import Derived.RangeFuncLeaves
import Derived.RangeFuncCalls
import Derived.Shelf.Abstract
import Derived.WalkKit
import Derived.OwnWalkIn
import Derived.TacticsInMore
import Derived.LoopNIn
import Derived.LoopIn
import Derived.OrdersIn
import Derived.RegionIn
import Derived.Deep.RegionHeld
import Derived.Deep.RegionHeldLaw
import Derived.Deep.RegionLaw
import Derived.Maps.AppendAt
import Derived.Maps.Own
import Derived.Maps.OwnOps
import Derived.Maps.OwnSet
import Derived.Maps.Views
import Derived.Lib.SliceRun
import Derived.Lib.SlBytesConst
namespace Go.Proofs.Ytncmkcggkgahnaa.PDsk
open Go.Maps
open Go.RowKit Go.Shelf Go.Sort Go.Proofs.YtncmkcggkgahnaaW.PrintWords Go.Proofs.YtncmkcggkgahnaaW.PrintLast Go.Proofs.YtncmkcggkgahnaaW.PrintMore
set_option linter.unusedVariables false
set_option linter.unusedSimpArgs false
/-! the ref's Done, in plain words -/
theorem rise_same : ∀ {F : List S77}, F.Pairwise (fun a b => a.f0 < b.f0) → ∀ {a b : S77}, a ∈ F → b ∈ F → a.f0 = b.f0 → a = b
  | [], _, _, _, h, _, _ => absurd h (by simp)
  | x :: F, hp, a, b, ha, hb, e => by
    obtain ⟨h1, h2⟩ := List.pairwise_cons.1 hp
    rcases List.mem_cons.1 ha with ea | ha'
    · rcases List.mem_cons.1 hb with eb | hb'
      · rw [ea, eb]
      · have := h1 b hb'; rw [ea] at e; omega
    · rcases List.mem_cons.1 hb with eb | hb'
      · have := h1 a ha'; rw [eb] at e; omega
      · exact rise_same h2 ha' hb' e
def doneStep (x : S83) (st : List S77 × Bool) (y : S77) : List S77 × Bool :=
  let ins := !st.2 && decide (x.f1 < y.f0)
  let out := if ins = true then st.1 ++ [⟨x.f1, []⟩] else st.1
  let d := st.2 || ins
  if y.f0 = x.f1 then (if x.f0 = 2 then (out ++ [⟨x.f1, y.f1 ++ x.f2⟩], d) else if x.f0 = 1 then (out ++ [y], d) else (out, d)) else (out ++ [y], d)
def doneEnd (x : S83) (st : List S77 × Bool) : List S77 := if st.2 = true then st.1 else st.1 ++ [⟨x.f1, []⟩]
def done0 (l : List S77) (x : S83) : Bool := decide (x.f0 ≠ 1) || (lookF l x.f1).isSome
def doneL (l : List S77) (x : S83) : List S77 := doneEnd x (l.foldl (doneStep x) ([], done0 l x))
def keepOne (x : S83) (y : S77) : List S77 := if y.f0 = x.f1 then (if x.f0 = 2 then [⟨x.f1, y.f1 ++ x.f2⟩] else if x.f0 = 1 then [y] else []) else [y]
theorem done_true (x : S83) : ∀ (l out : List S77), l.foldl (doneStep x) (out, true) = (out ++ l.flatMap (keepOne x), true)
  | [], out => by simp
  | y :: l, out => by
    rw [List.foldl_cons, List.flatMap_cons]
    have h : doneStep x (out, true) y = (out ++ keepOne x y, true) := by
      unfold doneStep keepOne
      by_cases h1 : y.f0 = x.f1
      · by_cases h2 : x.f0 = 2
        · simp [h1, h2]
        · by_cases h3 : x.f0 = 1
          · simp [h1, h3]
          · simp [h1, h2, h3]
      · simp [h1]
    rw [h, done_true x l, List.append_assoc]
theorem keep_ne {x : S83} : ∀ {l : List S77}, (∀ y, y ∈ l → y.f0 ≠ x.f1) → l.flatMap (keepOne x) = l
  | [], _ => rfl
  | y :: l, h => by
    rw [List.flatMap_cons, keep_ne (fun z hz => h z (List.mem_cons_of_mem _ hz))]
    unfold keepOne
    rw [if_neg (h y (List.mem_cons_self ..))]
    rfl
theorem keep_del {x : S83} (h : x.f0 ≠ 1) (h2 : x.f0 ≠ 2) : ∀ l : List S77, l.flatMap (keepOne x) = delF l x.f1
  | [] => rfl
  | y :: l => by
    rw [List.flatMap_cons, keep_del h h2 l]
    unfold keepOne delF
    by_cases e : y.f0 = x.f1
    · rw [if_pos e, if_neg h2, if_neg h, List.filter_cons_of_neg (by simpa using e)]; rfl
    · rw [if_neg e, List.filter_cons_of_pos (by simpa using e)]; rfl
theorem keep_make {x : S83} (h : x.f0 = 1) : ∀ l : List S77, l.flatMap (keepOne x) = l
  | [] => rfl
  | y :: l => by
    rw [List.flatMap_cons, keep_make h l]
    unfold keepOne
    by_cases e : y.f0 = x.f1
    · rw [if_pos e, if_neg (by omega), if_pos h]; rfl
    · rw [if_neg e]; rfl
theorem filter_all {p : S77 → Bool} : ∀ {l : List S77}, (∀ y, y ∈ l → p y = true) → l.filter p = l := fun {l} h => List.filter_eq_self.2 h
theorem filter_none {p : S77 → Bool} {l : List S77} (h : ∀ y, y ∈ l → p y = false) : l.filter p = [] := List.filter_eq_nil_iff.2 (fun y hy => by rw [h y hy]; simp)
theorem keep_add {x : S83} (h2 : x.f0 = 2) {d : List Int} : ∀ {l : List S77}, l.Pairwise (fun a b => a.f0 < b.f0) → (⟨x.f1, d⟩ : S77) ∈ l → l.flatMap (keepOne x) = putF l x.f1 (d ++ x.f2)
  | [], _, h => by simp at h
  | y :: l, hp, h => by
    obtain ⟨h3, h4⟩ := List.pairwise_cons.1 hp
    rw [List.flatMap_cons]
    by_cases e : y.f0 = x.f1
    · have hy : y = ⟨x.f1, d⟩ := rise_same hp (List.mem_cons_self ..) h e
      have hgt : ∀ z, z ∈ l → x.f1 < z.f0 := fun z hz => by have := h3 z hz; omega
      rw [keep_ne (fun z hz => by have := hgt z hz; omega)]
      unfold keepOne putF
      rw [if_pos e, if_pos h2, filter_none (l := y :: l) (fun z hz => by
        rcases List.mem_cons.1 hz with rfl | hz
        · simp; omega
        · have := hgt z hz; simp; omega), List.filter_cons_of_neg (by simp; omega), filter_all (fun z hz => by have := hgt z hz; simpa using this), hy]
      rfl
    · have hin : (⟨x.f1, d⟩ : S77) ∈ l := by
        rcases List.mem_cons.1 h with h | h
        · exact absurd (congrArg S77.f0 h).symm e
        · exact h
      have hlt : y.f0 < x.f1 := h3 _ hin
      rw [keep_add h2 h4 hin]
      unfold keepOne putF
      rw [if_neg e, List.filter_cons_of_pos (by simpa using hlt), List.filter_cons_of_neg (by simp; omega)]
      rfl
theorem done_false {x : S83} (h1 : x.f0 = 1) : ∀ {l : List S77} (out : List S77), l.Pairwise (fun a b => a.f0 < b.f0) → (∀ y, y ∈ l → y.f0 ≠ x.f1) → doneEnd x (l.foldl (doneStep x) (out, false)) = out ++ putF l x.f1 []
  | [], out, _, _ => by simp [doneEnd, putF]
  | y :: l, out, hp, hn => by
    obtain ⟨h3, h4⟩ := List.pairwise_cons.1 hp
    have hy := hn y (List.mem_cons_self ..)
    rw [List.foldl_cons]
    by_cases hgt : x.f1 < y.f0
    · have hs : doneStep x (out, false) y = (out ++ [⟨x.f1, []⟩] ++ [y], true) := by unfold doneStep; simp [hgt, hy]
      have hall : ∀ z, z ∈ y :: l → x.f1 < z.f0 := fun z hz => by
        rcases List.mem_cons.1 hz with rfl | hz
        · exact hgt
        · have := h3 z hz; omega
      rw [hs, done_true, keep_make h1]
      unfold doneEnd putF
      rw [if_pos rfl, filter_none (l := y :: l) (fun z hz => by have := hall z hz; simp; omega), filter_all (fun z hz => by have := hall z hz; simpa using this)]
      simp
    · have hlt : y.f0 < x.f1 := by omega
      have hs : doneStep x (out, false) y = (out ++ [y], false) := by unfold doneStep; simp [hgt, hy]
      rw [hs, done_false h1 (out ++ [y]) h4 (fun z hz => hn z (List.mem_cons_of_mem _ hz))]
      unfold putF
      rw [List.filter_cons_of_pos (by simpa using hlt), List.filter_cons_of_neg (by simpa using hgt)]
      simp
theorem doneL_do {l : List S77} {x : S83} (hr : l.Pairwise (fun a b => a.f0 < b.f0)) (hk : x.f0 = 1 ∨ x.f0 = 2 ∨ x.f0 = 3) : doneL l x = doF l x := by
  unfold doneL done0
  rcases hk with h | h | h
  · cases hl : lookF l x.f1 with
    | none =>
      have : doF l x = putF l x.f1 [] := by unfold doF; rw [if_pos h, hl]
      rw [this]
      have hd : (decide (x.f0 ≠ 1) || (none : Option (List Int)).isSome) = false := by simp [h]
      rw [hd, done_false h [] hr (lookF_none hl), List.nil_append]
    | some d =>
      have : doF l x = l := by unfold doF; rw [if_pos h, hl]
      rw [this]
      have hd : (decide (x.f0 ≠ 1) || (some d).isSome) = true := by simp
      rw [hd, done_true, keep_make h]
      simp [doneEnd]
  · have hd : (decide (x.f0 ≠ 1) || (lookF l x.f1).isSome) = true := by simp [h]
    rw [hd, done_true]
    cases hl : lookF l x.f1 with
    | none =>
      have : doF l x = l := by unfold doF; rw [h, hl]; simp
      rw [this, keep_ne (lookF_none hl)]
      simp [doneEnd]
    | some d =>
      have : doF l x = putF l x.f1 (d ++ x.f2) := by unfold doF; rw [h, hl]; simp
      rw [this, keep_add h hr (lookF_some hl)]
      simp [doneEnd]
  · have hd : (decide (x.f0 ≠ 1) || (lookF l x.f1).isSome) = true := by simp [h]
    have : doF l x = delF l x.f1 := by unfold doF; rw [h]; simp
    rw [this, hd, done_true, keep_del (by omega) (by omega)]
    simp [doneEnd]
theorem doF_rise {F : List S77} {x : S83} (hr : F.Pairwise (fun a b => a.f0 < b.f0)) : (doF F x).Pairwise (fun a b => a.f0 < b.f0) := by
  have hp : ∀ xs : List Int, (putF F x.f1 xs).Pairwise (fun a b => a.f0 < b.f0) := fun xs => by
    unfold putF
    refine List.pairwise_append.2 ⟨hr.filter _, List.pairwise_cons.2 ⟨fun y hy => by simpa using (List.mem_filter.1 hy).2, hr.filter _⟩, fun a ha b hb => ?_⟩
    have h1 : a.f0 < x.f1 := by simpa using (List.mem_filter.1 ha).2
    rcases List.mem_cons.1 hb with rfl | hb
    · exact h1
    · have h2 : x.f1 < b.f0 := by simpa using (List.mem_filter.1 hb).2
      omega
  unfold doF
  split
  · split
    · exact hr
    · exact hp []
  · split
    · split
      · exact hp _
      · exact hr
    · split
      · exact hr.filter _
      · exact hr
theorem fold_rise : ∀ {B : List S83} {F : List S77}, F.Pairwise (fun a b => a.f0 < b.f0) → (B.foldl doF F).Pairwise (fun a b => a.f0 < b.f0)
  | [], _, h => h
  | x :: B, _, h => fold_rise (B := B) (doF_rise (x := x) h)
/-! place -/
theorem place_loop (l : List S77) (no : Int) (hn : l.length < 9223372036854775807) : ∀ (d i : Nat), i + d = l.length → ∃ r, Ev (fun k => changeoverref18_place.l0 k l no i) r ∧ ((∃ q : Nat, r = q ∧ i ≤ q ∧ q < l.length ∧ (rd_T77 l q).f0 = no) ∨ (r = -1 ∧ ∀ q : Nat, i ≤ q → q < l.length → (rd_T77 l q).f0 ≠ no)) := by
  intro d
  induction d with
  | zero =>
    intro i hi
    exact ⟨-1, Ev.step (f := fun _ => some (-1)) (fun k => by simp only [changeoverref18_place.l0]; rw [if_neg (by omega)]) (Ev.now _), .inr ⟨rfl, fun q h1 h2 => by omega⟩⟩
  | succ d ih =>
    intro i hi
    by_cases h1 : (rd_T77 l i).f0 = no
    · exact ⟨i, Ev.step (f := fun _ => some (i : Int)) (fun k => by simp only [changeoverref18_place.l0]; rw [if_pos (by omega), if_pos (by omega), if_pos h1]) (Ev.now _), .inl ⟨i, rfl, Nat.le_refl _, by omega, h1⟩⟩
    · obtain ⟨r, hr, hs⟩ := ih (i + 1) (by omega)
      refine ⟨r, Ev.step (fun k => by simp only [changeoverref18_place.l0]; rw [if_pos (show (i : Int) < (l.length : Int) by omega), if_pos (show 0 ≤ (i : Int) by omega), if_neg h1, wr1 (by omega)]) hr, ?_⟩
      rcases hs with ⟨q, h2, h3, h4⟩ | ⟨h2, h3⟩
      · exact .inl ⟨q, h2, by omega, h4⟩
      · refine .inr ⟨h2, fun q h4 h5 => ?_⟩
        rcases Nat.eq_or_lt_of_le h4 with e | e
        · subst e; exact h1
        · exact h3 q e h5
end Go.Proofs.Ytncmkcggkgahnaa.PDsk
