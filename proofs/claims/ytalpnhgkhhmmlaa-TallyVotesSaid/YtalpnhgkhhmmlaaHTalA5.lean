-- By the session: contracts proved by hand.
import Derived.Test.YtalpnhgkhhmmlaaHTalA4
import Derived.RegionTactic
import Derived.ChangeAlike
import Derived.StillTailTactics
import Derived.Shelf.SlMaps.DeleteFunc
import Derived.Shelf.Abstract
import Derived.Maps.Own
import Derived.Maps.OwnOps
import Derived.Maps.OwnSet
import Derived.Maps.Views
import Derived.Lib.Hide
import Derived.Laws.BitsAllLaws
namespace Go.Proofs.Ytalpnhgkhhmmlaa.PTal
open Go.Maps
open Go.RowKit Go.Shelf Go.Proofs.YtalpnhgkhhmmlaaW.PrintWords Go.Proofs.YtalpnhgkhhmmlaaW.PrintLast Go.Proofs.YtalpnhgkhhmmlaaW.PrintMore
set_option linter.unusedVariables false
set_option linter.unusedSimpArgs false
/-! what a tally's map says: votes by indexes, as bits -/
structure VRep (D : DataW Unit) (V : Int → Nat) : Prop where
  isMap : IsMap D
  look : ∀ i, D.atKey (.int .i64 i) (.lit (.int .u64 0)) = .lit (.int .u64 (V i : Int))
  has : ∀ i, Maps.has D (.int .i64 i) = decide (V i ≠ 0)
  lt : ∀ i, V i < 1024
theorem VRep.empty : VRep (.map []) (fun _ => 0) := ⟨⟨[], rfl⟩, fun _ => rfl, fun _ => rfl, fun _ => by omega⟩
def upd (V : Int → Nat) (i : Int) (c : Nat) : Int → Nat := fun j => if j = i then c else V j
theorem isKey (i : Int) : WideAt.IsKeyLit (.int .i64 i) := by simp [WideAt.IsKeyLit]
theorem VRep.put {D : DataW Unit} {V : Int → Nat} (h : VRep D V) (i : Int) (c : Nat) (h0 : c ≠ 0) (h1 : c < 1024) : VRep (D.put (.int .i64 i) (.lit (.int .u64 (c : Int)))) (upd V i c) := by
  refine ⟨h.isMap.put _ _, fun j => ?_, fun j => ?_, fun j => ?_⟩
  · by_cases e : j = i
    · subst e; rw [atKey_put_same h.isMap (isKey j)]; simp [upd]
    · rw [atKey_put_other (by simpa using e), h.look]; simp [upd, e]
  · by_cases e : j = i
    · subst e; rw [has_put_same h.isMap (isKey j)]; simp [upd, h0]
    · rw [has_put_other (by simpa using e), h.has]; simp [upd, e]
  · by_cases e : j = i
    · simp [upd, e, h1]
    · simp [upd, e, h.lt]
theorem sameKey_int (p : Lit) (j : Int) : p.sameKey (.int .i64 j) = true ↔ p = .int .i64 j := by
  cases p <;> simp [Lit.sameKey]
theorem find_filter_gone {α : Type} {f g : α → Bool} (h : ∀ p, f p = true → g p = false) : ∀ l : List α, (l.filter g).find? f = none
  | [] => rfl
  | x :: l => by
    rw [List.filter_cons]
    cases hg : g x
    · exact find_filter_gone h l
    · have : f x = false := by cases hf : f x; rfl; rw [h x hf] at hg; cases hg
      simp only [if_true, List.find?_cons, this]
      exact find_filter_gone h l
theorem any_filter_gone {α : Type} {f g : α → Bool} (h : ∀ p, f p = true → g p = false) : ∀ l : List α, (l.filter g).any f = false
  | [] => rfl
  | x :: l => by
    rw [List.filter_cons]
    cases hg : g x
    · exact any_filter_gone h l
    · have : f x = false := by cases hf : f x; rfl; rw [h x hf] at hg; cases hg
      simp only [if_true, List.any_cons, this, Bool.false_or]
      exact any_filter_gone h l
theorem VRep.drop {D : DataW Unit} {V : Int → Nat} (h : VRep D V) (i : Int) : VRep (Lib.deleteFuncD (pdUp i) D) (fun j => if j ≤ i then 0 else V j) := by
  obtain ⟨es, rfl⟩ := h.isMap
  have hl := h.look
  have hh := h.has
  refine ⟨⟨_, rfl⟩, fun j => ?_, fun j => ?_, fun j => ?_⟩
  · by_cases e : j ≤ i
    · simp only [Lib.deleteFuncD, DataW.atKey]
      rw [find_filter_gone (fun p hp => by rw [(sameKey_int _ _).1 hp]; simp [pdUp, e])]
      simp [e]
    · have := hl j
      simp only [DataW.atKey] at this
      simp only [Lib.deleteFuncD, DataW.atKey]
      rw [find_filter_keep (fun p hp => by rw [(sameKey_int _ _).1 hp]; simp [pdUp]; omega)]
      simp only [e, if_false]
      exact this
  · by_cases e : j ≤ i
    · show (es.filter fun p => !pdUp i p.1 p.2).any (fun p => p.1.sameKey (.int .i64 j)) = _
      rw [any_filter_gone (fun p hp => by rw [(sameKey_int _ _).1 hp]; simp [pdUp, e])]
      simp [e]
    · have := hh j
      show (es.filter fun p => !pdUp i p.1 p.2).any (fun p => p.1.sameKey (.int .i64 j)) = _
      rw [any_filter_keep (fun p hp => by rw [(sameKey_int _ _).1 hp]; simp [pdUp]; omega)]
      simp only [e, if_false]
      exact this
  · by_cases e : j ≤ i
    · simp [e]
    · simp [e, h.lt]
/-- Does a vote count? -/
def cnt (r0 r1 low : Int) (V : Int → Nat) (b0 b1 i x : Int) : Bool :=
  decide (b0 = r0) && (decide (b1 = r1) && (!decide (i < 1) && (!decide (i > 4294967296) && (!decide (i ≤ low) && (!decide (x < 1) && (!decide (x > 9) && !decide (V i / 2 ^ x.toNat % 2 = 1)))))))
theorem or_ne {c : Nat} {x : Nat} : c ||| 2 ^ x ≠ 0 := by
  intro h
  have := (Nat.or_eq_zero_iff.1 h).2
  have hp : 0 < 2 ^ x := Nat.pow_pos (by decide)
  omega
theorem vote_any (p bm n : Nat) (r0 r1 low b0 b1 i x : Int) (D : DataW Unit) (V : Int → Nat) (w : World) (h : TallyAt w p bm n r0 r1 low D) (hV : VRep D V) (hn : n < 1000000) :
    Calls Try.prog 24 #[.pointer (some ⟨p, 0, none⟩), .agg #[.int .i64 b0, .int .i64 b1], .int .i64 i, .int .i64 x] w fun e w' => ∃ D', e = .returned (.bool (cnt r0 r1 low V b0 b1 i x)) ∧ TallyAt w' p bm (n + 1) r0 r1 low D' ∧
      VRep D' (if cnt r0 r1 low V b0 b1 i x = true then upd V i (V i ||| 2 ^ x.toNat) else V) ∧ Kpt (fun k => k = bm) w w' := by
  have no : cnt r0 r1 low V b0 b1 i x = false → ∀ (e : Ending) (w' : World), e = .returned (.bool false) ∧ Below w.heap.size w w' → ∃ D', e = .returned (.bool (cnt r0 r1 low V b0 b1 i x)) ∧ TallyAt w' p bm (n + 1) r0 r1 low D' ∧
      VRep D' (if cnt r0 r1 low V b0 b1 i x = true then upd V i (V i ||| 2 ^ x.toNat) else V) ∧ Kpt (fun k => k = bm) w w' := by
    intro hc e w' ⟨he, hb⟩
    rw [hc]
    exact ⟨D, he, ⟨(h.below hb).hp, (h.below hb).hm.mono (by omega)⟩, by simpa using hV, Kpt.of_below hb⟩
  by_cases e0 : b0 = r0
  case neg => exact (vote_no1 p bm n r0 r1 low b0 b1 i x D w h e0).mono (no (by simp [cnt, e0]))
  subst e0
  by_cases e1 : b1 = r1
  case neg => exact (vote_no2 p bm n b0 r1 low b0 b1 i x D w h e1).mono (no (by simp [cnt, e1]))
  subst e1
  by_cases n0 : i < 1
  case pos => exact (vote_no3 p bm n b0 b1 low i x D w h n0).mono (no (by simp [cnt, n0]))
  by_cases n1 : i > 4294967296
  case pos => exact (vote_no4 p bm n b0 b1 low i x D w h n0 n1).mono (no (by simp [cnt, n1]))
  by_cases n2 : i ≤ low
  case pos => exact (vote_no5 p bm n b0 b1 low i x D w h n0 n1 n2).mono (no (by simp [cnt, n2]))
  by_cases n3 : x < 1
  case pos => exact (vote_no6 p bm n b0 b1 low i x D w h n0 n1 n2 n3).mono (no (by simp [cnt, n3]))
  by_cases n4 : x > 9
  case pos => exact (vote_no7 p bm n b0 b1 low i x D w h n0 n1 n2 n3 n4).mono (no (by simp [cnt, n4]))
  by_cases hbit : V i / 2 ^ x.toNat % 2 = 1
  case pos => exact (vote_again p bm n b0 b1 low i x D w h n0 n1 n2 n3 n4 (V i) (hV.lt i) (hV.look i) (decide_eq_true hbit)).mono (no (by simp [cnt, hbit]))
  have hc : cnt b0 b1 low V b0 b1 i x = true := by simp only [cnt, n0, n1, n2, n3, n4, hbit]; simp
  rw [hc]
  refine (vote_counts p bm n b0 b1 low i x D w h n0 n1 n2 n3 n4 (V i) (hV.lt i) (hV.look i) hn (decide_eq_false hbit)).mono ?_
  rintro e w' ⟨he, ht, hk⟩
  exact ⟨_, he, ht, by simpa using hV.put i _ or_ne (or_lt n3 n4 _ (hV.lt i)), hk⟩
end Go.Proofs.Ytalpnhgkhhmmlaa.PTal
