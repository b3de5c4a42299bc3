-- By the session: contracts proved by hand.
import Derived.Test.YtncmkcggkgahnaaHDskA13
import Derived.Test.YtncmkcggkgahnaaHGen
import Derived.RangeFuncBox
import Derived.RangeFuncWrites
import Derived.RangeFuncLeaves
import Derived.RangeFuncCalls
import Derived.Shelf.Abstract
import Derived.WalkKit
import Derived.OwnWalkIn
import Derived.TacticsInMore
import Derived.LoopNIn
import Derived.LoopIn
import Derived.OrdersIn
import Derived.RegionIn
import Derived.Deep.RegionHeld
import Derived.Deep.RegionHeldLaw
import Derived.Deep.RegionLaw
import Derived.Maps.AppendAt
import Derived.Maps.Own
import Derived.Maps.OwnOps
import Derived.Maps.OwnSet
import Derived.Maps.Views
import Derived.Lib.SliceRun
import Derived.Lib.SlBytesConst
namespace Go.Proofs.Ytncmkcggkgahnaa.PDsk
open Go.Maps
open Go.RowKit Go.Shelf Go.Sort Go.Proofs.YtncmkcggkgahnaaW.PrintWords Go.Proofs.YtncmkcggkgahnaaW.PrintLast Go.Proofs.YtncmkcggkgahnaaW.PrintMore
set_option linter.unusedVariables false
set_option linter.unusedSimpArgs false
/-! the ref's Done: function 48 -/
abbrev Rd77 (B0 : Nat) (W : World) (A : Option Addr) (l : List S77) : Prop := ReadsRow (E77 B0 W) 2 W A l.length l
theorem Rd77.below {B0 : Nat} {W W' : World} {A : Option Addr} {l : List S77} (h : Rd77 B0 W A l) (hb : Below W.heap.size W W') : Rd77 B0 W' A l := ReadsRow.imp_ h hb (fun _ _ => E77.byt (.of_below hb))
theorem Rd77.C {B0 : Nat} {W : World} {A : Option Addr} {l : List S77} (h : Rd77 B0 W A l) : k77.C W A l.length l := ReadsRow.imp_ h (Below.refl _ _) (fun _ _ => E77.K)
def rdF (l : List S77) (k : Nat) : S77 := l.getD k z77
theorem Rd77.at_ {B0 : Nat} {W : World} {A : Option Addr} {l : List S77} (h : Rd77 B0 W A l) (k : Nat) (hk : k < l.length) : ∃ ad v, A = some ad ∧ W.cell? (ad.add (k * 2)) = some (.int .i64 (rdF l k).f0) ∧ W.cell? ⟨(ad.add (k * 2)).block, (ad.add (k * 2)).off + 1, none⟩ = some v ∧ DatV B0 W v (rdF l k).f1 := by
  obtain ⟨ad, e, hc⟩ := h.2.2 (by omega)
  obtain ⟨c, h1, ⟨v, rfl, hv⟩, h3⟩ := hc k (rdF l k) (by simp [rdF, List.getD_eq_getElem?_getD, List.getElem?_eq_getElem hk])
  exact ⟨ad, v, e, h3 0 _ rfl, by rw [← add_field _ _ 1 (by omega)]; exact h3 1 _ rfl, hv⟩
theorem place_ev (l : List S77) (no : Int) (hn : l.length < 9223372036854775807) : ∃ k r, changeoverref18_place.f k l no = some r ∧ ((∃ q : Nat, r = q ∧ q < l.length ∧ (rdF l q).f0 = no) ∨ (r = -1 ∧ ∀ q : Nat, q < l.length → (rdF l q).f0 ≠ no)) := by
  obtain ⟨r, hr, hs⟩ := place_loop l no hn l.length 0 (by omega)
  obtain ⟨k, hk⟩ := hr.rounds
  refine ⟨k, r, hk, ?_⟩
  rcases hs with ⟨q, h1, _, h2, h3⟩ | ⟨h1, h2⟩
  · exact .inl ⟨q, h1, h2, h3⟩
  · exact .inr ⟨h1, fun q hq => h2 q (Nat.zero_le _) hq⟩
theorem rdF_mem {l : List S77} {k : Nat} (h : k < l.length) : rdF l k ∈ l := by
  unfold rdF
  rw [List.getD_eq_getElem?_getD, List.getElem?_eq_getElem h]
  exact List.getElem_mem h
theorem rdF_rise {l : List S77} (hr : l.Pairwise (fun a b => a.f0 < b.f0)) {i j : Nat} (hi : i < l.length) (hj : j < l.length) (e : (rdF l i).f0 = (rdF l j).f0) : i = j := by
  have h : ∀ {i j : Nat}, i < j → (hj : j < l.length) → (rdF l i).f0 < (rdF l j).f0 := fun {i j} hij hj => by
    have := List.pairwise_iff_getElem.1 hr i j (by omega) hj hij
    unfold rdF
    rw [List.getD_eq_getElem?_getD, List.getElem?_eq_getElem (by omega), List.getD_eq_getElem?_getD, List.getElem?_eq_getElem hj]
    exact this
  rcases Nat.lt_trichotomy i j with h1 | h1 | h1
  · have := h h1 hj; omega
  · exact h1
  · have := h h1 hi; omega
/-- Where place points: just there the number is. -/
theorem place_at {l : List S77} {no r : Int} (hr : l.Pairwise (fun a b => a.f0 < b.f0)) (hs : (∃ q : Nat, r = q ∧ q < l.length ∧ (rdF l q).f0 = no) ∨ (r = -1 ∧ ∀ q : Nat, q < l.length → (rdF l q).f0 ≠ no)) :
    (∀ k : Nat, k < l.length → ((k : Int) = r ↔ (rdF l k).f0 = no)) ∧ (0 ≤ r ↔ (lookF l no).isSome = true) := by
  have hin : (lookF l no).isSome = true ↔ ∃ q : Nat, q < l.length ∧ (rdF l q).f0 = no := by
    constructor
    · intro h
      cases hl : lookF l no with
      | none => rw [hl] at h; cases h
      | some d =>
        obtain ⟨q, hq, e⟩ := List.getElem_of_mem (lookF_some hl)
        exact ⟨q, hq, by unfold rdF; rw [List.getD_eq_getElem?_getD, List.getElem?_eq_getElem hq, Option.getD_some, e]⟩
    · rintro ⟨q, hq, e⟩
      cases hl : lookF l no with
      | none => exact absurd e (lookF_none hl _ (rdF_mem hq))
      | some d => rfl
  rcases hs with ⟨q, rfl, hq, e⟩ | ⟨rfl, hn⟩
  · refine ⟨fun k hk => ⟨fun h => ?_, fun h => ?_⟩, ⟨fun _ => hin.2 ⟨q, hq, e⟩, fun _ => by omega⟩⟩
    · obtain rfl : k = q := by omega
      exact e
    · have := rdF_rise hr hk hq (h.trans e.symm)
      omega
  · refine ⟨fun k hk => ⟨fun h => by omega, fun h => absurd h (hn k hk)⟩, ⟨fun h => by omega, fun h => ?_⟩⟩
    obtain ⟨q, hq, e⟩ := hin.1 h
    exact absurd e (hn q hq)
def insB (x : S83) (st : List S77 × Bool) (y : S77) : Bool := !st.2 && decide (x.f1 < y.f0)
def insOut (x : S83) (st : List S77 × Bool) (y : S77) : List S77 := if insB x st y = true then st.1 ++ [⟨x.f1, []⟩] else st.1
def insD (x : S83) (st : List S77 × Bool) (y : S77) : Bool := st.2 || insB x st y
theorem doneStep_ne {x : S83} {st : List S77 × Bool} {y : S77} (h : y.f0 ≠ x.f1) : doneStep x st y = (insOut x st y ++ [y], insD x st y) := by
  unfold doneStep; simp only [if_neg h]; rfl
theorem doneStep_add {x : S83} {st : List S77 × Bool} {y : S77} (h : y.f0 = x.f1) (h2 : x.f0 = 2) : doneStep x st y = (insOut x st y ++ [⟨x.f1, y.f1 ++ x.f2⟩], insD x st y) := by
  unfold doneStep; simp only [if_pos h, if_pos h2]; rfl
theorem doneStep_make {x : S83} {st : List S77 × Bool} {y : S77} (h : y.f0 = x.f1) (h2 : x.f0 = 1) : doneStep x st y = (insOut x st y ++ [y], insD x st y) := by
  unfold doneStep; simp only [if_pos h, h2]; rfl
theorem doneStep_drop {x : S83} {st : List S77 × Bool} {y : S77} (h : y.f0 = x.f1) (h1 : x.f0 ≠ 1) (h2 : x.f0 ≠ 2) : doneStep x st y = (insOut x st y, insD x st y) := by
  unfold doneStep; simp only [if_pos h, if_neg h1, if_neg h2]; rfl
theorem doneStep_len (x : S83) (st : List S77 × Bool) (y : S77) : (doneStep x st y).1.length ≤ st.1.length + 2 := by
  unfold doneStep
  simp only
  split <;> split <;> (try split) <;> (try split) <;> simp <;> omega
def stk (l : List S77) (x : S83) (k : Nat) : List S77 × Bool := (l.take k).foldl (doneStep x) ([], done0 l x)
theorem stk_succ {l : List S77} {x : S83} {k : Nat} (h : k < l.length) : stk l x (k + 1) = doneStep x (stk l x k) (rdF l k) := by
  unfold stk
  rw [List.take_add_one, List.getElem?_eq_getElem h, Option.toList_some, List.foldl_append]
  simp [rdF, List.getD_eq_getElem?_getD, List.getElem?_eq_getElem h]
theorem stk_len (l : List S77) (x : S83) (k : Nat) : (stk l x k).1.length ≤ 2 * k := by
  have : ∀ (m : List S77) (st : List S77 × Bool), (m.foldl (doneStep x) st).1.length ≤ st.1.length + 2 * m.length := by
    intro m
    induction m with
    | nil => intro st; simp
    | cons a m ih =>
      intro st
      have h1 := ih (doneStep x st a)
      have h2 := doneStep_len x st a
      simp only [List.foldl_cons, List.length_cons]
      omega
  have h := this (l.take k) ([], done0 l x)
  simp only [List.length_nil, List.length_take] at h
  unfold stk
  omega
theorem insOut_len (x : S83) (st : List S77 × Bool) (y : S77) : (insOut x st y).length ≤ st.1.length + 1 := by unfold insOut; split <;> simp
set_option maxHeartbeats 8000000 in
set_option maxRecDepth 100000 in
theorem done_any (B0 : Nat) (A : Option Addr) (c : Nat) (l : List S77) (x : S83) (v : Value) (w : World) (hB0 : B0 ≤ w.heap.size) (hr : Rd77 B0 w A l) (hc : l.length ≤ c) (hv : DatV B0 w v x.f2) (hri : l.Pairwise (fun a b => a.f0 < b.f0)) (hll : l.length < 1000) (hL : LenF l 1000000) (hx : OpOk x) :
    Calls Try.prog 48 #[.slice A l.length c, .agg #[.int .i64 x.f0, .int .i64 x.f1, v]] w fun e w' => ∃ v', e = .returned v' ∧ Ro77 B0 w' w.heap.size v' (doneL l x) ∧ Below w.heap.size w w' := by
  obtain ⟨A2, c2, rfl, hc2, hC2⟩ := hv.len
  obtain ⟨kp, r, hkp, hrs⟩ := place_ev l x.f1 (by omega)
  obtain ⟨hat, hge⟩ := place_at hri hrs
  have hrb : -1 ≤ r ∧ r < 1000 := by rcases hrs with ⟨q, rfl, hq, _⟩ | ⟨rfl, _⟩ <;> omega
  have hbx : Below w.heap.size w (w.alloc (Obj.cells #[.int .i64 x.f0, .int .i64 x.f1, .slice A2 x.f2.length c2] 83)) := below_alloc (Below.refl _ _) _
  have HP := Aside0.mk (changeoverref18_place.calls kp A c l x.f1 r _ (Rd77.C (hr.below hbx)) hc hkp)
  have HRD := Aside0.mk hr
  have HV := Aside0.mk hv
  have HC2 := Aside0.mk hC2
  have HAT := Aside0.mk hat
  have HGE := Aside0.mk hge
  have HBX := Aside0.mk hbx
  have hbk := heap_alloc_new w (Obj.cells #[.int .i64 x.f0, .int .i64 x.f1, .slice A2 x.f2.length c2] 83)
  have HBK := Aside0.mk hbk
  clear hr hv hat hge hbx hbk hC2 hkp hrs
  have hd0 : done0 l x = (decide (x.f0 ≠ 1) || decide (0 ≤ r)) := by
    unfold done0
    congr 1
    rw [Bool.eq_iff_iff, decide_eq_true_iff]
    exact HGE.out.symm
  have HD0 := Aside0.mk hd0
  clear hd0
  go_enter Try.func48, Try.ntmps48
  go_wp2_with fail
  refine HP.out.mono ?_
  rintro e w1 ⟨rfl, hd1⟩
  obtain ⟨m1, rfl⟩ := hd1
  have HB1 := Aside0.mk (below_then HBX.out HBX.out.size (pw_below_drewN (Below.refl _ _) m1))
  have hbk1 : ((w.alloc (Obj.cells #[.int .i64 x.f0, .int .i64 x.f1, .slice A2 x.f2.length c2] 83)).drewN m1).heap[w.heap.size]? = some (.cells #[.int .i64 x.f0, .int .i64 x.f1, .slice A2 x.f2.length c2] 83 (0, 0)) := HBK.out
  obtain ⟨w1, hw1⟩ : ∃ w1, (w.alloc (Obj.cells #[.int .i64 x.f0, .int .i64 x.f1, .slice A2 x.f2.length c2] 83)).drewN m1 = w1 := ⟨_, rfl⟩
  rw [hw1] at hbk1 HB1 ⊢
  clear hw1
  have HBK1 := Aside0.mk hbk1
  have b0 : w1.cell? ⟨w.heap.size, 0, none⟩ = some (.int .i64 x.f0) := blk_cell hbk1 0
  clear hbk1 HBK HBX HP
  go_upto_region 3 with fail
  go_cut [7] (fun d wx => d = .bool (done0 l x) ∧ wx = w1)
  case first =>
    by_cases hk1 : x.f0 = 1
    · have e1 : (x.f0 != 1) = false := by simpa using hk1
      have HK1 := Aside0.mk hk1
      clear hk1
      by_cases hr0 : 0 ≤ r
      · have e2 : decide (0 ≤ r) = true := decide_eq_true hr0
        go_wp2_with fail
        go_meet
        exact ⟨by rw [HD0.out, e2]; simp, rfl⟩
      · have e2 : decide (0 ≤ r) = false := decide_eq_false hr0
        go_wp2_with fail
        go_meet
        exact ⟨by rw [HD0.out, e2]; simp [HK1.out], rfl⟩
    · have e1 : (x.f0 != 1) = true := by simpa using hk1
      go_wp2_with fail
      go_meet
      exact ⟨by rw [HD0.out]; simp [hk1], rfl⟩
  case rest =>
    obtain ⟨rfl, hh⟩ := hcut
    rw [hh]
    clear hh
    go_wp2_with fail
    go_loopw [6, 7, 8] (fun v d i wr => ∃ k : Nat, k ≤ l.length ∧ i = .int .i64 k ∧ d = .bool (stk l x k).2 ∧ Aside0 (Ro77 B0 wr (w.heap.size + 1) v (stk l x k).1) ∧ Aside0 (Below (w.heap.size + 1) w1 wr)) (fun _ _ i _ => l.length - (intOf i).toNat)
    case atStart => exact ⟨0, by omega, rfl, rfl, ⟨OwnRow.none_ _ _ _ _ _⟩, ⟨Below.refl _ _⟩⟩
    case round =>
      obtain ⟨k, hk, rfl, rfl, HO, HB⟩ := hrel
      have HBW := Aside0.mk (below_weaken HB1.out (Nat.le_succ _) HB.out)
      have hsz : w.heap.size + 1 ≤ wr.heap.size := Nat.le_trans (Nat.lt_of_not_le fun h => by have := HBK1.out; rw [Array.getElem?_eq_none h] at this; cases this) HB.out.size
      have hbk := (HB.out.block w.heap.size (Nat.lt_succ_self _)).trans HBK1.out
      have HBK := Aside0.mk hbk
      have b0' : wr.cell? ⟨w.heap.size, 0, none⟩ = some (.int .i64 x.f0) := blk_cell hbk 0
      have b1' : wr.cell? ⟨w.heap.size, 1, none⟩ = some (.int .i64 x.f1) := blk_cell hbk 1
      have b2' : wr.cell? ⟨w.heap.size, 2, none⟩ = some (.slice A2 x.f2.length c2) := blk_cell hbk 2
      clear hbk b0
      by_cases hlt : k < l.length
      · have q1 : (0 : Int) ≤ (k : Int) := by omega
        have q2 : (k : Int) < (l.length : Int) := by omega
        obtain ⟨ad, v, e, Y0, Y1, hv⟩ := HRD.out.at_ k hlt
        subst e
        obtain ⟨A4, c4, rfl, hc4, hC4⟩ := hv.len
        have y0 := pw_cell_below HBW.out Y0
        have y1 := pw_cell_below HBW.out Y1
        have hyl : (rdF l k).f1.length ≤ 1000000 := hL _ (rdF_mem hlt)
        have HK := Aside0.mk (HAT.out k hlt)
        have HST := Aside0.mk (stk_succ (x := x) hlt)
        have HSL := Aside0.mk (stk_len l x k)
        obtain ⟨y, hy⟩ : ∃ y, rdF l k = y := ⟨_, rfl⟩
        obtain ⟨st, hst⟩ : ∃ st, stk l x k = st := ⟨_, rfl⟩
        rw [hy] at y0 y1 hyl HK HST hv hC4 hc4 Y0 Y1
        rw [hst] at HO HST HSL ⊢
        have HY := Aside0.mk hy
        have HC4 := Aside0.mk hC4
        have HV4 := Aside0.mk hv
        have HY0 := Aside0.mk Y0
        have HY1 := Aside0.mk Y1
        clear hC4 hv hy hst Y0 Y1
        go_upto_region 7 with fail
        go_cut [7, 37] (fun d b wx => d = .bool st.2 ∧ b = .bool (insB x st y) ∧ wx = wr.drew)
        case first =>
          cases hd : st.2 with
          | true =>
            have e1 : insB x st y = false := by unfold insB; rw [hd]; rfl
            have E1 := Aside0.mk e1
            clear e1
            go_region
            go_wp2
            go_meet
            exact ⟨by rw [hd], by rw [E1.out], rfl⟩
          | false =>
            have E1 : Aside0 (insB x st y = decide (x.f1 < y.f0)) := ⟨by unfold insB; rw [hd]; rfl⟩
            go_region_held3 (fun w' : World => w'.cell? (ad.add (k * 2)) = some (.int .i64 y.f0) ∧ w'.cell? ⟨w.heap.size, 1, none⟩ = some (.int .i64 x.f1)) (exact ⟨y0, b1'⟩) (fail)
            go_wp2
            go_meet
            exact ⟨by rw [hd], by rw [E1.out], rfl⟩
        case rest =>
          obtain ⟨rfl, rfl, hh⟩ := hcut
          rw [hh]
          clear hh
          go_upto_if 37 with fail
          go_cut [6, 7] (fun v d wx => d = .bool (insD x st y) ∧ Aside0 (Ro77 B0 wx (w.heap.size + 1) v (insOut x st y)) ∧ Aside0 (Below (w.heap.size + 1) w1 wx))
          case first =>
            cases hi : insB x st y with
            | true =>
              have EO := Aside0.mk (show insOut x st y = st.1 ++ [⟨x.f1, []⟩] by unfold insOut; rw [if_pos hi])
              have ED := Aside0.mk (show insD x st y = true by unfold insD; rw [hi]; simp)
              clear hi
              have c1 : wr.drew.cell? ⟨w.heap.size, 1, none⟩ = some (.int .i64 x.f1) := b1'
              go_wp2_with (first
                | (at_builtin; refine OwnRow.append (R := E77 B0 wr.drew) (w0 := w1) (w.heap.size + 1) rfl (.tmp 38) (.tmp 42) 56 77 _ 2 32 rfl Try.underlying56 info77 (by decide) (by decide) (by decide) _ st.1 ⟨x.f1, []⟩ [.int .i64 x.f1, .slice none 0 0] (by first | rfl | (simp [Act.eval, Act.put]; done)) (by first | rfl | (simp [Act.eval, Act.put]; done)) ⟨_, rfl, DatV.nil _ _⟩ rfl (by simp [Value.oneCell']) (Ro77.below HO.out (below_drew (Below.refl _ _))) (below_drew HB.out) hsz (by have := HSL.out; omega) ?_; intro v5 w5 hr5 hb5 hg5 hat5; have HO5 := Aside0.mk (OwnRow.imp_ hr5 (fun _ _ => E77.byt (byt_grown (Ro77.below HO.out (below_drew (Below.refl _ _))) hg5 (by decide) (Nat.le_trans hB0 (Nat.le_succ _))))); have HB5 := Aside0.mk hb5; have HG5 := Aside0.mk hg5; clear hr5 hb5 hg5 hat5))
              go_meet
              exact ⟨by rw [ED.out], ⟨by rw [EO.out]; exact HO5.out⟩, HB5⟩
            | false =>
              have EO := Aside0.mk (show insOut x st y = st.1 by unfold insOut; rw [if_neg (by simp [hi])])
              have ED := Aside0.mk (show insD x st y = st.2 by unfold insD; rw [hi]; simp)
              clear hi
              go_wp2_with fail
              go_meet
              exact ⟨by rw [ED.out], ⟨by rw [EO.out]; exact Ro77.below HO.out (below_drew (Below.refl _ _))⟩, ⟨below_drew HB.out⟩⟩
          case rest =>
            obtain ⟨rfl, HO2, HB2⟩ := hcut
            obtain ⟨w2, hw2⟩ : ∃ w2, wc = w2 := ⟨_, rfl⟩
            rw [hw2] at HO2 HB2 ⊢
            clear hw2
            clear b0' b1' b2' y0 y1
            have HBX := Aside0.mk (below_weaken HB1.out (Nat.le_succ _) HB2.out)
            have hsz1 : w.heap.size + 1 ≤ w1.heap.size := Nat.lt_of_not_le fun h => by have := HBK1.out; rw [Array.getElem?_eq_none h] at this; cases this
            have hsz2 : w.heap.size + 1 ≤ w2.heap.size := Nat.le_trans hsz1 HB2.out.size
            have hbk := (HB2.out.block w.heap.size (Nat.lt_succ_self _)).trans HBK1.out
            have b0' : w2.cell? ⟨w.heap.size, 0, none⟩ = some (.int .i64 x.f0) := blk_cell hbk 0
            have b1' : w2.cell? ⟨w.heap.size, 1, none⟩ = some (.int .i64 x.f1) := blk_cell hbk 1
            have b2' : w2.cell? ⟨w.heap.size, 2, none⟩ = some (.slice A2 x.f2.length c2) := blk_cell hbk 2
            have y0 := pw_cell_below HBX.out HY0.out
            have y1 := pw_cell_below HBX.out HY1.out
            have HV2 := Aside0.mk (HV4.out.byt (.of_below (B0 := B0) HBX.out))
            have HIL := Aside0.mk (insOut_len x st y)
            clear hbk
            by_cases hkr : (k : Int) = r
            · have HEQ := Aside0.mk (HK.out.1 hkr)
              have e1 : ((k : Int) != r) = false := by simpa using hkr
              clear hkr
              by_cases h2 : x.f0 = 2
              · have HAD := Aside0.mk (doneStep_add (st := st) HEQ.out h2)
                have e2 : (x.f0 == 2) = true := by simpa using h2
                have e3 : (x.f0 == 1) = false := by rw [h2]; rfl
                clear h2
                go_wp2_with fail
                have hW : w2.heap.size < (w2.drew.alloc (.cells #[] 5)).heap.size := by rw [World.size_alloc]; exact Nat.lt_succ_self _
                have hbW : Below w2.heap.size w2 (w2.drew.alloc (.cells #[] 5)) := below_then (below_drew (Below.refl _ _)) (Nat.le_refl _) (below_alloc (Below.refl _ _) _)
                obtain ⟨v1, w3, hr1, ho1, hg1⟩ := app_bytes (w2.drew.alloc (.cells #[] 5)) 28 w2.heap.size (.slice (some ⟨w2.heap.size, 0, none⟩) 0 0) [] y.f1 A4 c4 (World.ownsRow_lit (base := w2.heap.size) (e := 5) (size := 1) w2.drew #[] 0 (Nat.le_refl _) (Nat.zero_le _) rfl) (Kd.C_alloc (Kd.C_drew (Kd.C_below HC4.out HBX.out)) _) (Nat.le_of_lt hW) (by simp; omega)
                have hb3 : Below w2.heap.size w2 w3 := pw_below_grown hbW _ (Nat.le_of_lt hW) hg1 (fun k e => by simp [Value.ownBlock] at e; omega)
                obtain ⟨v2, w4, hr2, ho2, hg2⟩ := app_bytes w3 28 w2.heap.size v1 ([] ++ y.f1) x.f2 A2 c2 ho1 (Kd.C_below (Kd.C_below HC2.out HBX.out) hb3) hb3.size (by have := hx.2.2.2; simp; omega)
                have hb4 : Below w2.heap.size w2 w4 := pw_below_grown hb3 _ hb3.size hg2 (fun k e => by rcases own_base' ho1 with h | ⟨b, h, hb⟩ <;> rw [h] at e <;> cases e; exact hb)
                obtain ⟨A6, c6, rfl⟩ := own_slice ho2
                have HD6 : Aside0 (DatV B0 w4 (.slice A6 (([] ++ y.f1) ++ x.f2).length c6) (y.f1 ++ x.f2)) := ⟨DatV.of_own (B0 := B0) ho2⟩
                obtain ⟨m6, hm6⟩ : ∃ m6, (([] ++ y.f1) ++ x.f2).length = m6 := ⟨_, rfl⟩
                rw [hm6] at HD6 hr2
                clear hm6
                have HR1 := Aside0.mk hr1
                have HR2 := Aside0.mk hr2
                have HB3 := Aside0.mk hb3
                have HB4 := Aside0.mk hb4
                have HO4 := Aside0.mk (Ro77.below HO2.out hb4)
                have HBB4 : Aside0 (Below (w.heap.size + 1) w1 w4) := ⟨below_then HB2.out hsz2 hb4⟩
                clear hr1 hr2 ho1 ho2 hg1 hg2 hb3 hb4 hbW hW
                go_region_held_law (fun w' : World => w'.cell? ⟨w.heap.size, 1, none⟩ = some (.int .i64 x.f1) ∧ w'.cell? ⟨w.heap.size, 2, none⟩ = some (.slice A2 x.f2.length c2) ∧ w'.cell? ⟨(ad.add (k * 2)).block, (ad.add (k * 2)).off + 1, none⟩ = some (.slice A4 y.f1.length c4)) (first | exact ⟨b1', b2', y1⟩ | exact ⟨pw_cell_below (below_alloc (Below.refl _ w2) _) b1', pw_cell_below (below_alloc (Below.refl _ w2) _) b2', pw_cell_below (below_alloc (Below.refl _ w2) _) y1⟩ | exact ⟨pw_cell_below HB3.out b1', pw_cell_below HB3.out b2', pw_cell_below HB3.out y1⟩ | exact ⟨pw_cell_below HB4.out b1', pw_cell_below HB4.out b2', pw_cell_below HB4.out y1⟩ | exact ⟨pw_cell_below (below_alloc HB4.out _) b1', pw_cell_below (below_alloc HB4.out _) b2', pw_cell_below (below_alloc HB4.out _) y1⟩ | exact ⟨blk_cell ((HB5.out.block w.heap.size (Nat.lt_succ_self _)).trans HBK1.out) 1, blk_cell ((HB5.out.block w.heap.size (Nat.lt_succ_self _)).trans HBK1.out) 2, pw_cell_below (below_weaken HB1.out (Nat.le_succ _) HB5.out) HY1.out⟩)
                  (first
                    | (refine Gen.step_append_run rfl (.tmp 60) (.tmp 65) 28 28 rfl _ _ rfl rfl HR1.out ?_)
                    | (refine Gen.step_append_run rfl (.tmp 66) (.tmp 68) 28 28 rfl _ _ rfl rfl HR2.out ?_)
                    | (refine OwnRow.append_step (R := E77 B0 w4) (w0 := w1) (w.heap.size + 1) (by simp [Region.wanted]) (.tmp 57) (.tmp 71) 56 77 _ 2 32 rfl Try.underlying56 info77 (by decide) (by decide) (by decide) _ (insOut x st y) ⟨x.f1, y.f1 ++ x.f2⟩ [.int .i64 x.f1, .slice A6 m6 c6] (by first | rfl | (simp [Act.eval, Act.put]; done)) (by first | rfl | (simp [Act.eval, Act.put]; done)) ⟨_, rfl, HD6.out⟩ rfl (by simp [Value.oneCell']) HO4.out HBB4.out (Nat.le_trans hsz2 HB4.out.size) (by have := HSL.out; have := HIL.out; omega) ?_; intro v5 w5 hr5 hb5 hg5 hat5; have HO5 := Aside0.mk (OwnRow.imp_ hr5 (fun _ _ => E77.byt (byt_grown HO4.out hg5 (by decide) (Nat.le_trans hB0 (Nat.le_succ _))))); have HB5 := Aside0.mk hb5; clear hr5 hb5 hg5 hat5))
                clear b0' b1' b2' y0 y1
                have b0' : w5.cell? ⟨w.heap.size, 0, none⟩ = some (.int .i64 x.f0) := blk_cell ((HB5.out.block w.heap.size (Nat.lt_succ_self _)).trans HBK1.out) 0
                go_wp2_with fail
                go_roundw
                case rel => exact ⟨k + 1, by omega, by go_num, by rw [HST.out, HAD.out], ⟨by rw [HST.out, HAD.out]; exact HO5.out⟩, HB5⟩
                case measure => simp [intOf]; omega
              by_cases h1 : x.f0 = 1
              · have HMK := Aside0.mk (doneStep_make (st := st) HEQ.out h1)
                have e2 : (x.f0 == 2) = false := by rw [h1]; rfl
                have e3 : (x.f0 == 1) = true := by simpa using h1
                clear h1 h2
                go_wp2_with (first
                | (at_builtin; refine OwnRow.append (R := E77 B0 w2) (w0 := w1) (w.heap.size + 1) rfl (.tmp 76) (.tmp 81) 56 77 _ 2 32 rfl Try.underlying56 info77 (by decide) (by decide) (by decide) _ (insOut x st y) y [.int .i64 y.f0, .slice A4 y.f1.length c4] (by first | rfl | (simp [Act.eval, Act.put]; done)) (by first | rfl | (simp [Act.eval, Act.put]; done)) ⟨_, rfl, HV2.out⟩ rfl (by simp [Value.oneCell']) HO2.out HB2.out hsz2 (by have := HSL.out; have := HIL.out; omega) ?_; intro v5 w5 hr5 hb5 hg5 hat5; have HO5 := Aside0.mk (OwnRow.imp_ hr5 (fun _ _ => E77.byt (byt_grown HO2.out hg5 (by decide) (Nat.le_trans hB0 (Nat.le_succ _))))); have HB5 := Aside0.mk hb5; clear hr5 hb5 hg5 hat5))
                go_roundw
                case rel => exact ⟨k + 1, by omega, by go_num, by rw [HST.out, HMK.out], ⟨by rw [HST.out, HMK.out]; exact HO5.out⟩, HB5⟩
                case measure => simp [intOf]; omega
              · have HDR := Aside0.mk (doneStep_drop (st := st) HEQ.out h1 h2)
                have e2 : (x.f0 == 2) = false := by simpa using h2
                have e3 : (x.f0 == 1) = false := by simpa using h1
                clear h1 h2
                go_wp2_with fail
                go_roundw
                case rel => exact ⟨k + 1, by omega, by go_num, by rw [HST.out, HDR.out], ⟨by rw [HST.out, HDR.out]; exact HO2.out⟩, HB2⟩
                case measure => simp [intOf]; omega
            · have HNE := Aside0.mk (doneStep_ne (x := x) (st := st) (fun h => hkr (HK.out.2 h)))
              have e1 : ((k : Int) != r) = true := by simpa using hkr
              clear hkr
              go_wp2_with (first
                | (at_builtin; refine OwnRow.append (R := E77 B0 w2) (w0 := w1) (w.heap.size + 1) rfl (.tmp 47) (.tmp 52) 56 77 _ 2 32 rfl Try.underlying56 info77 (by decide) (by decide) (by decide) _ (insOut x st y) y [.int .i64 y.f0, .slice A4 y.f1.length c4] (by first | rfl | (simp [Act.eval, Act.put]; done)) (by first | rfl | (simp [Act.eval, Act.put]; done)) ⟨_, rfl, HV2.out⟩ rfl (by simp [Value.oneCell']) HO2.out HB2.out hsz2 (by have := HSL.out; have := HIL.out; omega) ?_; intro v5 w5 hr5 hb5 hg5 hat5; have HO5 := Aside0.mk (OwnRow.imp_ hr5 (fun _ _ => E77.byt (byt_grown HO2.out hg5 (by decide) (Nat.le_trans hB0 (Nat.le_succ _))))); have HB5 := Aside0.mk hb5; clear hr5 hb5 hg5 hat5))
              go_roundw
              case rel => exact ⟨k + 1, by omega, by go_num, by rw [HST.out, HNE.out], ⟨by rw [HST.out, HNE.out]; exact HO5.out⟩, HB5⟩
              case measure => simp [intOf]; omega
      · obtain rfl : k = l.length := by omega
        have hstk : stk l x l.length = l.foldl (doneStep x) ([], done0 l x) := by unfold stk; rw [List.take_length]
        rw [hstk] at HO ⊢
        have HSL := Aside0.mk (stk_len l x l.length)
        rw [hstk] at HSL
        have HDL : Aside0 (doneL l x = if (l.foldl (doneStep x) ([], done0 l x)).2 = true then (l.foldl (doneStep x) ([], done0 l x)).1 else (l.foldl (doneStep x) ([], done0 l x)).1 ++ [⟨x.f1, []⟩]) := ⟨by unfold doneL doneEnd; rfl⟩
        obtain ⟨st, hst⟩ : ∃ st, l.foldl (doneStep x) ([], done0 l x) = st := ⟨_, rfl⟩
        rw [hst] at HO HSL HDL ⊢
        clear hst hstk
        cases hd : st.2 with
        | true =>
          have HDE := Aside0.mk (show doneL l x = st.1 by rw [HDL.out, if_pos hd])
          clear hd
          go_wp2_with fail
          go_ret
          exact ⟨_, rfl, by rw [HDE.out]; exact OwnRow.lower HO.out (Nat.le_succ _), HBW.out⟩
        | false =>
          have HDE := Aside0.mk (show doneL l x = st.1 ++ [⟨x.f1, []⟩] by rw [HDL.out, if_neg (by simp [hd])])
          clear hd
          go_wp2_with (first
            | (at_builtin; refine OwnRow.append (R := E77 B0 wr) (w0 := w1) (w.heap.size + 1) rfl (.tmp 85) (.tmp 89) 56 77 _ 2 32 rfl Try.underlying56 info77 (by decide) (by decide) (by decide) _ st.1 ⟨x.f1, []⟩ [.int .i64 x.f1, .slice none 0 0] (by first | rfl | (simp [Act.eval, Act.put]; done)) (by first | rfl | (simp [Act.eval, Act.put]; done)) ⟨_, rfl, DatV.nil _ _⟩ rfl (by simp [Value.oneCell']) HO.out HB.out hsz (by have := HSL.out; omega) ?_; intro v5 w5 hr5 hb5 hg5 hat5; have HO5 := Aside0.mk (OwnRow.imp_ hr5 (fun _ _ => E77.byt (byt_grown HO.out hg5 (by decide) (Nat.le_trans hB0 (Nat.le_succ _))))); have HB5 := Aside0.mk hb5; clear hr5 hb5 hg5 hat5))
          go_ret
          exact ⟨_, rfl, by rw [HDE.out]; exact OwnRow.lower HO5.out (Nat.le_succ _), below_weaken HB1.out (Nat.le_succ _) HB5.out⟩
end Go.Proofs.Ytncmkcggkgahnaa.PDsk
