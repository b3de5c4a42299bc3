-- By the session: contracts proved by hand.
import Derived.Test.YtncmkcggkgahnaaHDskA21
import Derived.RangeFuncBox
import Derived.RangeFuncWrites
import Derived.RangeFuncLeaves
import Derived.RangeFuncCalls
import Derived.Shelf.Abstract
import Derived.WalkKit
import Derived.OwnWalkIn
import Derived.TacticsInMore
import Derived.LoopNIn
import Derived.LoopIn
import Derived.OrdersIn
import Derived.RegionIn
import Derived.Deep.RegionHeld
import Derived.Deep.RegionHeldLaw
import Derived.Deep.RegionLaw
import Derived.Maps.AppendAt
import Derived.Maps.Own
import Derived.Maps.OwnOps
import Derived.Maps.OwnSet
import Derived.Maps.Views
import Derived.Lib.SliceRun
import Derived.Lib.SlBytesConst
namespace Go.Proofs.Ytncmkcggkgahnaa.PDsk
open Go.Maps
open Go.RowKit Go.Shelf Go.Sort Go.Proofs.YtncmkcggkgahnaaW.PrintWords Go.Proofs.YtncmkcggkgahnaaW.PrintLast Go.Proofs.YtncmkcggkgahnaaW.PrintMore
set_option linter.unusedVariables false
set_option linter.unusedSimpArgs false
/-! begins: function 30 -/
def begOne (x y : S77) : Bool := decide (x.f0 = y.f0) && decide (x.f1.length ≤ y.f1.length) && decide (x.f1 = y.f1.take x.f1.length)
def begB (a b : List S77) : Bool := decide (a.length = b.length) && (List.range a.length).all (fun i => begOne (rdF a i) (rdF b i))
theorem begB_of {a b : List S77} (h : a.length = b.length) (hh : ∀ i, i < a.length → begOne (rdF a i) (rdF b i) = true) : begB a b = true := by
  unfold begB
  rw [decide_eq_true h, Bool.true_and, List.all_eq_true]
  intro i hi
  exact hh i (List.mem_range.1 hi)
theorem begB_not {a b : List S77} {i : Nat} (hi : i < a.length) (hh : begOne (rdF a i) (rdF b i) = false) : begB a b = false := by
  unfold begB
  rw [Bool.and_eq_false_iff]
  refine .inr ?_
  rw [Bool.eq_false_iff]
  intro h
  rw [List.all_eq_true] at h
  have := h i (List.mem_range.2 hi)
  rw [hh] at this
  cases this
theorem bsame_dec_loop (l l' : List Int) (hn : l.length < 9223372036854775807) (he : l.length = l'.length) : ∀ (d i : Nat), i + d = l.length → ∃ r, Ev (fun k => changeoverref01_Same.l0 k l l' i) r ∧ (r = true ↔ ∀ j : Nat, i ≤ j → j < l.length → l.getD j 0 = l'.getD j 0) := by
  intro d
  induction d with
  | zero => intro i hi; exact ⟨true, Ev.step (f := fun _ => some true) (fun k => by simp only [changeoverref01_Same.l0]; rw [if_neg (by omega)]) (Ev.now _), fun _ j h1 h2 => by omega, fun _ => rfl⟩
  | succ d ih =>
    intro i hi
    have h1 : (i : Int) < (l.length : Int) := by omega
    have h1' : (i : Int) < (l'.length : Int) := by omega
    have hrd : ∀ m : List Int, rd m (i : Int) = m.getD i 0 := fun m => rfl
    by_cases hx : l.getD i 0 = l'.getD i 0
    · obtain ⟨r, hr, hs⟩ := ih (i + 1) (by omega)
      refine ⟨r, Ev.step (fun k => ?_) hr, ?_⟩
      · rw [← wr1 (by omega)]
        simp only [changeoverref01_Same.l0]
        rw [if_pos h1, if_pos (Int.natCast_nonneg i), if_pos h1', if_pos (by rw [hrd, hrd]; exact hx)]
      · rw [hs]
        constructor
        · intro h j h2 h3
          rcases Nat.eq_or_lt_of_le h2 with e | e
          · subst e; exact hx
          · exact h j e h3
        · intro h j h2 h3
          exact h j (by omega) h3
    · exact ⟨false, Ev.step (f := fun _ => some false) (fun k => by simp only [changeoverref01_Same.l0]; rw [if_pos h1, if_pos (Int.natCast_nonneg i), if_pos h1', if_neg (by rw [hrd, hrd]; exact hx)]) (Ev.now _), ⟨fun h => (by cases h), fun h => absurd (h i (Nat.le_refl _) (by omega)) hx⟩⟩
theorem bsame_dec (l l' : List Int) (hn : l.length < 9223372036854775807) (he : l.length = l'.length) : ∃ k, changeoverref01_Same.f k l l' = some (decide (l = l')) := by
  obtain ⟨r, hr, hs⟩ := bsame_dec_loop l l' hn he l.length 0 (by omega)
  obtain ⟨k, hk⟩ := hr.rounds
  refine ⟨k, ?_⟩
  have hf : changeoverref01_Same.f k l l' = some r := by
    unfold changeoverref01_Same.f
    rw [if_pos (by omega)]
    exact hk
  rw [hf]
  congr 1
  rw [Bool.eq_iff_iff, decide_eq_true_iff, hs]
  constructor
  · intro h
    refine List.ext_getElem he (fun j h1 h2 => ?_)
    have := h j (Nat.zero_le _) h1
    rwa [List.getD_eq_getElem?_getD, List.getD_eq_getElem?_getD, List.getElem?_eq_getElem h1, List.getElem?_eq_getElem h2] at this
  · intro h j _ _
    rw [h]
set_option maxHeartbeats 1000000 in
set_option maxRecDepth 100000 in
theorem begins_any (B0 : Nat) (A A' : Option Addr) (c c' : Nat) (a b : List S77) (w : World) (ha : Rd77 B0 w A a) (hc : a.length ≤ c) (hb : Rd77 B0 w A' b) (hc' : b.length ≤ c') (hla : LenF a 1000000) (hlb : LenF b 1000000) (hl : a.length < 1000) :
    Calls Try.prog 30 #[.slice A a.length c, .slice A' b.length c'] w fun e w' => e = .returned (.bool (begB a b)) ∧ Below w.heap.size w w' := by
  have HRA := Aside0.mk ha
  have HRB := Aside0.mk hb
  clear ha hb
  by_cases hln : a.length = b.length
  · have HLN := Aside0.mk hln
    rw [← hln]
    rw [← hln] at hc'
    clear hln
    go_enter Try.func30, Try.ntmps30
    go_wp2_with fail
    go_loopw [5] (fun i wr => ∃ k : Nat, k ≤ a.length ∧ i = .int .i64 k ∧ Aside0 (∀ j, j < k → begOne (rdF a j) (rdF b j) = true) ∧ Aside0 (Below w.heap.size w wr)) (fun i _ => a.length - (intOf i).toNat)
    case atStart => exact ⟨0, by omega, rfl, ⟨fun j hj => by omega⟩, ⟨Below.refl _ _⟩⟩
    case round =>
      obtain ⟨k, hk, rfl, HI, HB⟩ := hrel
      by_cases hlt : k < a.length
      · have q1 : (0 : Int) ≤ (k : Int) := by omega
        have q2 : (k : Int) < (a.length : Int) := by omega
        have hltb : k < b.length := HLN.out ▸ hlt
        obtain ⟨ad, v, e, X0, X1, hv⟩ := HRA.out.at_ k hlt
        subst e
        obtain ⟨ad', v', e, X2, X3, hv'⟩ := HRB.out.at_ k hltb
        subst e
        obtain ⟨A4, c4, rfl, hc4, hC4⟩ := hv.len
        obtain ⟨A5, c5, rfl, hc5, hC5⟩ := hv'.len
        have hxl : (rdF a k).f1.length ≤ 1000000 := hla _ (rdF_mem hlt)
        have hyl : (rdF b k).f1.length ≤ 1000000 := hlb _ (rdF_mem hltb)
        obtain ⟨x, hx⟩ : ∃ x, rdF a k = x := ⟨_, rfl⟩
        obtain ⟨y, hy⟩ : ∃ y, rdF b k = y := ⟨_, rfl⟩
        rw [hx] at X0 X1 hC4 hc4 hxl
        rw [hy] at X2 X3 hC5 hc5 hyl
        have HX := Aside0.mk hx
        have HY := Aside0.mk hy
        have x0 := pw_cell_below HB.out X0
        have x1 := pw_cell_below HB.out X1
        have x2 := pw_cell_below HB.out X2
        have x3 := pw_cell_below HB.out X3
        have HC4 := Aside0.mk (Kd.C_below hC4 HB.out)
        have HC5 := Aside0.mk (Kd.C_below hC5 HB.out)
        have HBc : Aside0 (Below w.heap.size w wr.drew) := ⟨below_drew HB.out⟩
        clear X0 X1 X2 X3 hv hv' hC4 hC5 hx hy hltb
        by_cases e0 : x.f0 = y.f0
        · have g0 : (x.f0 != y.f0) = false := by simpa using e0
          by_cases e1 : x.f1.length ≤ y.f1.length
          · have g1' : decide (y.f1.length < x.f1.length) = false := decide_eq_false (by omega)
            have g2 : x.f1.length ≤ c5 := by omega
            have htk : (y.f1.take x.f1.length).length = x.f1.length := by simp; omega
            obtain ⟨ks, hks⟩ := bsame_dec x.f1 (y.f1.take x.f1.length) (by omega) htk.symm
            have hcall := fun n => changeoverref01_Same.calls ks A4 c4 x.f1 A5 c5 (y.f1.take x.f1.length) _ (wr.drewN n) (Kd.C_drewN HC4.out n) hc4 (Kd.C_take (Kd.C_drewN HC5.out n) e1) (by omega) hks
            rw [htk] at hcall
            have HCS := Aside0.mk hcall
            have HE0 := Aside0.mk e0
            have HE1 := Aside0.mk e1
            clear hks hcall htk e0
            cases hd : decide (x.f1 = y.f1.take x.f1.length) with
            | true =>
              rw [hd] at HCS
              have HD := Aside0.mk hd
              clear hd
              go_upto_region 6 with fail
              go_quiet (first | (go_at_call 36; (with_reducible refine (HCS.out _).mono ?_); rintro e w' ⟨rfl, ⟨nd, rfl⟩⟩; (first | exact ⟨rfl, _, World.drewN_drewN _ _ _⟩ | exact ⟨rfl, _, Eq.trans (World.drewN_drewN _ _ _) (congrArg (World.drewN _) (Nat.add_assoc _ _ _))⟩)) | (go_at_call 36; trace_state; fail))
              all_goals
                clear x0 x1 x2 x3
                go_wp2
                go_roundw
                case rel => exact ⟨k + 1, by omega, by go_num, ⟨fun j hj => by
                  rcases Nat.lt_or_ge j k with h | h
                  · exact HI.out j h
                  · obtain rfl : j = k := by omega
                    unfold begOne
                    rw [HX.out, HY.out, decide_eq_true HE0.out, decide_eq_true HE1.out, HD.out]
                    rfl⟩, ⟨pw_below_drewN HB.out _⟩⟩
                case measure => simp [intOf]; omega
            | false =>
              rw [hd] at HCS
              have HBN : Aside0 (begB a b = false) := ⟨begB_not hlt (by rw [HX.out, HY.out]; unfold begOne; rw [hd]; simp)⟩
              clear hd
              go_upto_region 6 with fail
              go_quiet (first | (go_at_call 36; (with_reducible refine (HCS.out _).mono ?_); rintro e w' ⟨rfl, ⟨nd, rfl⟩⟩; (first | exact ⟨rfl, _, World.drewN_drewN _ _ _⟩ | exact ⟨rfl, _, Eq.trans (World.drewN_drewN _ _ _) (congrArg (World.drewN _) (Nat.add_assoc _ _ _))⟩)) | (go_at_call 36; trace_state; fail))
              all_goals
                clear x0 x1 x2 x3
                go_wp2
                go_ret
                exact ⟨by rw [HBN.out]; rfl, by first | exact pw_below_drewN HB.out _ | exact HBc.out⟩
          · have g1' : decide (y.f1.length < x.f1.length) = true := decide_eq_true (by omega)
            have HBN : Aside0 (begB a b = false) := ⟨begB_not hlt (by rw [HX.out, HY.out]; unfold begOne; rw [decide_eq_false e1]; simp)⟩
            clear e1 e0
            go_upto_region 6 with fail
            go_quiet (fail)
            all_goals
              clear x0 x1 x2 x3
              go_wp2
              go_ret
              exact ⟨by rw [HBN.out]; rfl, by first | exact pw_below_drewN HB.out _ | exact HBc.out⟩
        · have g0 : (x.f0 != y.f0) = true := by simpa using e0
          have HBN : Aside0 (begB a b = false) := ⟨begB_not hlt (by rw [HX.out, HY.out]; unfold begOne; rw [decide_eq_false e0]; simp)⟩
          clear e0
          go_upto_region 6 with fail
          go_quiet (fail)
          all_goals
            clear x0 x1 x2 x3
            go_wp2
            go_ret
            exact ⟨by rw [HBN.out]; rfl, by first | exact pw_below_drewN HB.out _ | exact HBc.out⟩
      · obtain rfl : k = a.length := by omega
        have HBN : Aside0 (begB a b = true) := ⟨begB_of HLN.out HI.out⟩
        go_wp2
        go_ret
        exact ⟨by rw [HBN.out]; rfl, HB.out⟩
  · have hb' : ((a.length : Int) != (b.length : Int)) = true := by simp; omega
    have HBN : Aside0 (begB a b = false) := ⟨by unfold begB; rw [decide_eq_false hln]; rfl⟩
    go_enter Try.func30, Try.ntmps30
    go_wp2
    go_ret
    exact ⟨by rw [HBN.out]; rfl, Below.refl _ _⟩
end Go.Proofs.Ytncmkcggkgahnaa.PDsk
