-- By the session: contracts proved by hand.
import Derived.Test.YtncmkcggkgahnaaHDskA16
import Derived.RangeFuncBox
import Derived.RangeFuncWrites
import Derived.RangeFuncLeaves
import Derived.RangeFuncCalls
import Derived.Shelf.Abstract
import Derived.WalkKit
import Derived.OwnWalkIn
import Derived.TacticsInMore
import Derived.LoopNIn
import Derived.LoopIn
import Derived.OrdersIn
import Derived.RegionIn
import Derived.Deep.RegionHeld
import Derived.Deep.RegionHeldLaw
import Derived.Deep.RegionLaw
import Derived.Maps.AppendAt
import Derived.Maps.Own
import Derived.Maps.OwnOps
import Derived.Maps.OwnSet
import Derived.Maps.Views
import Derived.Lib.SliceRun
import Derived.Lib.SlBytesConst
namespace Go.Proofs.Ytncmkcggkgahnaa.PDsk
open Go.Maps
open Go.RowKit Go.Shelf Go.Sort Go.Proofs.YtncmkcggkgahnaaW.PrintWords Go.Proofs.YtncmkcggkgahnaaW.PrintLast Go.Proofs.YtncmkcggkgahnaaW.PrintMore
set_option linter.unusedVariables false
set_option linter.unusedSimpArgs false
/-! the ref's Do, the other kinds -/
set_option maxHeartbeats 4000000 in
set_option maxRecDepth 100000 in
theorem refdo_none (B0 p : Nat) (fv bv : Value) (F : List S77) (B : List S83) (s : S55) (v : Value) (w : World) (h : RefAt B0 w p fv bv F B) (hv : DatV B0 w v s.f3) (hk : (s.f0 = 1 ∨ s.f0 = 2 ∨ s.f0 = 3) → putOk s.f1 = false) (h4 : s.f0 ≠ 4) (h5 : s.f0 ≠ 5) :
    Calls Try.prog 32 #[.pointer (some ⟨p, 0, none⟩), .agg #[.int .i64 s.f0, .int .i64 s.f1, .int .i64 s.f2, v]] w (RefPost B0 p bv (stepF F B s) (stepB B s) w) := by
  obtain ⟨A, c, rfl, hc, hC⟩ := hv.len
  have hf : stepF F B s = F := by unfold stepF; rw [if_neg h4, if_neg h5]
  have hb : stepB B s = B := by
    unfold stepB bufPut
    by_cases k1 : s.f0 = 1
    · rw [if_pos k1, hk (.inl k1)]; rfl
    rw [if_neg k1]
    by_cases k2 : s.f0 = 2
    · rw [if_pos k2, hk (.inr (.inl k2))]; rfl
    rw [if_neg k2]
    by_cases k3 : s.f0 = 3
    · rw [if_pos k3, hk (.inr (.inr k3))]; rfl
    rw [if_neg k3, if_neg (by omega)]
  rw [hf, hb]
  have HA := Aside0.mk h
  have f4 : (s.f0 == 4) = false := by simpa using h4
  have f5 : (s.f0 != 5) = true := by simpa using h5
  have hno : (1 ≤ s.f0 ∧ s.f0 ≤ 3) → ¬ (1 ≤ s.f1 ∧ s.f1 ≤ 4294967296) := fun hh hn => by
    have := hk (by omega)
    unfold putOk at this
    simp at this
    omega
  clear hf hb h hv hC h4 h5 hk
  by_cases g1 : 1 ≤ s.f0
  · have e1 : decide (1 ≤ s.f0) = true := decide_eq_true g1
    by_cases g2 : s.f0 ≤ 3
    · have e2 : decide (s.f0 ≤ 3) = true := decide_eq_true g2
      have hno' := hno ⟨g1, g2⟩
      by_cases g3 : 1 ≤ s.f1
      · have e3 : decide (1 ≤ s.f1) = true := decide_eq_true g3
        have e4 : decide (s.f1 ≤ 4294967296) = false := decide_eq_false (fun h => hno' ⟨g3, h⟩)
        clear g1 g2 g3 hno hno'
        go_enter Try.func32, Try.ntmps32
        go_wp2_with fail
        go_end0
        exact ⟨_, _, rfl, HA.out.below (below_alloc (Below.refl _ _) _), .of_below (below_alloc (Below.refl _ _) _), fun k hk => .inl hk⟩
      · have e3 : decide (1 ≤ s.f1) = false := decide_eq_false g3
        clear g1 g2 g3 hno hno'
        go_enter Try.func32, Try.ntmps32
        go_wp2_with fail
        go_end0
        exact ⟨_, _, rfl, HA.out.below (below_alloc (Below.refl _ _) _), .of_below (below_alloc (Below.refl _ _) _), fun k hk => .inl hk⟩
    · have e2 : decide (s.f0 ≤ 3) = false := decide_eq_false g2
      clear g1 g2 hno
      go_enter Try.func32, Try.ntmps32
      go_wp2_with fail
      go_end0
      exact ⟨_, _, rfl, HA.out.below (below_alloc (Below.refl _ _) _), .of_below (below_alloc (Below.refl _ _) _), fun k hk => .inl hk⟩
  · have e1 : decide (1 ≤ s.f0) = false := decide_eq_false g1
    clear g1 hno
    go_enter Try.func32, Try.ntmps32
    go_wp2_with fail
    go_end0
    exact ⟨_, _, rfl, HA.out.below (below_alloc (Below.refl _ _) _), .of_below (below_alloc (Below.refl _ _) _), fun k hk => .inl hk⟩
end Go.Proofs.Ytncmkcggkgahnaa.PDsk
