-- By the session: contracts proved by hand.
import Derived.Test.YtncmkcggkgahnaaHDskA9
import Derived.RangeFuncBox
import Derived.RangeFuncWrites
import Derived.RangeFuncLeaves
import Derived.RangeFuncCalls
import Derived.Shelf.Abstract
import Derived.WalkKit
import Derived.OwnWalkIn
import Derived.TacticsInMore
import Derived.LoopNIn
import Derived.LoopIn
import Derived.OrdersIn
import Derived.RegionIn
import Derived.Deep.RegionHeld
import Derived.Deep.RegionHeldLaw
import Derived.Deep.RegionLaw
import Derived.Maps.AppendAt
import Derived.Maps.Own
import Derived.Maps.OwnOps
import Derived.Maps.OwnSet
import Derived.Maps.Views
import Derived.Lib.SliceRun
import Derived.Lib.SlBytesConst
namespace Go.Proofs.Ytncmkcggkgahnaa.PDsk
open Go.Maps
open Go.RowKit Go.Shelf Go.Sort Go.Proofs.YtncmkcggkgahnaaW.PrintWords Go.Proofs.YtncmkcggkgahnaaW.PrintLast Go.Proofs.YtncmkcggkgahnaaW.PrintMore
set_option linter.unusedVariables false
set_option linter.unusedSimpArgs false
/-! the law's do: function 26 -/
/-- A step at a disk. -/
def stepF (F : List S77) (B : List S83) (s : S55) : List S77 := if s.f0 = 4 then B.foldl doF F else if s.f0 = 5 then crashF F B s.f1 s.f2 else F
def stepB (B : List S83) (s : S55) : List S83 := if s.f0 = 1 then bufPut B 1 s.f1 [] else if s.f0 = 2 then bufPut B 2 s.f1 s.f3 else if s.f0 = 3 then bufPut B 3 s.f1 [] else if s.f0 = 4 ∨ s.f0 = 5 then [] else B
def StepPost (B0 : Nat) (p bm n : Nat) (bv : Value) (F' : List S77) (B' : List S83) (w : World) (e : Ending) (w' : World) : Prop :=
  ∃ bv', e = .returned (.tuple #[]) ∧ DiskAt B0 w' p bm n bv' F' B' ∧ Kpt (DS p bm bv) w w' ∧ (∀ k, bv'.ownBlock = some k → bv.ownBlock = some k ∨ w.heap.size ≤ k)
theorem DiskAt.mono {B0 : Nat} {W : World} {p bm n n' : Nat} {bv : Value} {F : List S77} {B : List S83} (h : DiskAt B0 W p bm n bv F B) (hn : n ≤ n') : DiskAt B0 W p bm n' bv F B := ⟨h.hp, FilesAt.mono h.hm hn, h.row, h.lo⟩
theorem own_nil_slice : ∀ {k : Nat}, (Value.slice none 0 0).ownBlock = some k → False := fun h => by simp [Value.ownBlock] at h
set_option maxHeartbeats 4000000 in
set_option maxRecDepth 100000 in
theorem step_any (B0 : Nat) (p bm n : Nat) (bv : Value) (F : List S77) (B : List S83) (s : S55) (v : Value) (w : World) (h : DiskAt B0 w p bm n bv F B) (hv : DatV B0 w v s.f3) (hs : Sizes n F B) (hs2 : LenF F 80000) (hl : s.f3.length ≤ 100) :
    Calls Try.prog 26 #[.pointer (some ⟨p, 0, none⟩), .agg #[.int .i64 s.f0, .int .i64 s.f1, .int .i64 s.f2, v]] w (StepPost B0 p bm (n + B.length) bv (stepF F B s) (stepB B s) w) := by
  obtain ⟨A, c, rfl, hc, hC⟩ := hv.len
  have hbx : Below w.heap.size w (w.alloc (.cells #[.int .i64 s.f0, .int .i64 s.f1, .int .i64 s.f2, .slice A s.f3.length c] 55)) := below_alloc (Below.refl _ _) _
  have hbl : B.length < 1000000 := by have := hs.2.1; omega
  have hA := h.below hbx
  have hV := hv.byt (.of_below (B0 := B0) hbx)
  have hwsz : w.heap.size ≤ (w.alloc (.cells #[.int .i64 s.f0, .int .i64 s.f1, .int .i64 s.f2, .slice A s.f3.length c] 55)).heap.size := hbx.size
  have c1 := make_any B0 p bm n bv F B s.f1 _ hA hbl
  have c2 := add_any B0 p bm n bv F B s.f1 _ s.f3 _ hA hV (by omega) hbl
  have c3 := drop_any B0 p bm n bv F B s.f1 _ hA hbl
  have c4 := sync_any B0 p bm n bv F B _ hA hs
  have c5 := crash_any B0 p bm n bv F B s.f1 s.f2 _ hA hs hs2
  have putp : ∀ {B' : List S83} {e : Ending} {w' : World}, PutPost B0 p bm n bv F B' (w.alloc (.cells #[.int .i64 s.f0, .int .i64 s.f1, .int .i64 s.f2, .slice A s.f3.length c] 55)) e w' → StepPost B0 p bm (n + B.length) bv F B' w e w' := fun ⟨bv', h1, h2, h3, h4⟩ => ⟨bv', h1, h2.mono (by omega), (Kpt.of_below hbx).trans h3, fun k hk => (h4 k hk).imp id (fun h => by omega)⟩
  have HP : Aside0 (∀ {B' : List S83} {e : Ending} {w' : World}, PutPost B0 p bm n bv F B' (w.alloc (.cells #[.int .i64 s.f0, .int .i64 s.f1, .int .i64 s.f2, .slice A s.f3.length c] 55)) e w' → StepPost B0 p bm (n + B.length) bv F B' w e w') := ⟨putp⟩
  have HBX := Aside0.mk hbx
  have H1 := Aside0.mk c1
  have H2 := Aside0.mk c2
  have H3 := Aside0.mk c3
  have H4 := Aside0.mk c4
  have H5 := Aside0.mk c5
  have HA := Aside0.mk h
  clear h hA hV hv hC hbx c1 c2 c3 c4 c5 putp
  obtain ⟨kd, hkd⟩ : ∃ q, s.f0 = q := ⟨_, rfl⟩
  have HKD := Aside0.mk hkd
  rw [hkd] at H1 H2 H3 H4 H5 HP HBX hwsz ⊢
  clear hkd
  by_cases e1 : kd = 1
  · subst e1
    have hf : stepF F B s = F := by unfold stepF; rw [HKD.out]; simp
    have hb : stepB B s = bufPut B 1 s.f1 [] := by unfold stepB; rw [HKD.out]; simp
    rw [hf, hb]
    clear hf hb
    go_enter Try.func26, Try.ntmps26
    go_wp2_with fail
    refine H1.out.mono ?_
    rintro e w1 h
    have HH := Aside0.mk (HP.out h)
    obtain ⟨bv', rfl, _⟩ := h
    go_wp2
    go_end0
    exact HH.out
  by_cases e2 : kd = 2
  · subst e2
    have hf : stepF F B s = F := by unfold stepF; rw [HKD.out]; simp
    have hb : stepB B s = bufPut B 2 s.f1 s.f3 := by unfold stepB; rw [HKD.out]; simp
    rw [hf, hb]
    clear hf hb
    go_enter Try.func26, Try.ntmps26
    go_wp2_with fail
    refine H2.out.mono ?_
    rintro e w1 h
    have HH := Aside0.mk (HP.out h)
    obtain ⟨bv', rfl, _⟩ := h
    go_wp2
    go_end0
    exact HH.out
  by_cases e3 : kd = 3
  · subst e3
    have hf : stepF F B s = F := by unfold stepF; rw [HKD.out]; simp
    have hb : stepB B s = bufPut B 3 s.f1 [] := by unfold stepB; rw [HKD.out]; simp
    rw [hf, hb]
    clear hf hb
    go_enter Try.func26, Try.ntmps26
    go_wp2_with fail
    refine H3.out.mono ?_
    rintro e w1 h
    have HH := Aside0.mk (HP.out h)
    obtain ⟨bv', rfl, _⟩ := h
    go_wp2
    go_end0
    exact HH.out
  by_cases e4 : kd = 4
  · subst e4
    have hf : stepF F B s = B.foldl doF F := by unfold stepF; rw [HKD.out]; simp
    have hb : stepB B s = [] := by unfold stepB; rw [HKD.out]; simp
    rw [hf, hb]
    clear hf hb
    go_enter Try.func26, Try.ntmps26
    go_wp2_with fail
    refine H4.out.mono ?_
    rintro e w1 ⟨rfl, h1, h2⟩
    have HH : Aside0 (StepPost B0 p bm (n + B.length) bv (B.foldl doF F) [] w (.returned (.tuple #[])) w1) := ⟨⟨_, rfl, h1, (Kpt.of_below HBX.out).trans h2, fun k hk => (own_nil_slice hk).elim⟩⟩
    clear h1 h2
    go_wp2
    go_end0
    exact HH.out
  by_cases e5 : kd = 5
  · subst e5
    have hf : stepF F B s = crashF F B s.f1 s.f2 := by unfold stepF; rw [HKD.out]; simp
    have hb : stepB B s = [] := by unfold stepB; rw [HKD.out]; simp
    rw [hf, hb]
    clear hf hb
    go_enter Try.func26, Try.ntmps26
    go_wp2_with fail
    refine H5.out.mono ?_
    rintro e w1 ⟨rfl, h1, h2⟩
    have HH : Aside0 (StepPost B0 p bm (n + B.length) bv (crashF F B s.f1 s.f2) [] w (.returned (.tuple #[])) w1) := ⟨⟨_, rfl, h1, (Kpt.of_below HBX.out).trans h2, fun k hk => (own_nil_slice hk).elim⟩⟩
    clear h1 h2
    go_wp2
    go_end0
    exact HH.out
  have hf : stepF F B s = F := by unfold stepF; rw [HKD.out, if_neg e4, if_neg e5]
  have hb : stepB B s = B := by unfold stepB; rw [HKD.out, if_neg e1, if_neg e2, if_neg e3, if_neg (by omega)]
  rw [hf, hb]
  clear hf hb H1 H2 H3 H4 H5 HP
  have d1 : (kd == 1) = false := by simpa using e1
  have d2 : (kd == 2) = false := by simpa using e2
  have d3 : (kd == 3) = false := by simpa using e3
  have d4 : (kd == 4) = false := by simpa using e4
  have d5 : (kd == 5) = false := by simpa using e5
  go_enter Try.func26, Try.ntmps26
  go_wp2
  go_end0
  exact ⟨bv, rfl, (HA.out.below HBX.out).mono (by omega), .of_below HBX.out, fun k hk => .inl hk⟩
end Go.Proofs.Ytncmkcggkgahnaa.PDsk
