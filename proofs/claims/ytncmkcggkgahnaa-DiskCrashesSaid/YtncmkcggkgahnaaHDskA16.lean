-- By the session: contracts proved by hand.
import Derived.Test.YtncmkcggkgahnaaHDskA15
import Derived.RangeFuncBox
import Derived.RangeFuncWrites
import Derived.RangeFuncLeaves
import Derived.RangeFuncCalls
import Derived.Shelf.Abstract
import Derived.WalkKit
import Derived.OwnWalkIn
import Derived.TacticsInMore
import Derived.LoopNIn
import Derived.LoopIn
import Derived.OrdersIn
import Derived.RegionIn
import Derived.Deep.RegionHeld
import Derived.Deep.RegionHeldLaw
import Derived.Deep.RegionLaw
import Derived.Maps.AppendAt
import Derived.Maps.Own
import Derived.Maps.OwnOps
import Derived.Maps.OwnSet
import Derived.Maps.Views
import Derived.Lib.SliceRun
import Derived.Lib.SlBytesConst
namespace Go.Proofs.Ytncmkcggkgahnaa.PDsk
open Go.Maps
open Go.RowKit Go.Shelf Go.Sort Go.Proofs.YtncmkcggkgahnaaW.PrintWords Go.Proofs.YtncmkcggkgahnaaW.PrintLast Go.Proofs.YtncmkcggkgahnaaW.PrintMore
set_option linter.unusedVariables false
set_option linter.unusedSimpArgs false
/-! the ref's Do: function 32 -/
structure RefAt (B0 : Nat) (W : World) (p : Nat) (fv bv : Value) (F : List S77) (B : List S83) : Prop where
  hp : W.heap[p]? = some (.cells #[fv, bv] 66 (0, 0))
  f : Ro77 B0 W B0 fv F
  row : Ro83 B0 W B0 bv B
  lo : B0 ≤ p
def RS (p : Nat) (bv : Value) (k : Nat) : Prop := k = p ∨ bv.ownBlock = some k
theorem RefAt.ne {B0 : Nat} {W : World} {p : Nat} {fv bv : Value} {F : List S77} {B : List S83} (h : RefAt B0 W p fv bv F B) :
    (∀ k, fv.ownBlock = some k → k ≠ p ∧ k < W.heap.size ∧ ∃ c, W.heap[k]? = some (.cells c 77 (0, 0))) ∧ (∀ k, bv.ownBlock = some k → k ≠ p ∧ k < W.heap.size ∧ B0 ≤ k ∧ ∃ c, W.heap[k]? = some (.cells c 83 (0, 0))) ∧ ¬ B5 W p ∧ p < W.heap.size := by
  refine ⟨fun k hk => ?_, fun k hk => ?_, fun ht => ht.ne h.hp (by decide), blk_lt h.hp⟩
  · obtain ⟨⟨c, h1⟩, h2⟩ := OwnRow.block h.f hk
    exact ⟨fun e => by subst e; rw [h.hp] at h1; injection h1 with h1; injection h1 with _ h1; revert h1; decide, blk_lt h1, c, h1⟩
  · obtain ⟨⟨c, h1⟩, h2⟩ := OwnRow.block h.row hk
    exact ⟨fun e => by subst e; rw [h.hp] at h1; injection h1 with h1; injection h1 with _ h1; revert h1; decide, blk_lt h1, h2, c, h1⟩
theorem RefAt.kept {B0 : Nat} {S : Nat → Prop} {W W' : World} {p : Nat} {fv bv : Value} {F : List S77} {B : List S83} (h : RefAt B0 W p fv bv F B) (hk : Kpt S W W') (hb : Byt B0 W W') (h1 : ¬ S p) (h2 : ∀ k, fv.ownBlock = some k → ¬ S k) (h3 : ∀ k, bv.ownBlock = some k → ¬ S k) : RefAt B0 W' p fv bv F B :=
  ⟨hk.blk h.hp h1, Ro77.moved h.f hb (fun k e => hk.block k (h.ne.1 k e).2.1 (h2 k e)), Ro83.moved h.row hb (fun k e => hk.block k (h.ne.2.1 k e).2.1 (h3 k e)), h.lo⟩
theorem RefAt.below {B0 : Nat} {W W' : World} {p : Nat} {fv bv : Value} {F : List S77} {B : List S83} (h : RefAt B0 W p fv bv F B) (hb : Below W.heap.size W W') : RefAt B0 W' p fv bv F B :=
  h.kept (S := fun _ => False) (.of_below hb) (.of_below hb) (fun h => h) (fun _ _ h => h) (fun _ _ h => h)
theorem RefAt.byt {B0 : Nat} {W W' : World} {p : Nat} {fv bv : Value} {F : List S77} {B : List S83} (h : RefAt B0 W p fv bv F B) (hk : Kpt (RS p bv) W W') : Byt B0 W W' := .of_kpt hk (fun k hs => by
  rcases hs with rfl | hs
  · exact ⟨h.lo, h.ne.2.2.1⟩
  · obtain ⟨_, _, h3, c, h4⟩ := h.ne.2.1 k hs
    exact ⟨h3, fun ht => ht.ne h4 (by decide)⟩)
/-- A step at the ref's disk. -/
def RefPost (B0 : Nat) (p : Nat) (bv : Value) (F' : List S77) (B' : List S83) (w : World) (e : Ending) (w' : World) : Prop :=
  ∃ fv' bv', e = .returned (.tuple #[]) ∧ RefAt B0 w' p fv' bv' F' B' ∧ Kpt (RS p bv) w w' ∧ (∀ k, bv'.ownBlock = some k → bv.ownBlock = some k ∨ w.heap.size ≤ k)
/-- A new F is stored. -/
theorem RefAt.setF {B0 : Nat} {w W : World} {p : Nat} {fv bv v' : Value} {F F' : List S77} {B : List S83} (h : RefAt B0 w p fv bv F B) (hb : Below w.heap.size w W) (hr : Ro77 B0 W B0 v' F') :
    RefAt B0 (W.setCell ⟨p, 0, none⟩ v') p v' bv F' B ∧ Kpt (RS p bv) w (W.setCell ⟨p, 0, none⟩ v') := by
  have h1 := h.below hb
  have hk : Kpt (fun k => k = p) W (W.setCell ⟨p, 0, none⟩ v') := .set (S := fun k => k = p) (a := ⟨p, 0, none⟩) rfl _
  have hby : Byt B0 W (W.setCell ⟨p, 0, none⟩ v') := .of_kpt hk (fun k e => by subst e; exact ⟨h1.lo, h1.ne.2.2.1⟩)
  refine ⟨⟨blk_put h1.hp 0 _ (by simp), ?_, ?_, h.lo⟩, (Kpt.of_below hb).trans (hk.mono (fun k e => .inl e))⟩
  · refine Ro77.moved hr hby (fun k e => ?_)
    obtain ⟨⟨c, h2⟩, _⟩ := OwnRow.block hr e
    exact hk.block k (blk_lt h2) (fun e => by subst e; rw [h1.hp] at h2; injection h2 with h2; injection h2 with _ h2; revert h2; decide)
  · exact Ro83.moved h1.row hby (fun k e => hk.block k (h1.ne.2.1 k e).2.1 (h1.ne.2.1 k e).1)
/-- The row of the buffer is let go. -/
theorem RefAt.setB0 {B0 : Nat} {W : World} {p : Nat} {fv bv : Value} {F : List S77} {B : List S83} (h1 : RefAt B0 W p fv bv F B) :
    RefAt B0 (W.setCell ⟨p, 1, none⟩ (.slice none 0 0)) p fv (.slice none 0 0) F [] ∧ Kpt (RS p bv) W (W.setCell ⟨p, 1, none⟩ (.slice none 0 0)) := by
  have hk : Kpt (fun k => k = p) W (W.setCell ⟨p, 1, none⟩ (.slice none 0 0)) := .set (S := fun k => k = p) (a := ⟨p, 1, none⟩) rfl _
  have hby : Byt B0 W (W.setCell ⟨p, 1, none⟩ (.slice none 0 0)) := .of_kpt hk (fun k e => by subst e; exact ⟨h1.lo, h1.ne.2.2.1⟩)
  refine ⟨⟨blk_put h1.hp 1 _ (by simp), Ro77.moved h1.f hby (fun k e => hk.block k (h1.ne.1 k e).2.1 (h1.ne.1 k e).1), OwnRow.none_ _ _ _ _ _, h1.lo⟩, hk.mono (fun k e => .inl e)⟩
/-- A line is appended to the buffer. -/
theorem ref_put_end {B0 : Nat} {w w1 w5 : World} {p : Nat} {fv bv v5 : Value} {F : List S77} {B : List S83} {x : S83} (h1 : RefAt B0 w1 p fv bv F B) (hr5 : OwnRow (E83 B0 w1) 83 3 w5 B0 v5 (B ++ [x])) (hg : w1.grownBy w5 bv.ownBlock)
    (hat : v5.ownBlock = bv.ownBlock ∨ ∃ b, v5.ownBlock = some b ∧ w1.heap.size ≤ b) (hb1 : Below w.heap.size w w1) :
    RefAt B0 (w5.setCell ⟨p, 1, none⟩ v5) p fv v5 F (B ++ [x]) ∧ Kpt (RS p bv) w (w5.setCell ⟨p, 1, none⟩ v5) ∧ (∀ k, v5.ownBlock = some k → bv.ownBlock = some k ∨ w.heap.size ≤ k) := by
  obtain ⟨n1, n2, n3, n4⟩ := h1.ne
  have k5 : Kpt (RS p bv) w1 w5 := .of_grown hg (fun k hk => .inr hk)
  have k6 : Kpt (RS p bv) w1 (w5.setCell ⟨p, 1, none⟩ v5) := k5.trans (.set (a := ⟨p, 1, none⟩) (.inl rfl) _)
  have hb6 := h1.byt k6
  have hown : ∀ k, v5.ownBlock = some k → k ≠ p ∧ (bv.ownBlock = some k ∨ w.heap.size ≤ k) := fun k hk => by
    rcases hat with e | ⟨b, e, hb⟩
    · rw [e] at hk; exact ⟨(n2 k hk).1, .inl hk⟩
    · rw [e] at hk
      injection hk with hk
      have := hb1.size
      exact ⟨by omega, .inr (by omega)⟩
  have hp5 : w5.heap[p]? = some (.cells #[fv, bv] 66 (0, 0)) := (hg.block p n4 (fun e => (n2 p e.symm).1 rfl)).trans h1.hp
  refine ⟨⟨blk_put hp5 1 _ (by simp), Ro77.moved h1.f hb6 (fun k e => k6.block k (n1 k e).2.1 ?_), ?_, h1.lo⟩, (Kpt.of_below hb1).trans k6, fun k hk => (hown k hk).2⟩
  · rintro (h | h)
    · exact (n1 k e).1 h
    · obtain ⟨c1, e1⟩ := (n1 k e).2.2
      obtain ⟨_, _, _, c2, e2⟩ := n2 k h
      rw [e1] at e2; injection e2 with e2; injection e2 with _ e2; revert e2; decide
  · exact OwnRow.moved hr5 (fun k hk => Below.heap_setCell _ _ _ _ (hown k hk).1) (fun _ _ => E83.byt hb6)
set_option maxHeartbeats 4000000 in
set_option maxRecDepth 100000 in
theorem refdo_put (B0 p : Nat) (fv bv : Value) (F : List S77) (B : List S83) (s : S55) (v : Value) (w : World) (h : RefAt B0 w p fv bv F B) (hv : DatV B0 w v s.f3) (hBl : B.length < 1000000) (hk : s.f0 = 1 ∨ s.f0 = 2 ∨ s.f0 = 3) (hno : putOk s.f1 = true) :
    Calls Try.prog 32 #[.pointer (some ⟨p, 0, none⟩), .agg #[.int .i64 s.f0, .int .i64 s.f1, .int .i64 s.f2, v]] w (RefPost B0 p bv (stepF F B s) (stepB B s) w) := by
  obtain ⟨A, c, rfl, hc, hC⟩ := hv.len
  have hno' : 1 ≤ s.f1 ∧ s.f1 ≤ 4294967296 := by unfold putOk at hno; simpa using hno
  have e1 : decide (1 ≤ s.f1) = true := decide_eq_true hno'.1
  have e2 : decide (s.f1 ≤ 4294967296) = true := decide_eq_true hno'.2
  have y0 : w.cell? ⟨p, 1, none⟩ = some bv := blk_cell h.hp 1
  have HA := Aside0.mk h
  have HV := Aside0.mk hv
  clear h hv hC
  obtain ⟨kd, hkd⟩ : ∃ q, s.f0 = q := ⟨_, rfl⟩
  have HKD := Aside0.mk hkd
  rw [hkd] at hk ⊢
  clear hkd
  rcases hk with rfl | rfl | rfl
  · have hb : stepB B s = B ++ [⟨1, s.f1, []⟩] := by unfold stepB bufPut; rw [HKD.out, hno]; simp
    have hf : stepF F B s = F := by unfold stepF; rw [HKD.out]; simp
    rw [hf, hb]
    clear hf hb
    go_enter Try.func32, Try.ntmps32
    go_upto_region 5 with fail
    have hb0 : Below w.heap.size w (w.alloc (Obj.cells #[.int .i64 1, .int .i64 s.f1, .int .i64 s.f2, .slice A s.f3.length c] 55)) := below_alloc (Below.refl _ _) _
    obtain ⟨W1, hW1⟩ : ∃ W1, (w.alloc (Obj.cells #[.int .i64 1, .int .i64 s.f1, .int .i64 s.f2, .slice A s.f3.length c] 55)).alloc (Obj.cells #[.int .i64 1, .int .i64 s.f1, .slice none 0 0] 83) = W1 := ⟨_, rfl⟩
    have hb1 : Below w.heap.size w W1 := hW1 ▸ below_alloc hb0 _
    have hx : W1.heap[w.heap.size + 1]? = some (.cells #[.int .i64 1, .int .i64 s.f1, .slice none 0 0] 83 (0, 0)) := by
      have := heap_alloc_new (w.alloc (Obj.cells #[.int .i64 1, .int .i64 s.f1, .int .i64 s.f2, .slice A s.f3.length c] 55)) (Obj.cells #[.int .i64 1, .int .i64 s.f1, .slice none 0 0] 83)
      rw [World.size_alloc, hW1] at this; exact this
    have hbx : W1.heap[w.heap.size]? = some (.cells #[.int .i64 1, .int .i64 s.f1, .int .i64 s.f2, .slice A s.f3.length c] 55 (0, 0)) := by
      rw [← hW1]; exact ((below_alloc (Below.refl _ _) _).block w.heap.size (by rw [World.size_alloc]; exact Nat.lt_succ_self _)).trans (heap_alloc_new w _)
    rw [hW1]
    clear hW1
    have HB1 := Aside0.mk hb1
    have b0 : W1.cell? ⟨w.heap.size, 0, none⟩ = some (.int .i64 1) := blk_cell hbx 0
    have x0 : W1.cell? ⟨w.heap.size + 1, 0, none⟩ = some (.int .i64 1) := blk_cell hx 0
    have x1 : W1.cell? ⟨w.heap.size + 1, 1, none⟩ = some (.int .i64 s.f1) := blk_cell hx 1
    have x2 : W1.cell? ⟨w.heap.size + 1, 2, none⟩ = some (.slice none 0 0) := blk_cell hx 2
    have HBX := Aside0.mk hbx
    have HA1 := Aside0.mk (HA.out.below hb1)
    have z0 : W1.cell? ⟨p, 1, none⟩ = some bv := pw_cell_below hb1 y0
    have z1 := pw_cell_below (below_alloc (Below.refl _ W1) (Obj.cells #[.int .i64 1, .int .i64 s.f1, .slice none 0 0] 83)) z0
    have HD := Aside0.mk (show DatV B0 W1.drew (.slice none 0 0) ([]) from DatV.nil _ _)
    have HBD : Aside0 (Below w.heap.size w W1.drew) := ⟨below_drew hb1⟩
    have HB0 : Aside0 (B0 ≤ W1.drew.heap.size) := ⟨Nat.le_trans HA1.out.lo (Nat.le_of_lt HA1.out.ne.2.2.2)⟩
    have HBL : Aside0 (w.heap.size < W1.drew.heap.size) := ⟨blk_lt hbx⟩
    clear hx hbx hb1 hb0
    go_region_law (first
      | (refine OwnRow.append_step (R := E83 B0 W1.drew) (w0 := W1.drew) B0 (by simp [Region.wanted]) (.tmp 41) (.tmp 43) 58 83 _ 3 40 rfl Try.underlying58 info83 (by decide) (by decide) (by decide) bv B ⟨1, s.f1, []⟩ [.int .i64 1, .int .i64 s.f1, .slice none 0 0] (by first | rfl | (simp [Act.eval, Act.put]; done)) (by first | rfl | (simp [Act.eval, Act.put]; done)) ⟨_, rfl, HD.out⟩ rfl (by simp [Value.oneCell']) (Ro83.below HA1.out.row (below_drew (Below.refl _ _))) (Below.refl _ _) HB0.out (by omega) ?_; intro v5 w5 hr5 hb5 hg5 hat5; obtain ⟨A5, c5, hv5, hc5⟩ := OwnRow.slice_ hr5; obtain ⟨n5, hn5⟩ : ∃ n5, (B ++ [(⟨1, s.f1, []⟩ : S83)]).length = n5 := ⟨_, rfl⟩; rw [hn5] at hv5; clear hn5 hc5; subst hv5; have HE := Aside0.mk (ref_put_end (HA1.out.below (below_drew (Below.refl _ _))) hr5 hg5 hat5 HBD.out); have hp5 := (hg5.block p HA1.out.ne.2.2.2 (fun e => (HA1.out.ne.2.1 p e.symm).1 rfl)).trans HA1.out.hp; have y5 := blk_cell hp5 1; have f5 := blk_frozen hp5 1; have b5 := (World.cell?_setCell_far w5 ⟨p, 1, none⟩ ⟨w.heap.size, 0, none⟩ (.slice A5 n5 c5) (by have := HA.out.ne.2.2.2; simp; omega)).trans (blk_cell ((hg5.block w.heap.size HBL.out (fun e => by have := (HA.out.ne.2.1 _ e.symm).2.1; omega)).trans HBX.out) 0); clear hr5 hb5 hg5 hat5 hp5)
      | fail)
    all_goals
      go_wp2_with fail
      go_end0
      exact ⟨_, _, rfl, HE.out.1, HE.out.2.1, HE.out.2.2⟩
  · have hb : stepB B s = B ++ [⟨2, s.f1, s.f3⟩] := by unfold stepB bufPut; rw [HKD.out, hno]; simp
    have hf : stepF F B s = F := by unfold stepF; rw [HKD.out]; simp
    rw [hf, hb]
    clear hf hb
    go_enter Try.func32, Try.ntmps32
    go_upto_region 5 with fail
    have hb0 : Below w.heap.size w (w.alloc (Obj.cells #[.int .i64 2, .int .i64 s.f1, .int .i64 s.f2, .slice A s.f3.length c] 55)) := below_alloc (Below.refl _ _) _
    obtain ⟨W1, hW1⟩ : ∃ W1, (w.alloc (Obj.cells #[.int .i64 2, .int .i64 s.f1, .int .i64 s.f2, .slice A s.f3.length c] 55)).alloc (Obj.cells #[.int .i64 2, .int .i64 s.f1, .slice A s.f3.length c] 83) = W1 := ⟨_, rfl⟩
    have hb1 : Below w.heap.size w W1 := hW1 ▸ below_alloc hb0 _
    have hx : W1.heap[w.heap.size + 1]? = some (.cells #[.int .i64 2, .int .i64 s.f1, .slice A s.f3.length c] 83 (0, 0)) := by
      have := heap_alloc_new (w.alloc (Obj.cells #[.int .i64 2, .int .i64 s.f1, .int .i64 s.f2, .slice A s.f3.length c] 55)) (Obj.cells #[.int .i64 2, .int .i64 s.f1, .slice A s.f3.length c] 83)
      rw [World.size_alloc, hW1] at this; exact this
    have hbx : W1.heap[w.heap.size]? = some (.cells #[.int .i64 2, .int .i64 s.f1, .int .i64 s.f2, .slice A s.f3.length c] 55 (0, 0)) := by
      rw [← hW1]; exact ((below_alloc (Below.refl _ _) _).block w.heap.size (by rw [World.size_alloc]; exact Nat.lt_succ_self _)).trans (heap_alloc_new w _)
    rw [hW1]
    clear hW1
    have HB1 := Aside0.mk hb1
    have b0 : W1.cell? ⟨w.heap.size, 0, none⟩ = some (.int .i64 2) := blk_cell hbx 0
    have x0 : W1.cell? ⟨w.heap.size + 1, 0, none⟩ = some (.int .i64 2) := blk_cell hx 0
    have x1 : W1.cell? ⟨w.heap.size + 1, 1, none⟩ = some (.int .i64 s.f1) := blk_cell hx 1
    have x2 : W1.cell? ⟨w.heap.size + 1, 2, none⟩ = some (.slice A s.f3.length c) := blk_cell hx 2
    have HBX := Aside0.mk hbx
    have HA1 := Aside0.mk (HA.out.below hb1)
    have z0 : W1.cell? ⟨p, 1, none⟩ = some bv := pw_cell_below hb1 y0
    have z1 := pw_cell_below (below_alloc (Below.refl _ W1) (Obj.cells #[.int .i64 2, .int .i64 s.f1, .slice A s.f3.length c] 83)) z0
    have HD := Aside0.mk (show DatV B0 W1.drew (.slice A s.f3.length c) s.f3 from HV.out.byt (.of_below (B0 := B0) (below_drew hb1)))
    have HBD : Aside0 (Below w.heap.size w W1.drew) := ⟨below_drew hb1⟩
    have HB0 : Aside0 (B0 ≤ W1.drew.heap.size) := ⟨Nat.le_trans HA1.out.lo (Nat.le_of_lt HA1.out.ne.2.2.2)⟩
    have HBL : Aside0 (w.heap.size < W1.drew.heap.size) := ⟨blk_lt hbx⟩
    clear hx hbx hb1 hb0
    go_region_law (first
      | (refine OwnRow.append_step (R := E83 B0 W1.drew) (w0 := W1.drew) B0 (by simp [Region.wanted]) (.tmp 41) (.tmp 43) 58 83 _ 3 40 rfl Try.underlying58 info83 (by decide) (by decide) (by decide) bv B ⟨2, s.f1, s.f3⟩ [.int .i64 2, .int .i64 s.f1, .slice A s.f3.length c] (by first | rfl | (simp [Act.eval, Act.put]; done)) (by first | rfl | (simp [Act.eval, Act.put]; done)) ⟨_, rfl, HD.out⟩ rfl (by simp [Value.oneCell']) (Ro83.below HA1.out.row (below_drew (Below.refl _ _))) (Below.refl _ _) HB0.out (by omega) ?_; intro v5 w5 hr5 hb5 hg5 hat5; obtain ⟨A5, c5, hv5, hc5⟩ := OwnRow.slice_ hr5; obtain ⟨n5, hn5⟩ : ∃ n5, (B ++ [(⟨2, s.f1, s.f3⟩ : S83)]).length = n5 := ⟨_, rfl⟩; rw [hn5] at hv5; clear hn5 hc5; subst hv5; have HE := Aside0.mk (ref_put_end (HA1.out.below (below_drew (Below.refl _ _))) hr5 hg5 hat5 HBD.out); have hp5 := (hg5.block p HA1.out.ne.2.2.2 (fun e => (HA1.out.ne.2.1 p e.symm).1 rfl)).trans HA1.out.hp; have y5 := blk_cell hp5 1; have f5 := blk_frozen hp5 1; have b5 := (World.cell?_setCell_far w5 ⟨p, 1, none⟩ ⟨w.heap.size, 0, none⟩ (.slice A5 n5 c5) (by have := HA.out.ne.2.2.2; simp; omega)).trans (blk_cell ((hg5.block w.heap.size HBL.out (fun e => by have := (HA.out.ne.2.1 _ e.symm).2.1; omega)).trans HBX.out) 0); clear hr5 hb5 hg5 hat5 hp5)
      | fail)
    all_goals
      go_wp2_with fail
      go_end0
      exact ⟨_, _, rfl, HE.out.1, HE.out.2.1, HE.out.2.2⟩
  · have hb : stepB B s = B ++ [⟨3, s.f1, []⟩] := by unfold stepB bufPut; rw [HKD.out, hno]; simp
    have hf : stepF F B s = F := by unfold stepF; rw [HKD.out]; simp
    rw [hf, hb]
    clear hf hb
    go_enter Try.func32, Try.ntmps32
    go_upto_region 5 with fail
    have hb0 : Below w.heap.size w (w.alloc (Obj.cells #[.int .i64 3, .int .i64 s.f1, .int .i64 s.f2, .slice A s.f3.length c] 55)) := below_alloc (Below.refl _ _) _
    obtain ⟨W1, hW1⟩ : ∃ W1, (w.alloc (Obj.cells #[.int .i64 3, .int .i64 s.f1, .int .i64 s.f2, .slice A s.f3.length c] 55)).alloc (Obj.cells #[.int .i64 3, .int .i64 s.f1, .slice none 0 0] 83) = W1 := ⟨_, rfl⟩
    have hb1 : Below w.heap.size w W1 := hW1 ▸ below_alloc hb0 _
    have hx : W1.heap[w.heap.size + 1]? = some (.cells #[.int .i64 3, .int .i64 s.f1, .slice none 0 0] 83 (0, 0)) := by
      have := heap_alloc_new (w.alloc (Obj.cells #[.int .i64 3, .int .i64 s.f1, .int .i64 s.f2, .slice A s.f3.length c] 55)) (Obj.cells #[.int .i64 3, .int .i64 s.f1, .slice none 0 0] 83)
      rw [World.size_alloc, hW1] at this; exact this
    have hbx : W1.heap[w.heap.size]? = some (.cells #[.int .i64 3, .int .i64 s.f1, .int .i64 s.f2, .slice A s.f3.length c] 55 (0, 0)) := by
      rw [← hW1]; exact ((below_alloc (Below.refl _ _) _).block w.heap.size (by rw [World.size_alloc]; exact Nat.lt_succ_self _)).trans (heap_alloc_new w _)
    rw [hW1]
    clear hW1
    have HB1 := Aside0.mk hb1
    have b0 : W1.cell? ⟨w.heap.size, 0, none⟩ = some (.int .i64 3) := blk_cell hbx 0
    have x0 : W1.cell? ⟨w.heap.size + 1, 0, none⟩ = some (.int .i64 3) := blk_cell hx 0
    have x1 : W1.cell? ⟨w.heap.size + 1, 1, none⟩ = some (.int .i64 s.f1) := blk_cell hx 1
    have x2 : W1.cell? ⟨w.heap.size + 1, 2, none⟩ = some (.slice none 0 0) := blk_cell hx 2
    have HBX := Aside0.mk hbx
    have HA1 := Aside0.mk (HA.out.below hb1)
    have z0 : W1.cell? ⟨p, 1, none⟩ = some bv := pw_cell_below hb1 y0
    have z1 := pw_cell_below (below_alloc (Below.refl _ W1) (Obj.cells #[.int .i64 3, .int .i64 s.f1, .slice none 0 0] 83)) z0
    have HD := Aside0.mk (show DatV B0 W1.drew (.slice none 0 0) ([]) from DatV.nil _ _)
    have HBD : Aside0 (Below w.heap.size w W1.drew) := ⟨below_drew hb1⟩
    have HB0 : Aside0 (B0 ≤ W1.drew.heap.size) := ⟨Nat.le_trans HA1.out.lo (Nat.le_of_lt HA1.out.ne.2.2.2)⟩
    have HBL : Aside0 (w.heap.size < W1.drew.heap.size) := ⟨blk_lt hbx⟩
    clear hx hbx hb1 hb0
    go_region_law (first
      | (refine OwnRow.append_step (R := E83 B0 W1.drew) (w0 := W1.drew) B0 (by simp [Region.wanted]) (.tmp 41) (.tmp 43) 58 83 _ 3 40 rfl Try.underlying58 info83 (by decide) (by decide) (by decide) bv B ⟨3, s.f1, []⟩ [.int .i64 3, .int .i64 s.f1, .slice none 0 0] (by first | rfl | (simp [Act.eval, Act.put]; done)) (by first | rfl | (simp [Act.eval, Act.put]; done)) ⟨_, rfl, HD.out⟩ rfl (by simp [Value.oneCell']) (Ro83.below HA1.out.row (below_drew (Below.refl _ _))) (Below.refl _ _) HB0.out (by omega) ?_; intro v5 w5 hr5 hb5 hg5 hat5; obtain ⟨A5, c5, hv5, hc5⟩ := OwnRow.slice_ hr5; obtain ⟨n5, hn5⟩ : ∃ n5, (B ++ [(⟨3, s.f1, []⟩ : S83)]).length = n5 := ⟨_, rfl⟩; rw [hn5] at hv5; clear hn5 hc5; subst hv5; have HE := Aside0.mk (ref_put_end (HA1.out.below (below_drew (Below.refl _ _))) hr5 hg5 hat5 HBD.out); have hp5 := (hg5.block p HA1.out.ne.2.2.2 (fun e => (HA1.out.ne.2.1 p e.symm).1 rfl)).trans HA1.out.hp; have y5 := blk_cell hp5 1; have f5 := blk_frozen hp5 1; have b5 := (World.cell?_setCell_far w5 ⟨p, 1, none⟩ ⟨w.heap.size, 0, none⟩ (.slice A5 n5 c5) (by have := HA.out.ne.2.2.2; simp; omega)).trans (blk_cell ((hg5.block w.heap.size HBL.out (fun e => by have := (HA.out.ne.2.1 _ e.symm).2.1; omega)).trans HBX.out) 0); clear hr5 hb5 hg5 hat5 hp5)
      | fail)
    all_goals
      go_wp2_with fail
      go_end0
      exact ⟨_, _, rfl, HE.out.1, HE.out.2.1, HE.out.2.2⟩
end Go.Proofs.Ytncmkcggkgahnaa.PDsk
