-- By the session: contracts proved by hand.
import Derived.Test.YtalpnhgkhhmmlaaPTalx0
import Derived.Shelf.Abstract
import Derived.Maps.Own
import Derived.Maps.OwnOps
import Derived.Maps.OwnSet
import Derived.Maps.Views
import Derived.Lib.Hide
import Derived.Laws.BitsAllLaws
namespace Go.Proofs.Ytalpnhgkhhmmlaa.PTal
open Go.Maps
open Go.RowKit Go.Shelf Go.Proofs.YtalpnhgkhhmmlaaW.PrintWords Go.Proofs.YtalpnhgkhhmmlaaW.PrintLast Go.Proofs.YtalpnhgkhhmmlaaW.PrintMore
set_option linter.unusedVariables false
set_option linter.unusedSimpArgs false
/-! what a tally is in memory -/
/-- All but the blocks of S lie as they lay. -/
structure Kpt (S : Nat → Prop) (w w' : World) : Prop where
  os : w'.os = w.os
  tape : w'.tape = w.tape
  output : w'.output = w.output
  size : w.heap.size ≤ w'.heap.size
  block : ∀ k, k < w.heap.size → ¬ S k → w'.heap[k]? = w.heap[k]?
theorem Kpt.refl (S : Nat → Prop) (w : World) : Kpt S w w := ⟨rfl, rfl, rfl, Nat.le_refl _, fun _ _ _ => rfl⟩
theorem Kpt.trans {S : Nat → Prop} {a b c : World} (h : Kpt S a b) (k : Kpt S b c) : Kpt S a c :=
  ⟨k.os.trans h.os, k.tape.trans h.tape, k.output.trans h.output, Nat.le_trans h.size k.size, fun i hi hn => (k.block i (Nat.lt_of_lt_of_le hi h.size) hn).trans (h.block i hi hn)⟩
theorem Kpt.mono {S S' : Nat → Prop} {a b : World} (h : Kpt S a b) (hs : ∀ k, S k → S' k) : Kpt S' a b := ⟨h.os, h.tape, h.output, h.size, fun i hi hn => h.block i hi (fun hk => hn (hs i hk))⟩
theorem Kpt.of_below {S : Nat → Prop} {a b : World} (h : Below a.heap.size a b) : Kpt S a b := ⟨h.os, h.tape, h.output, h.size, fun i hi _ => h.block i hi⟩
theorem Kpt.of_grown {S : Nat → Prop} {a b : World} {row : Option Nat} (h : a.grownBy b row) (hr : ∀ k, row = some k → S k) : Kpt S a b := ⟨h.os, h.tape, h.output, h.size, fun i hi hn => h.block i hi (fun e => hn (hr i e.symm))⟩
theorem Kpt.alloc (S : Nat → Prop) (w : World) (o : Obj) : Kpt S w (w.alloc o) := .of_below (below_alloc (Below.refl _ _) o)
theorem Kpt.drewN (S : Nat → Prop) (w : World) (n : Nat) : Kpt S w (w.drewN n) := .of_below (pw_below_drewN (Below.refl _ _) n)
theorem Kpt.set {S : Nat → Prop} {w : World} {a : Addr} (h : S a.block) (u : Value) : Kpt S w (w.setCell a u) :=
  ⟨rfl, rfl, rfl, by simp [World.setCell], fun i hi hn => Below.heap_setCell w a u i (fun e => hn (e ▸ h))⟩
theorem Kpt.below {S : Nat → Prop} {B : Nat} {w0 a b : World} (h : Kpt S a b) (h0 : Below B w0 a) (hB : B ≤ a.heap.size) (hS : ∀ k, S k → B ≤ k) : Below B w0 b :=
  ⟨h.os.trans h0.os, h.tape.trans h0.tape, h.output.trans h0.output, Nat.le_trans h0.size h.size, fun k hk => (h.block k (Nat.lt_of_lt_of_le hk hB) (fun hs => by have := hS k hs; omega)).trans (h0.block k hk)⟩
theorem Kpt.blk {S : Nat → Prop} {a b : World} (h : Kpt S a b) {k : Nat} {o : Obj} (hk : a.heap[k]? = some o) (hn : ¬ S k) : b.heap[k]? = some o := (h.block k (blk_lt hk) hn).trans hk
theorem Kpt.owns {H : Type} {S : Nat → Prop} {a b : World} (h : Kpt S a b) {P : Program} {k : TypeId} {R : Value → Option (DataW H × List MemPlace)} {bm n : Nat} {D : DataW H} (ho : a.ownsMap P k R bm n D) (hn : ¬ S bm) : b.ownsMap P k R bm n D := by
  obtain ⟨es, c, h1, h2⟩ := ho
  exact ⟨es, c, h.blk h1 hn, h2⟩
noncomputable abbrev MapR : Value → Option (DataW Unit × List MemPlace) := plainElem Try.prog 73
structure TallyAt (w : World) (p bm n : Nat) (r0 r1 low : Int) (D : DataW Unit) : Prop where
  hp : w.heap[p]? = some (.cells #[.int .i64 r0, .int .i64 r1, .map (some bm), .int .i64 low] 72 (0, 0))
  hm : w.ownsMap Try.prog 3 MapR bm n D
theorem TallyAt.kept {S : Nat → Prop} {a b : World} {p bm n : Nat} {r0 r1 low : Int} {D : DataW Unit} (h : TallyAt a p bm n r0 r1 low D) (hk : Kpt S a b) (hp : ¬ S p) (hb : ¬ S bm) : TallyAt b p bm n r0 r1 low D := ⟨hk.blk h.hp hp, hk.owns h.hm hb⟩
theorem TallyAt.below {a b : World} {p bm n : Nat} {r0 r1 low : Int} {D : DataW Unit} (h : TallyAt a p bm n r0 r1 low D) (hk : Below a.heap.size a b) : TallyAt b p bm n r0 r1 low D := h.kept (S := fun _ => False) (.of_below hk) (fun h => h) (fun h => h)
theorem TallyAt.ne {w : World} {p bm n : Nat} {r0 r1 low : Int} {D : DataW Unit} (h : TallyAt w p bm n r0 r1 low D) : p ≠ bm := by
  rintro rfl
  obtain ⟨es, c, h1, _⟩ := h.hm
  rw [h.hp] at h1
  cases h1
theorem TallyAt.cells {w : World} {p bm n : Nat} {r0 r1 low : Int} {D : DataW Unit} (h : TallyAt w p bm n r0 r1 low D) :
    w.cell? ⟨p, 0, none⟩ = some (.int .i64 r0) ∧ w.cell? ⟨p, 1, none⟩ = some (.int .i64 r1) ∧ w.cell? ⟨p, 2, none⟩ = some (.map (some bm)) ∧ w.cell? ⟨p, 3, none⟩ = some (.int .i64 low) :=
  ⟨blk_cell h.hp 0, blk_cell h.hp 1, blk_cell h.hp 2, blk_cell h.hp 3⟩
theorem zero73 (w : World) : (zeroValue 73).run Try.prog w = .ok (.int .u64 0) w := by kernel_rfl
abbrev law3 : Keyed Try.prog 3 := int_keyed Try.underlying3
set_option maxHeartbeats 1000000 in
theorem new_any (r0 r1 : Int) (w : World) : Calls Try.prog 23 #[.agg #[.int .i64 r0, .int .i64 r1]] w fun e w' => ∃ p bm, e = .returned (.pointer (some ⟨p, 0, none⟩)) ∧ TallyAt w' p bm 0 r0 r1 0 (.map []) ∧ w.heap.size ≤ p ∧ w.heap.size ≤ bm ∧ p < w'.heap.size ∧ bm < w'.heap.size ∧ Below w.heap.size w w' := by
  have hmm := @run_makeMap Try.prog
  go_enter Try.func23, Try.ntmps23
  go_wp2
  go_ret
  refine ⟨w.heap.size + 1 + 1, w.heap.size + 1, rfl, ⟨?_, ?_⟩, by omega, by omega, by simp, by simp, below_alloc (below_alloc (below_alloc (Below.refl _ _) _) _) _⟩
  · have := heap_alloc_new ((w.alloc (Obj.cells #[Value.int IntKind.i64 r0, Value.int IntKind.i64 r1] 46)).alloc (Obj.map #[] 0)) (Obj.cells #[Value.int IntKind.i64 r0, Value.int IntKind.i64 r1, Value.map (some (w.heap.size + 1)), Value.int IntKind.i64 0] 72)
    simpa using this
  · have := World.ownsMap_made (w.alloc (Obj.cells #[Value.int IntKind.i64 r0, Value.int IntKind.i64 r1] 46)) Try.prog 3 MapR
    rw [World.size_alloc] at this
    exact this.alloc _
set_option maxHeartbeats 4000000 in
set_option maxRecDepth 100000 in
theorem vote_no1 (p bm n : Nat) (r0 r1 low b0 b1 i x : Int) (D : DataW Unit) (w : World) (h : TallyAt w p bm n r0 r1 low D) (h0 : b0 ≠ r0) :
    Calls Try.prog 24 #[.pointer (some ⟨p, 0, none⟩), .agg #[.int .i64 b0, .int .i64 b1], .int .i64 i, .int .i64 x] w fun e w' => e = .returned (.bool false) ∧ Below w.heap.size w w' := by
  obtain ⟨c0, c1, c2, c3⟩ := h.cells
  have hb : (b0 == r0) = false := by simpa using h0
  have hpl : p < w.heap.size := blk_lt h.hp
  go_enter Try.func24, Try.ntmps24
  go_wp2
  go_quiet (fail)
  go_wp2
  go_ret
  exact ⟨rfl, pw_below_drewN (below_alloc (Below.refl _ _) _) _⟩

set_option maxHeartbeats 4000000 in
set_option maxRecDepth 100000 in
theorem vote_no2 (p bm n : Nat) (r0 r1 low b0 b1 i x : Int) (D : DataW Unit) (w : World) (h : TallyAt w p bm n r0 r1 low D) (h0 : b1 ≠ r1) :
    Calls Try.prog 24 #[.pointer (some ⟨p, 0, none⟩), .agg #[.int .i64 r0, .int .i64 b1], .int .i64 i, .int .i64 x] w fun e w' => e = .returned (.bool false) ∧ Below w.heap.size w w' := by
  obtain ⟨c0, c1, c2, c3⟩ := h.cells
  have hb : (b1 == r1) = false := by simpa using h0
  have hpl : p < w.heap.size := blk_lt h.hp
  go_enter Try.func24, Try.ntmps24
  go_wp2
  go_quiet (fail)
  go_wp2
  go_ret
  exact ⟨rfl, pw_below_drewN (below_alloc (Below.refl _ _) _) _⟩

set_option maxHeartbeats 4000000 in
set_option maxRecDepth 100000 in
theorem vote_no3 (p bm n : Nat) (r0 r1 low i x : Int) (D : DataW Unit) (w : World) (h : TallyAt w p bm n r0 r1 low D) (hy : i < 1) :
    Calls Try.prog 24 #[.pointer (some ⟨p, 0, none⟩), .agg #[.int .i64 r0, .int .i64 r1], .int .i64 i, .int .i64 x] w fun e w' => e = .returned (.bool false) ∧ Below w.heap.size w w' := by
  obtain ⟨c0, c1, c2, c3⟩ := h.cells
  have gy : decide (i < 1) = true := decide_eq_true hy
  have hpl : p < w.heap.size := blk_lt h.hp
  go_enter Try.func24, Try.ntmps24
  go_wp2
  go_quiet (fail)
  go_wp2
  go_ret
  exact ⟨rfl, pw_below_drewN (below_alloc (Below.refl _ _) _) _⟩

set_option maxHeartbeats 4000000 in
set_option maxRecDepth 100000 in
theorem vote_no4 (p bm n : Nat) (r0 r1 low i x : Int) (D : DataW Unit) (w : World) (h : TallyAt w p bm n r0 r1 low D) (n0 : ¬ i < 1) (hy : i > 4294967296) :
    Calls Try.prog 24 #[.pointer (some ⟨p, 0, none⟩), .agg #[.int .i64 r0, .int .i64 r1], .int .i64 i, .int .i64 x] w fun e w' => e = .returned (.bool false) ∧ Below w.heap.size w w' := by
  obtain ⟨c0, c1, c2, c3⟩ := h.cells
  have g0 : decide (i < 1) = false := decide_eq_false n0
  have gy : decide (4294967296 < i) = true := decide_eq_true hy
  have hpl : p < w.heap.size := blk_lt h.hp
  go_enter Try.func24, Try.ntmps24
  go_wp2
  go_quiet (fail)
  go_wp2
  go_ret
  exact ⟨rfl, pw_below_drewN (below_alloc (Below.refl _ _) _) _⟩

set_option maxHeartbeats 4000000 in
set_option maxRecDepth 100000 in
theorem vote_no5 (p bm n : Nat) (r0 r1 low i x : Int) (D : DataW Unit) (w : World) (h : TallyAt w p bm n r0 r1 low D) (n0 : ¬ i < 1) (n1 : ¬ i > 4294967296) (hy : i ≤ low) :
    Calls Try.prog 24 #[.pointer (some ⟨p, 0, none⟩), .agg #[.int .i64 r0, .int .i64 r1], .int .i64 i, .int .i64 x] w fun e w' => e = .returned (.bool false) ∧ Below w.heap.size w w' := by
  obtain ⟨c0, c1, c2, c3⟩ := h.cells
  have g0 : decide (i < 1) = false := decide_eq_false n0
  have g1 : decide (4294967296 < i) = false := decide_eq_false n1
  have gy : decide (i ≤ low) = true := decide_eq_true hy
  have hpl : p < w.heap.size := blk_lt h.hp
  go_enter Try.func24, Try.ntmps24
  go_wp2
  go_quiet (fail)
  go_wp2
  go_ret
  exact ⟨rfl, pw_below_drewN (below_alloc (Below.refl _ _) _) _⟩

set_option maxHeartbeats 4000000 in
set_option maxRecDepth 100000 in
theorem vote_no6 (p bm n : Nat) (r0 r1 low i x : Int) (D : DataW Unit) (w : World) (h : TallyAt w p bm n r0 r1 low D) (n0 : ¬ i < 1) (n1 : ¬ i > 4294967296) (n2 : ¬ i ≤ low) (hy : x < 1) :
    Calls Try.prog 24 #[.pointer (some ⟨p, 0, none⟩), .agg #[.int .i64 r0, .int .i64 r1], .int .i64 i, .int .i64 x] w fun e w' => e = .returned (.bool false) ∧ Below w.heap.size w w' := by
  obtain ⟨c0, c1, c2, c3⟩ := h.cells
  have g0 : decide (i < 1) = false := decide_eq_false n0
  have g1 : decide (4294967296 < i) = false := decide_eq_false n1
  have g2 : decide (i ≤ low) = false := decide_eq_false n2
  have gy : decide (x < 1) = true := decide_eq_true hy
  have hpl : p < w.heap.size := blk_lt h.hp
  go_enter Try.func24, Try.ntmps24
  go_wp2
  go_quiet (fail)
  go_wp2
  go_ret
  exact ⟨rfl, pw_below_drewN (below_alloc (Below.refl _ _) _) _⟩

set_option maxHeartbeats 4000000 in
set_option maxRecDepth 100000 in
theorem vote_no7 (p bm n : Nat) (r0 r1 low i x : Int) (D : DataW Unit) (w : World) (h : TallyAt w p bm n r0 r1 low D) (n0 : ¬ i < 1) (n1 : ¬ i > 4294967296) (n2 : ¬ i ≤ low) (n3 : ¬ x < 1) (hy : x > 9) :
    Calls Try.prog 24 #[.pointer (some ⟨p, 0, none⟩), .agg #[.int .i64 r0, .int .i64 r1], .int .i64 i, .int .i64 x] w fun e w' => e = .returned (.bool false) ∧ Below w.heap.size w w' := by
  obtain ⟨c0, c1, c2, c3⟩ := h.cells
  have g0 : decide (i < 1) = false := decide_eq_false n0
  have g1 : decide (4294967296 < i) = false := decide_eq_false n1
  have g2 : decide (i ≤ low) = false := decide_eq_false n2
  have g3 : decide (x < 1) = false := decide_eq_false n3
  have gy : decide (9 < x) = true := decide_eq_true hy
  have hpl : p < w.heap.size := blk_lt h.hp
  go_enter Try.func24, Try.ntmps24
  go_wp2
  go_quiet (fail)
  go_wp2
  go_ret
  exact ⟨rfl, pw_below_drewN (below_alloc (Below.refl _ _) _) _⟩

set_option maxHeartbeats 4000000 in
set_option maxRecDepth 100000 in
theorem vote_nil (b0 b1 i x : Int) (w : World) :
    Calls Try.prog 24 #[.pointer none, .agg #[.int .i64 b0, .int .i64 b1], .int .i64 i, .int .i64 x] w fun e w' => e = .returned (.bool false) ∧ Below w.heap.size w w' := by
  go_enter Try.func24, Try.ntmps24
  go_wp2
  go_quiet (fail)
  go_wp2
  go_ret
  exact ⟨rfl, pw_below_drewN (below_alloc (Below.refl _ _) _) _⟩

end Go.Proofs.Ytalpnhgkhhmmlaa.PTal
