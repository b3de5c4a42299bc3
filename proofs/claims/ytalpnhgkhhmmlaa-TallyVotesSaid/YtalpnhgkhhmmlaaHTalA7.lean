-- By the session: contracts proved by hand.
import Derived.Test.YtalpnhgkhhmmlaaHTalA6
import Derived.Test.YtalpnhgkhhmmlaaPTalx10
import Derived.Deep.RegionWith
import Derived.Deep.RegionHeld3
import Derived.Deep.DeepCutAuto
import Derived.Deep.CutBlock
import Derived.Deep.LoopGhost
import Derived.RegionTactic
import Derived.ChangeAlike
import Derived.StillTailTactics
import Derived.Shelf.SlMaps.DeleteFunc
import Derived.Shelf.Abstract
import Derived.Maps.Own
import Derived.Maps.OwnOps
import Derived.Maps.OwnSet
import Derived.Maps.Views
import Derived.Lib.Hide
import Derived.Laws.BitsAllLaws
namespace Go.Proofs.Ytalpnhgkhhmmlaa.PTal
open Go.Maps
open Go.RowKit Go.Shelf Go.Proofs.YtalpnhgkhhmmlaaW.PrintWords Go.Proofs.YtalpnhgkhhmmlaaW.PrintLast Go.Proofs.YtalpnhgkhhmmlaaW.PrintMore
set_option linter.unusedVariables false
set_option linter.unusedSimpArgs false
/-! the law TallyCommon: function 6 -/
theorem Kpt.cell {S : Nat → Prop} {a b : World} (h : Kpt S a b) {p : Addr} {v : Value} (hc : a.cell? p = some v) (hn : ¬ S p.block) : b.cell? p = some v :=
  (World.cell?_of_block (h.block p.block (World.block_lt_of_cell? a p hc) hn)).trans hc
set_option maxHeartbeats 4000000 in
set_option maxRecDepth 100000 in
theorem common_large (A0 : Option Addr) (c0 : Nat) (l : List Int) (A1 : Option Addr) (c1 : Nat) (x1 : List Int) (A2 : Option Addr) (c2 : Nat) (x2 : List Int) (m : Int) (w : World) (h : l.length > 60 ∨ x1.length > 60 ∨ x2.length > 60) :
    Calls Try.prog 6 #[.slice A0 l.length c0, .agg #[.slice A1 x1.length c1, .slice A2 x2.length c2], .int .i64 m] w fun e w' => e = .returned (.bool true) ∧ Below w.heap.size w w' := by
  have HA := Aside0.mk (fun W => awake34 W)
  by_cases h0 : l.length > 60
  · have g0 : (60 : Int) < (l.length : Int) := by omega
    clear h
    go_enter Try.func6, Try.ntmps6
    go_wp2_with fail
    refine (HA.out _).mono ?_
    rintro e w1 ⟨rfl, hb⟩
    have HB := Aside0.mk (below_then (below_alloc (Below.refl w.heap.size w) (Obj.cells #[.slice A1 x1.length c1, .slice A2 x2.length c2] 44)) (by simp) hb)
    clear hb
    go_wp2
    go_ret
    exact ⟨rfl, HB.out⟩
  have g0 : ¬ ((60 : Int) < (l.length : Int)) := by omega
  by_cases h1 : x1.length > 60
  · have g1 : (60 : Int) < (x1.length : Int) := by omega
    clear h
    go_enter Try.func6, Try.ntmps6
    go_wp2_with fail
    refine (HA.out _).mono ?_
    rintro e w1 ⟨rfl, hb⟩
    have HB := Aside0.mk (below_then (below_alloc (Below.refl w.heap.size w) (Obj.cells #[.slice A1 x1.length c1, .slice A2 x2.length c2] 44)) (by simp) hb)
    clear hb
    go_wp2
    go_ret
    exact ⟨rfl, HB.out⟩
  have g1 : ¬ ((60 : Int) < (x1.length : Int)) := by omega
  have g2 : (60 : Int) < (x2.length : Int) := by omega
  clear h
  go_enter Try.func6, Try.ntmps6
  go_wp2_with fail
  refine (HA.out _).mono ?_
  rintro e w1 ⟨rfl, hb⟩
  have HB := Aside0.mk (below_then (below_alloc (Below.refl w.heap.size w) (Obj.cells #[.slice A1 x1.length c1, .slice A2 x2.length c2] 44)) (by simp) hb)
  clear hb
  go_wp2
  go_ret
  exact ⟨rfl, HB.out⟩
theorem two_news {w W0 W1 W2 : World} {K : World → Prop} (hK : ∀ {a b : World}, Below a.heap.size a b → K a → K b) {p bm p' bm' : Nat} {r0 r1 s0 s1 : Int} (hz : W0.heap.size = w.heap.size + 3) (h0 : Below w.heap.size w W0) (hk : K W0)
    (hB1 : Below W0.drew.heap.size W0.drew W1) (hT1 : TallyAt W1 p bm 0 r0 r1 0 (.map [])) (hl1 : W0.drew.heap.size ≤ p ∧ W0.drew.heap.size ≤ bm ∧ p < W1.heap.size ∧ bm < W1.heap.size)
    (hB2 : Below W1.heap.size W1 W2) (hT2 : TallyAt W2 p' bm' 0 s0 s1 0 (.map [])) (hl2 : W1.heap.size ≤ p' ∧ W1.heap.size ≤ bm' ∧ p' < W2.heap.size ∧ bm' < W2.heap.size) :
    TallyAt W2 p bm 0 r0 r1 0 (.map []) ∧ TallyAt W2 p' bm' 0 s0 s1 0 (.map []) ∧ (w.heap.size + 3 ≤ p ∧ w.heap.size + 3 ≤ bm ∧ w.heap.size + 3 ≤ p' ∧ w.heap.size + 3 ≤ bm' ∧ p ≠ bm' ∧ bm ≠ p' ∧ bm ≠ bm' ∧ p ≠ p') ∧ Below w.heap.size w W2 ∧ K W2 := by
  have hz' : W0.drew.heap.size = w.heap.size + 3 := hz
  have hs1 := hB1.size
  have hd : Below W0.heap.size W0 W0.drew := below_drew (Below.refl _ _)
  refine ⟨hT1.below hB2, hT2, ⟨by omega, by omega, by omega, by omega, by omega, by omega, by omega, by omega⟩, ?_, hK hB2 (hK hB1 (hK hd hk))⟩
  exact below_then (below_then (below_drew h0) (by omega) hB1) (by omega) hB2
def Box3 (A1 : Option Addr) (n1 c1 : Nat) (A2 : Option Addr) (n2 c2 : Nat) (b : Nat) (W : World) : Prop := W.heap[b]? = some (.cells #[.slice A1 n1 c1, .slice A2 n2 c2] 44 (0, 0)) ∧ W.heap[b + 1]? = some (.cells #[.int .i64 1, .int .i64 1] 46 (0, 0)) ∧ W.heap[b + 1 + 1]? = some (.cells #[.int .i64 2, .int .i64 2] 46 (0, 0))
theorem Box3.below {A1 A2 : Option Addr} {n1 c1 n2 c2 b : Nat} {W W' : World} (hb : Below W.heap.size W W') (h : Box3 A1 n1 c1 A2 n2 c2 b W) : Box3 A1 n1 c1 A2 n2 c2 b W' :=
  ⟨(hb.block _ (blk_lt h.1)).trans h.1, (hb.block _ (blk_lt h.2.1)).trans h.2.1, (hb.block _ (blk_lt h.2.2)).trans h.2.2⟩
theorem Box3.kept {A1 A2 : Option Addr} {n1 c1 n2 c2 b : Nat} {S : Nat → Prop} {W W' : World} (hk : Kpt S W W') (hS : ∀ k, S k → b + 3 ≤ k) (h : Box3 A1 n1 c1 A2 n2 c2 b W) : Box3 A1 n1 c1 A2 n2 c2 b W' :=
  ⟨hk.blk h.1 (fun hs => by have := hS _ hs; omega), hk.blk h.2.1 (fun hs => by have := hS _ hs; omega), hk.blk h.2.2 (fun hs => by have := hS _ hs; omega)⟩
/-- the votes at 5 behind some nodes -/
def votesAt (xs : List Int) : Nat := xs.foldl (fun c x => if 1 ≤ x ∧ x ≤ 9 then c ||| 2 ^ x.toNat else c) 0
def at5 (c : Nat) : Int → Nat := upd (fun _ => 0) 5 c
theorem at5_zero : (fun _ => 0) = at5 (votesAt []) := by funext j; simp [at5, upd, votesAt]
theorem votesAt_snoc (xs : List Int) (x : Int) : votesAt (xs ++ [x]) = if 1 ≤ x ∧ x ≤ 9 then votesAt xs ||| 2 ^ x.toNat else votesAt xs := by simp [votesAt, List.foldl_append]
theorem or_set {c n : Nat} (h : c / 2 ^ n % 2 = 1) : c ||| 2 ^ n = c := by
  apply Nat.eq_of_testBit_eq
  intro j
  rw [Nat.testBit_or, Nat.testBit_two_pow]
  by_cases e : n = j
  · subst e
    rw [Nat.testBit_eq_decide_div_mod_eq, h]; simp
  · simp [e]
theorem vote5 (r : Int) (c : Nat) (x : Int) : (if cnt r r 0 (at5 c) r r 5 x = true then upd (at5 c) 5 (at5 c 5 ||| 2 ^ x.toNat) else at5 c) = at5 (if 1 ≤ x ∧ x ≤ 9 then c ||| 2 ^ x.toNat else c) := by
  have h5 : at5 c 5 = c := by simp [at5, upd]
  have hupd : ∀ d, upd (at5 c) 5 d = at5 d := fun d => by funext j; unfold at5 upd; by_cases e : j = 5 <;> simp [e]
  by_cases hx : 1 ≤ x ∧ x ≤ 9
  · rw [if_pos hx]
    by_cases hb : c / 2 ^ x.toNat % 2 = 1
    · rw [or_set hb]
      have : cnt r r 0 (at5 c) r r 5 x = false := by simp [cnt, h5, hb]
      rw [this]; simp
    · have : cnt r r 0 (at5 c) r r 5 x = true := by simp [cnt, h5, hb]; omega
      rw [this, if_pos rfl, h5, hupd]
  · rw [if_neg hx]
    have : cnt r r 0 (at5 c) r r 5 x = false := by simp [cnt]; omega
    rw [this]; simp
def ComAt (N1 N2 l : List Int) (k : Nat) (b : Bool) : Prop := b = true ↔ ∃ j : Nat, j < k ∧ (rd N1 j ∈ N2 ∧ rd N1 j ∈ l)
theorem ComAt.start (N1 N2 l : List Int) : ComAt N1 N2 l 0 false := ⟨fun h => (by cases h), fun ⟨j, hj, _⟩ => absurd hj (Nat.not_lt_zero _)⟩
theorem ComAt.keep {N1 N2 l : List Int} {k : Nat} (h : ComAt N1 N2 l k true) : ComAt N1 N2 l (k + 1) true := ⟨fun _ => (by obtain ⟨j, h1, h2⟩ := h.1 rfl; exact ⟨j, by omega, h2⟩), fun _ => rfl⟩
theorem ComAt.hit {N1 N2 l : List Int} {k : Nat} (h1 : rd N1 k ∈ N2) (h2 : rd N1 k ∈ l) : ComAt N1 N2 l (k + 1) true := ⟨fun _ => ⟨k, by omega, h1, h2⟩, fun _ => rfl⟩
theorem ComAt.miss {N1 N2 l : List Int} {k : Nat} (h : ComAt N1 N2 l k false) (hn : ¬ (rd N1 k ∈ N2 ∧ rd N1 k ∈ l)) : ComAt N1 N2 l (k + 1) false := ⟨fun h => (by cases h), fun ⟨j, hj, h2⟩ => (by
  rcases Nat.lt_or_ge j k with h3 | h3
  · have := h.2 ⟨j, h3, h2⟩; cases this
  · obtain rfl : j = k := by omega
    exact absurd h2 hn)⟩
theorem ComAt.won {N1 N2 l : List Int} {b : Bool} (h : ComAt N1 N2 l N1.length b) (w1 : majOf l N1 = true) (w2 : majOf l N2 = true) : b = true := by
  obtain ⟨x, hx, h1, h2⟩ := maj_common l N1 N2 w1 w2
  obtain ⟨j, hj, e⟩ := (mem_rd N1 x).1 h1
  exact h.2 ⟨j, hj, by rw [e]; exact ⟨h2, hx⟩⟩
theorem at5_5 (c : Nat) : at5 c 5 = c := by simp [at5, upd]
theorem mem_nodesOf (c m : Nat) (y : Int) : y ∈ nodesOf c m ↔ ∃ k : Nat, k < m ∧ c / 2 ^ k % 2 = 1 ∧ y = (k : Int) := by
  unfold nodesOf
  simp only [List.mem_map, List.mem_filter, List.mem_range, decide_eq_true_eq]
  constructor
  · rintro ⟨k, ⟨h1, h2⟩, rfl⟩; exact ⟨k, h1, h2, rfl⟩
  · rintro ⟨k, h1, h2, rfl⟩; exact ⟨k, ⟨h1, h2⟩, rfl⟩
theorem nodes_or (c d m : Nat) (y : Int) (h : y ∈ nodesOf c m) : y ∈ nodesOf (c ||| d) m := by
  obtain ⟨k, h1, h2, rfl⟩ := (mem_nodesOf c m y).1 h
  refine (mem_nodesOf _ m _).2 ⟨k, h1, ?_, rfl⟩
  have e1 : c.testBit k = true := by rw [Nat.testBit_eq_decide_div_mod_eq, h2]; simp
  have e2 : (c ||| d).testBit k = true := by rw [Nat.testBit_or, e1]; simp
  rw [Nat.testBit_eq_decide_div_mod_eq] at e2
  simpa using e2
theorem votesAt_more (c : Nat) (m : Int) : ∀ y, y ∈ nodesOf c 10 → y ∈ nodesOf (if 1 ≤ m ∧ m ≤ 9 then c ||| 2 ^ m.toNat else c) 10 := by
  intro y hy
  by_cases h : 1 ≤ m ∧ m ≤ 9
  · rw [if_pos h]; exact nodes_or _ _ _ _ hy
  · rw [if_neg h]; exact hy
theorem maj_mono (l a b : List Int) (h : ∀ y, y ∈ a → y ∈ b) (hm : majOf l a = true) : majOf l b = true := by
  have : (onceOf l).countP (fun x => decide (x ∈ a)) ≤ (onceOf l).countP (fun x => decide (x ∈ b)) := List.countP_mono_left (fun x _ hx => by simpa using h x (by simpa using hx))
  simp only [majOf, decide_eq_true_eq] at hm ⊢
  omega
theorem votes_lt (D : DataW Unit) (c : Nat) (h : VRep D (at5 c)) : c < 1024 ∧ D.atKey (.int .i64 5) (.lit (.int .u64 0)) = .lit (.int .u64 (c : Int)) := by
  have h1 := h.lt 5
  have h2 := h.look 5
  rw [at5_5] at h1 h2
  exact ⟨h1, h2⟩
theorem bool_dec (n k : Nat) (P : Nat → Prop) (b c : Bool) (hb : b = true ↔ ∃ j, j < k ∧ P j) (hc : c = true ↔ P k) : (b || c) = true ↔ ∃ j, j < k + 1 ∧ P j := by
  rw [Bool.or_eq_true, hb, hc]
  constructor
  · rintro (⟨j, h1, h2⟩ | h)
    · exact ⟨j, by omega, h2⟩
    · exact ⟨k, by omega, h⟩
  · rintro ⟨j, h1, h2⟩
    rcases Nat.lt_or_ge j k with h | h
    · exact .inl ⟨j, h, h2⟩
    · obtain rfl : j = k := by omega
      exact .inr h2
set_option maxHeartbeats 2000000 in
set_option maxRecDepth 100000 in
theorem common_main (A0 : Option Addr) (c0 : Nat) (l : List Int) (A1 : Option Addr) (c1 : Nat) (x1 : List Int) (A2 : Option Addr) (c2 : Nat) (x2 : List Int) (m : Int) (w : World) (h0 : ¬ l.length > 60) (h1 : ¬ x1.length > 60) (h2 : ¬ x2.length > 60)
    (hr0 : Kd.C (Kd.int .i64) w A0 l.length l) (hc0 : l.length ≤ c0) (hr1 : Kd.C (Kd.int .i64) w A1 x1.length x1) (hr2 : Kd.C (Kd.int .i64) w A2 x2.length x2) :
    Calls Try.prog 6 #[.slice A0 l.length c0, .agg #[.slice A1 x1.length c1, .slice A2 x2.length c2], .int .i64 m] w fun e w' => e = .returned (.bool true) ∧ Below w.heap.size w w' := by
  have g0 : ¬ ((60 : Int) < (l.length : Int)) := by omega
  have g1 : ¬ ((60 : Int) < (x1.length : Int)) := by omega
  have g2 : ¬ ((60 : Int) < (x2.length : Int)) := by omega
  have HR0 := Aside0.mk hr0
  have HR1 := Aside0.mk hr1
  have HR2 := Aside0.mk hr2
  clear hr0 hr1 hr2
  go_enter Try.func6, Try.ntmps6
  go_upto_region 4 with fail
  go_cut [9, 10] (fun s9 s10 wx => ∃ p1 bm1 p2 bm2 : Nat, s9 = .pointer (some ⟨p1, 0, none⟩) ∧ s10 = .pointer (some ⟨p2, 0, none⟩) ∧ Aside0 (TallyAt wx p1 bm1 0 1 1 0 (.map [])) ∧ Aside0 (TallyAt wx p2 bm2 0 2 2 0 (.map [])) ∧ Aside0 (w.heap.size + 3 ≤ p1 ∧ w.heap.size + 3 ≤ bm1 ∧ w.heap.size + 3 ≤ p2 ∧ w.heap.size + 3 ≤ bm2 ∧ p1 ≠ bm2 ∧ bm1 ≠ p2 ∧ bm1 ≠ bm2 ∧ p1 ≠ p2) ∧ Aside0 (Below w.heap.size w wx) ∧ Aside0 (Box3 A1 x1.length c1 A2 x2.length c2 w.heap.size wx))
  case first =>
    obtain ⟨W0, hW0⟩ : ∃ W0, (((w.alloc (Obj.cells #[Value.slice A1 x1.length c1, Value.slice A2 x2.length c2] 44)).alloc (Obj.cells #[Value.int IntKind.i64 1, Value.int IntKind.i64 1] 46)).alloc (Obj.cells #[Value.int IntKind.i64 2, Value.int IntKind.i64 2] 46)) = W0 := ⟨_, rfl⟩
    rw [hW0]
    have hsz0 : W0.heap.size = w.heap.size + 3 := by rw [← hW0]; simp
    have hB0 : Below w.heap.size w W0 := by rw [← hW0]; exact below_alloc (below_alloc (below_alloc (Below.refl _ _) _) _) _
    have hk0 : W0.heap[w.heap.size]? = some (.cells #[.slice A1 x1.length c1, .slice A2 x2.length c2] 44 (0, 0)) := by
      rw [← hW0]
      exact (Below.heap_alloc _ _ _ (by simp; omega)).trans ((Below.heap_alloc _ _ _ (by simp)).trans (heap_alloc_new w _))
    have hk1 : W0.heap[w.heap.size + 1]? = some (.cells #[.int .i64 1, .int .i64 1] 46 (0, 0)) := by
      rw [← hW0]
      exact (Below.heap_alloc _ _ _ (by simp)).trans (by have := heap_alloc_new (w.alloc (Obj.cells #[Value.slice A1 x1.length c1, Value.slice A2 x2.length c2] 44)) (Obj.cells #[Value.int IntKind.i64 1, Value.int IntKind.i64 1] 46); rwa [World.size_alloc] at this)
    have hk2 : W0.heap[w.heap.size + 1 + 1]? = some (.cells #[.int .i64 2, .int .i64 2] 46 (0, 0)) := by
      rw [← hW0]
      have := heap_alloc_new ((w.alloc (Obj.cells #[Value.slice A1 x1.length c1, Value.slice A2 x2.length c2] 44)).alloc (Obj.cells #[Value.int IntKind.i64 1, Value.int IntKind.i64 1] 46)) (Obj.cells #[Value.int IntKind.i64 2, Value.int IntKind.i64 2] 46)
      rwa [World.size_alloc, World.size_alloc] at this
    have y0 : W0.cell? ⟨w.heap.size + 1, 0, none⟩ = some (.int .i64 1) := blk_cell hk1 0
    have y1 : W0.cell? ⟨w.heap.size + 1, 1, none⟩ = some (.int .i64 1) := blk_cell hk1 1
    have y2 : W0.cell? ⟨w.heap.size + 1 + 1, 0, none⟩ = some (.int .i64 2) := blk_cell hk2 0
    have y3 : W0.cell? ⟨w.heap.size + 1 + 1, 1, none⟩ = some (.int .i64 2) := blk_cell hk2 1
    have HK0 : Aside0 (Box3 A1 x1.length c1 A2 x2.length c2 w.heap.size W0) := ⟨⟨hk0, hk1, hk2⟩⟩
    have HB0 := Aside0.mk hB0
    have HZ0 := Aside0.mk hsz0
    clear hk0 hk1 hk2 hB0 hsz0 hW0
    go_region_held3 (fun w' => w'.cell? ⟨w.heap.size + 1, 0, none⟩ = some (.int .i64 1) ∧ w'.cell? ⟨w.heap.size + 1, 1, none⟩ = some (.int .i64 1) ∧ w'.cell? ⟨w.heap.size + 1 + 1, 0, none⟩ = some (.int .i64 2) ∧ w'.cell? ⟨w.heap.size + 1 + 1, 1, none⟩ = some (.int .i64 2)) (first | exact ⟨y0, y1, y2, y3⟩ | exact ⟨by assumption, by assumption, by assumption, by assumption⟩)
      (first
        | (go_at_call_of 23 (Value.agg #[.int .i64 1, .int .i64 1]); refine (new_any 1 1 _).mono ?_; rintro e W1 ⟨p1, bm1, rfl, hT1, hp1, hb1, hp2, hb2, hB1⟩; have q0 : W1.cell? ⟨w.heap.size + 1, 0, none⟩ = some (.int .i64 1) := pw_cell_below hB1 (by first | assumption | exact y0); have q1 : W1.cell? ⟨w.heap.size + 1, 1, none⟩ = some (.int .i64 1) := pw_cell_below hB1 (by first | assumption | exact y1); have q2 : W1.cell? ⟨w.heap.size + 1 + 1, 0, none⟩ = some (.int .i64 2) := pw_cell_below hB1 (by first | assumption | exact y2); have q3 : W1.cell? ⟨w.heap.size + 1 + 1, 1, none⟩ = some (.int .i64 2) := pw_cell_below hB1 (by first | assumption | exact y3); have HT1 := Aside0.mk hT1; have HL1 := Aside0.mk (And.intro hp1 (And.intro hb1 (And.intro hp2 hb2))); have HB1 := Aside0.mk hB1; clear hT1 hp1 hb1 hp2 hb2 hB1)
        | (go_at_call_of 23 (Value.agg #[.int .i64 2, .int .i64 2]); refine (new_any 2 2 _).mono ?_; rintro e W2 ⟨p2, bm2, rfl, hT2, hp3, hb3, hp4, hb4, hB2⟩; have q0 : W2.cell? ⟨w.heap.size + 1, 0, none⟩ = some (.int .i64 1) := pw_cell_below hB2 (by first | assumption | exact y0); have q1 : W2.cell? ⟨w.heap.size + 1, 1, none⟩ = some (.int .i64 1) := pw_cell_below hB2 (by first | assumption | exact y1); have q2 : W2.cell? ⟨w.heap.size + 1 + 1, 0, none⟩ = some (.int .i64 2) := pw_cell_below hB2 (by first | assumption | exact y2); have q3 : W2.cell? ⟨w.heap.size + 1 + 1, 1, none⟩ = some (.int .i64 2) := pw_cell_below hB2 (by first | assumption | exact y3); have HT2 := Aside0.mk hT2; have HL2 := Aside0.mk (And.intro hp3 (And.intro hb3 (And.intro hp4 hb4))); have HB2 := Aside0.mk hB2; clear hT2 hp3 hb3 hp4 hb4 hB2))
    · go_wp2_with fail
      go_meet
      have h := two_news (K := Box3 A1 x1.length c1 A2 x2.length c2 w.heap.size) (fun hb hk => hk.below hb) HZ0.out HB0.out HK0.out HB1.out HT1.out HL1.out HB2.out HT2.out HL2.out
      exact ⟨p1, bm1, p2, bm2, rfl, rfl, ⟨h.1⟩, ⟨h.2.1⟩, ⟨h.2.2.1⟩, ⟨h.2.2.2.1⟩, ⟨h.2.2.2.2⟩⟩
  case rest =>
    obtain ⟨p1, bm1, p2, bm2, rfl, rfl, HT1, HT2, HN, HB, HK⟩ := hcut
    go_wp2_with fail
    go_loopw [11] (fun i wr => ∃ k : Nat, k ≤ x1.length ∧ i = .int .i64 k ∧ ∃ D, Aside0 (TallyAt wr p1 bm1 k 1 1 0 D) ∧ Aside0 (VRep D (at5 (votesAt (x1.take k)))) ∧ Aside0 (TallyAt wr p2 bm2 0 2 2 0 (.map [])) ∧ Aside0 (Below w.heap.size w wr) ∧ Aside0 (Box3 A1 x1.length c1 A2 x2.length c2 w.heap.size wr)) (fun i _ => x1.length - (intOf i).toNat)
    case atStart => exact ⟨0, Nat.zero_le _, rfl, _, HT1, ⟨at5_zero ▸ VRep.empty⟩, HT2, HB, HK⟩
    case round =>
      clear HT1 HT2 HB HK
      obtain ⟨k, hk, rfl, D1, HT1, HV1, HT2, HB, HK⟩ := hrel
      have hx0 : wr.cell? ⟨w.heap.size, 0, none⟩ = some (.slice A1 x1.length c1) := blk_cell HK.out.1 0
      have hy0 : wr.cell? ⟨w.heap.size + 1, 0, none⟩ = some (.int .i64 1) := blk_cell HK.out.2.1 0
      have hy1 : wr.cell? ⟨w.heap.size + 1, 1, none⟩ = some (.int .i64 1) := blk_cell HK.out.2.1 1
      by_cases hlt : k < x1.length
      · obtain ⟨ad0, e0, hcell0⟩ := Kd.at_int HR1.out (k : Int) (by omega) (by omega)
        have adlt0 : ad0.block < w.heap.size := by have := World.block_lt_of_cell? w _ hcell0; rwa [add_block] at this
        obtain ⟨ad, rfl, hcell⟩ := Kd.at_int (Kd.C_below HR1.out HB.out) (k : Int) (by omega) (by omega)
        have adlt : ad.block < w.heap.size := by injection e0 with e0; rw [e0]; exact adlt0
        clear e0 hcell0 adlt0
        have hcell' : wr.cell? (ad.add k) = some (.int .i64 (rd x1 k)) := by simpa using hcell
        have q1 : (0 : Int) ≤ (k : Int) := by omega
        have q2 : (k : Int) < (x1.length : Int) := by omega
        have HS := Aside0.mk (take_snocI x1 k hlt)
        have hk6 : k < 1000000 := by omega
        have nb0 : ¬ w.heap.size = bm1 := by have := HN.out; omega
        have nb1 : ¬ w.heap.size + 1 = bm1 := by have := HN.out; omega
        have nb2 : ¬ (ad.add k).block = bm1 := by have h1 := HN.out; have h2 := adlt; rw [add_block]; omega
        clear hcell
        go_wp2_with fail
        go_region_held3 (fun w' => w'.cell? ⟨w.heap.size, 0, none⟩ = some (.slice (some ad) x1.length c1) ∧ w'.cell? ⟨w.heap.size + 1, 0, none⟩ = some (.int .i64 1) ∧ w'.cell? ⟨w.heap.size + 1, 1, none⟩ = some (.int .i64 1) ∧ w'.cell? (ad.add k) = some (.int .i64 (rd x1 k))) (first | exact ⟨hx0, hy0, hy1, hcell'⟩ | exact ⟨hkp.cell hx0 nb0, hkp.cell hy0 nb1, hkp.cell hy1 nb1, hkp.cell hcell' nb2⟩)
          (first | (go_at_call 24; (with_reducible refine (vote_any p1 bm1 k 1 1 0 1 1 5 (rd x1 k) D1 (at5 (votesAt (x1.take k))) _ (HT1.out.below (below_drew (Below.refl _ _))) HV1.out hk6).mono ?_); rintro e W2 ⟨D', rfl, hT, hV, hkp⟩))
        clear hx0 hy0 hy1 hcell'
        go_wp2
        go_roundw
        case rel => exact ⟨k + 1, by omega, by go_num, D', ⟨hT⟩, ⟨by rw [HS.out, votesAt_snoc, ← vote5 1]; exact hV⟩, ⟨HT2.out.kept ((Kpt.drewN _ _ 1).trans hkp) (by have := HN.out; omega) (by have := HN.out; omega)⟩, ⟨hkp.below (pw_below_drewN HB.out 1) HB.out.size (fun k hk => by subst hk; have := HN.out; omega)⟩, ⟨HK.out.kept ((Kpt.drewN _ _ 1).trans hkp) (fun k hk => by subst hk; have := HN.out; omega)⟩⟩
        case measure => simp [intOf]; omega
      · obtain rfl : k = x1.length := by omega
        go_wp2_with fail
        clear hx0 hy0 hy1
        rw [List.take_length] at HV1
        go_loopw [12] (fun i wr => ∃ k : Nat, k ≤ x2.length ∧ i = .int .i64 k ∧ ∃ D, Aside0 (TallyAt wr p2 bm2 k 2 2 0 D) ∧ Aside0 (VRep D (at5 (votesAt (x2.take k)))) ∧ Aside0 (TallyAt wr p1 bm1 x1.length 1 1 0 D1) ∧ Aside0 (Below w.heap.size w wr) ∧ Aside0 (Box3 A1 x1.length c1 A2 x2.length c2 w.heap.size wr)) (fun i _ => x2.length - (intOf i).toNat)
        case atStart => exact ⟨0, Nat.zero_le _, rfl, _, HT2, ⟨at5_zero ▸ VRep.empty⟩, HT1, HB, HK⟩
        case round =>
          clear HT1 HT2 HB HK
          obtain ⟨k, hk, rfl, D, HT2, HV2, HT1, HB, HK⟩ := hrel
          have hx0 : wr.cell? ⟨w.heap.size, 1, none⟩ = some (.slice A2 x2.length c2) := blk_cell HK.out.1 1
          have hy0 : wr.cell? ⟨w.heap.size + 1 + 1, 0, none⟩ = some (.int .i64 2) := blk_cell HK.out.2.2 0
          have hy1 : wr.cell? ⟨w.heap.size + 1 + 1, 1, none⟩ = some (.int .i64 2) := blk_cell HK.out.2.2 1
          by_cases hlt : k < x2.length
          · obtain ⟨ad0, e0, hcell0⟩ := Kd.at_int HR2.out (k : Int) (by omega) (by omega)
            have adlt0 : ad0.block < w.heap.size := by have := World.block_lt_of_cell? w _ hcell0; rwa [add_block] at this
            obtain ⟨ad, rfl, hcell⟩ := Kd.at_int (Kd.C_below HR2.out HB.out) (k : Int) (by omega) (by omega)
            have adlt : ad.block < w.heap.size := by injection e0 with e0; rw [e0]; exact adlt0
            clear e0 hcell0 adlt0
            have hcell' : wr.cell? (ad.add k) = some (.int .i64 (rd x2 k)) := by simpa using hcell
            have q1 : (0 : Int) ≤ (k : Int) := by omega
            have q2 : (k : Int) < (x2.length : Int) := by omega
            have HS := Aside0.mk (take_snocI x2 k hlt)
            have hk6 : k < 1000000 := by omega
            have nb0 : ¬ w.heap.size = bm2 := by have := HN.out; omega
            have nb1 : ¬ w.heap.size + 1 + 1 = bm2 := by have := HN.out; omega
            have nb2 : ¬ (ad.add k).block = bm2 := by have h1 := HN.out; have h2 := adlt; rw [add_block]; omega
            clear hcell
            go_wp2_with fail
            go_region_held3 (fun w' => w'.cell? ⟨w.heap.size, 1, none⟩ = some (.slice (some ad) x2.length c2) ∧ w'.cell? ⟨w.heap.size + 1 + 1, 0, none⟩ = some (.int .i64 2) ∧ w'.cell? ⟨w.heap.size + 1 + 1, 1, none⟩ = some (.int .i64 2) ∧ w'.cell? (ad.add k) = some (.int .i64 (rd x2 k))) (first | exact ⟨hx0, hy0, hy1, hcell'⟩ | exact ⟨hkp.cell hx0 nb0, hkp.cell hy0 nb1, hkp.cell hy1 nb1, hkp.cell hcell' nb2⟩)
              (first | (go_at_call 24; (with_reducible refine (vote_any p2 bm2 k 2 2 0 2 2 5 (rd x2 k) D (at5 (votesAt (x2.take k))) _ (HT2.out.below (below_drew (Below.refl _ _))) HV2.out hk6).mono ?_); rintro e W2 ⟨D', rfl, hT, hV, hkp⟩))
            clear hx0 hy0 hy1 hcell'
            go_wp2
            go_roundw
            case rel => exact ⟨k + 1, by omega, by go_num, D', ⟨hT⟩, ⟨by rw [HS.out, votesAt_snoc, ← vote5 2]; exact hV⟩, ⟨HT1.out.kept ((Kpt.drewN _ _ 1).trans hkp) (by have := HN.out; omega) (by have := HN.out; omega)⟩, ⟨hkp.below (pw_below_drewN HB.out 1) HB.out.size (fun k hk => by subst hk; have := HN.out; omega)⟩, ⟨HK.out.kept ((Kpt.drewN _ _ 1).trans hkp) (fun k hk => by subst hk; have := HN.out; omega)⟩⟩
            case measure => simp [intOf]; omega
          · obtain rfl : k = x2.length := by omega
            go_wp2_with fail
            clear hx0 hy0 hy1
            rw [List.take_length] at HV2
            obtain ⟨C1, hC1⟩ : ∃ C1, votesAt x1 = C1 := ⟨_, rfl⟩
            obtain ⟨C2, hC2⟩ : ∃ C2, votesAt x2 = C2 := ⟨_, rfl⟩
            rw [hC1] at HV1
            rw [hC2] at HV2
            clear hC1 hC2
            have lt1 := (votes_lt D1 C1 HV1.out).1
            have lt2 := (votes_lt D C2 HV2.out).1
            have HA1 := Aside0.mk (votes_lt D1 C1 HV1.out).2
            have HA2 := Aside0.mk (votes_lt D C2 HV2.out).2
            have wf5 : (Lit.int .i64 5).wf = true := WalkArith.wf_i64 (by omega)
            obtain ⟨N1, hN1⟩ : ∃ N1, nodesOf C1 10 = N1 := ⟨_, rfl⟩
            obtain ⟨N2, hN2⟩ : ∃ N2, nodesOf C2 10 = N2 := ⟨_, rfl⟩
            have HN1 := Aside0.mk hN1
            have HN2 := Aside0.mk hN2
            have hl1 : N1.length ≤ 10 := by rw [← hN1]; exact nodesOf_len C1 10
            have hl2 : N2.length ≤ 10 := by rw [← hN2]; exact nodesOf_len C2 10
            clear hN1 hN2
            refine (won_any p1 bm1 _ 1 1 0 5 D1 _ HT1.out wf5 C1 lt1 HA1.out A0 l c0 (Kd.C_below HR0.out HB.out) hc0 (by omega)).mono ?_
            rintro e wa ⟨rfl, hba⟩
            rw [HN1.out]
            have HT1a := Aside0.mk (HT1.out.below hba)
            have HT2a := Aside0.mk (HT2.out.below hba)
            have HKa := Aside0.mk (HK.out.below hba)
            have HBa := Aside0.mk (below_then HB.out HB.out.size hba)
            clear hba HT1 HT2 HK HB
            go_wp2_with fail
            have cN := nodes_any p1 bm1 _ 1 1 0 5 D1 wa HT1a.out wf5 C1 lt1 HA1.out
            rw [HN1.out] at cN
            refine cN.mono ?_
            clear cN
            rintro e wb ⟨v, rfl, hrow, hbb⟩
            obtain ⟨An, cn, rfl, hcn, hCn⟩ := nodes_C hrow
            have HCn := Aside0.mk hCn
            have HT1b := Aside0.mk (HT1a.out.below hbb)
            have HT2b := Aside0.mk (HT2a.out.below hbb)
            have HKb := Aside0.mk (HKa.out.below hbb)
            have HBb := Aside0.mk (below_then HBa.out HBa.out.size hbb)
            clear hbb hrow hCn HT1a HT2a HKa HBa
            go_wp2_with fail
            go_loopw [14, 16] (fun s i wr => ∃ (k : Nat) (b : Bool), k ≤ N1.length ∧ i = .int .i64 k ∧ s = .bool b ∧ Aside0 (ComAt N1 N2 l k b) ∧ Aside0 (Below wb.heap.size wb wr)) (fun _ i _ => N1.length - (intOf i).toNat)
            case atStart => exact ⟨0, false, Nat.zero_le _, rfl, rfl, ⟨ComAt.start N1 N2 l⟩, ⟨Below.refl _ _⟩⟩
            case round =>
              obtain ⟨k, b, hk, rfl, rfl, HJ, HBr⟩ := hrel
              by_cases hlt : k < N1.length
              · have q1 : (0 : Int) ≤ (k : Int) := by omega
                have q2 : (k : Int) < (N1.length : Int) := by omega
                cases b with
                | true =>
                  go_wp2_with fail
                  go_quiet (fail)
                  go_wp2
                  go_roundw
                  case rel => exact ⟨k + 1, true, by omega, by go_num, rfl, ⟨HJ.out.keep⟩, ⟨pw_below_drewN HBr.out _⟩⟩
                  case measure => simp [intOf]; omega
                | false =>
                  obtain ⟨ad, e1, hcell⟩ := Kd.at_int (Kd.C_below HCn.out HBr.out) (k : Int) (by omega) (by omega)
                  subst e1
                  have hcell' : wr.cell? (ad.add k) = some (.int .i64 (rd N1 k)) := by simpa using hcell
                  clear hcell
                  obtain ⟨X, hX⟩ : ∃ X, rd N1 k = X := ⟨_, rfl⟩
                  rw [hX] at hcell'
                  have HX := Aside0.mk hX
                  clear hX
                  have HT2r := Aside0.mk (HT2b.out.below HBr.out)
                  have HBr2 := Aside0.mk (below_then HBb.out HBb.out.size HBr.out)
                  have cN2 := fun (W : World) (hT : TallyAt W p2 bm2 x2.length 2 2 0 D) => nodes_any p2 bm2 _ 2 2 0 5 D W hT wf5 C2 lt2 HA2.out
                  rw [HN2.out] at cN2
                  have HN2C := Aside0.mk cN2
                  clear cN2
                  obtain ⟨k1, hk1⟩ := (in_ev N2 X (by omega)).rounds
                  obtain ⟨k2, hk2⟩ := (in_ev l X (by omega)).rounds
                  have HI1 := Aside0.mk hk1
                  have HI2 := Aside0.mk hk2
                  clear hk1 hk2
                  by_cases hi1 : X ∈ N2
                  · rw [decide_eq_true hi1] at HI1
                    by_cases hi2 : X ∈ l
                    · rw [decide_eq_true hi2] at HI2
                      go_wp2_with fail
                      go_region_held3 (fun w' => w'.cell? (ad.add k) = some (.int .i64 X)) (first | exact hcell' | exact z)
                        (first | (go_at_call 26; (with_reducible refine (HN2C.out _ (HT2r.out.below (below_drew (Below.refl _ _)))).mono ?_); rintro e wd ⟨v2, rfl, hrow2, hb2⟩; obtain ⟨Ad, cd, rfl, hcd, hCd⟩ := nodes_C hrow2; have z := pw_cell_below hb2 hcell'; have HCd := Aside0.mk hCd; have HBd := Aside0.mk hb2; clear hrow2 hCd hb2) | (go_at_call_of 21 (Value.slice A0 l.length c0); (with_reducible refine (changeoverref01_In.calls k2 A0 c0 l X true _ ?_ hc0 HI2.out).mono ?_); (focus (exact Kd.C_below (Kd.C_below HR0.out HBr2.out) (pw_below_drewN (below_then (below_drew (Below.refl _ _)) (Nat.le_refl _) HBd.out) _))); rintro e wf ⟨rfl, ⟨mf, rfl⟩⟩) | (go_at_call 21; (with_reducible refine (changeoverref01_In.calls k1 Ad cd N2 X true _ ?_ hcd HI1.out).mono ?_); (focus (exact HCd.out)); rintro e we ⟨rfl, ⟨me, rfl⟩⟩))
                      clear hcell' z
                      go_wp2
                      go_roundw
                      case rel => exact ⟨k + 1, true, by omega, by go_num, rfl, ⟨ComAt.hit (by rw [HX.out]; exact hi1) (by rw [HX.out]; exact hi2)⟩, ⟨pw_below_drewN (below_then (below_drew HBr.out) HBr.out.size HBd.out) _⟩⟩
                      case measure => simp [intOf]; omega
                    · rw [decide_eq_false hi2] at HI2
                      go_wp2_with fail
                      go_region_held3 (fun w' => w'.cell? (ad.add k) = some (.int .i64 X)) (first | exact hcell' | exact z)
                        (first | (go_at_call 26; (with_reducible refine (HN2C.out _ (HT2r.out.below (below_drew (Below.refl _ _)))).mono ?_); rintro e wd ⟨v2, rfl, hrow2, hb2⟩; obtain ⟨Ad, cd, rfl, hcd, hCd⟩ := nodes_C hrow2; have z := pw_cell_below hb2 hcell'; have HCd := Aside0.mk hCd; have HBd := Aside0.mk hb2; clear hrow2 hCd hb2) | (go_at_call_of 21 (Value.slice A0 l.length c0); (with_reducible refine (changeoverref01_In.calls k2 A0 c0 l X false _ ?_ hc0 HI2.out).mono ?_); (focus (exact Kd.C_below (Kd.C_below HR0.out HBr2.out) (pw_below_drewN (below_then (below_drew (Below.refl _ _)) (Nat.le_refl _) HBd.out) _))); rintro e wf ⟨rfl, ⟨mf, rfl⟩⟩) | (go_at_call 21; (with_reducible refine (changeoverref01_In.calls k1 Ad cd N2 X true _ ?_ hcd HI1.out).mono ?_); (focus (exact HCd.out)); rintro e we ⟨rfl, ⟨me, rfl⟩⟩))
                      clear hcell' z
                      go_wp2
                      go_roundw
                      case rel => exact ⟨k + 1, false, by omega, by go_num, rfl, ⟨HJ.out.miss (fun h => hi2 (by rw [← HX.out]; exact h.2))⟩, ⟨pw_below_drewN (below_then (below_drew HBr.out) HBr.out.size HBd.out) _⟩⟩
                      case measure => simp [intOf]; omega
                  · rw [decide_eq_false hi1] at HI1
                    go_wp2_with fail
                    first
                      | (go_region_with (first | (go_at_call 26; (with_reducible refine (HN2C.out _ (HT2r.out.below (below_drew (Below.refl _ _)))).mono ?_); rintro e wd ⟨v2, rfl, hrow2, hb2⟩; obtain ⟨Ad, cd, rfl, hcd, hCd⟩ := nodes_C hrow2; have z := pw_cell_below hb2 hcell'; have HCd := Aside0.mk hCd; have HBd := Aside0.mk hb2; clear hrow2 hCd hb2) | (go_at_call_of 21 (Value.slice Ad N2.length cd); (with_reducible refine (changeoverref01_In.calls k1 Ad cd N2 X false _ ?_ hcd HI1.out).mono ?_); (focus (exact HCd.out)); rintro e we ⟨rfl, ⟨me, rfl⟩⟩)))
                      | fail
                    all_goals
                      clear hcell' z
                      go_wp2
                      go_roundw
                      case rel => exact ⟨k + 1, false, by omega, by go_num, rfl, ⟨HJ.out.miss (fun h => hi1 (by rw [← HX.out]; exact h.1))⟩, ⟨pw_below_drewN (below_then (below_drew HBr.out) HBr.out.size HBd.out) _⟩⟩
                      case measure => simp [intOf]; omega
              · obtain rfl : k = N1.length := by omega
                have HBr2 := Aside0.mk (below_then HBb.out HBb.out.size HBr.out)
                have HT1r := Aside0.mk (HT1b.out.below HBr.out)
                have HT2r := Aside0.mk (HT2b.out.below HBr.out)
                have HKr := Aside0.mk (HKb.out.below HBr.out)
                clear HBr HT1b HT2b HKb HBb HCn
                have CM := Aside0.mk (votesAt_more C1 m)
                by_cases hw1 : majOf l N1 = true
                · rw [hw1]
                  have HW1 := Aside0.mk hw1
                  clear hw1
                  go_wp2_with fail
                  have cW := won_any p2 bm2 _ 2 2 0 5 D wr HT2r.out wf5 C2 lt2 HA2.out A0 l c0 (Kd.C_below HR0.out HBr2.out) hc0 (by omega)
                  rw [HN2.out] at cW
                  refine cW.mono ?_
                  clear cW
                  rintro e wg ⟨rfl, hbg⟩
                  have HT1g := Aside0.mk (HT1r.out.below hbg)
                  have HKg := Aside0.mk (HKr.out.below hbg)
                  have HBg := Aside0.mk (below_then HBr2.out HBr2.out.size hbg)
                  clear hbg
                  have z0 : wg.cell? ⟨w.heap.size + 1, 0, none⟩ = some (.int .i64 1) := blk_cell HKg.out.2.1 0
                  have z1 : wg.cell? ⟨w.heap.size + 1, 1, none⟩ = some (.int .i64 1) := blk_cell HKg.out.2.1 1
                  have hbw : majOf l N2 = true → b = true := fun h => HJ.out.won HW1.out h
                  have HBW := Aside0.mk hbw
                  clear hbw
                  cases hw2 : majOf l N2
                  all_goals
                    have hb2 : majOf l N2 = true → b = true := HBW.out
                    rw [hw2] at hb2
                    have HB2 := Aside0.mk hb2
                    clear hb2
                    try (obtain rfl : b = true := HB2.out rfl)
                    clear HB2
                    go_wp2_with fail
                    refine (vote_any p1 bm1 _ 1 1 0 1 1 5 m D1 (at5 C1) _ HT1g.out HV1.out (by omega)).mono ?_
                    rintro e wh ⟨D3, rfl, hT3, hV3, hk3⟩
                    rw [vote5] at hV3
                    have HT3 := Aside0.mk hT3
                    have HA3 := Aside0.mk (votes_lt D3 _ hV3).2
                    have lt3 := (votes_lt D3 _ hV3).1
                    have HB3 := Aside0.mk (hk3.below HBg.out HBg.out.size (fun k hk => by subst hk; have := HN.out; omega))
                    clear hT3 hV3 hk3 z0 z1
                    go_wp2_with fail
                    refine (won_any p1 bm1 _ 1 1 0 5 D3 _ HT3.out wf5 _ lt3 HA3.out A0 l c0 (Kd.C_below HR0.out HB3.out) hc0 (by omega)).mono ?_
                    rintro e wi ⟨rfl, hbi⟩
                    have HBi := Aside0.mk (below_then HB3.out HB3.out.size hbi)
                    have hw3 : majOf l (nodesOf (if 1 ≤ m ∧ m ≤ 9 then C1 ||| 2 ^ m.toNat else C1) 10) = true := maj_mono l N1 _ (by rw [← HN1.out]; exact CM.out) HW1.out
                    rw [hw3]
                    clear hbi hw3
                    go_wp2_with fail
                    refine (awake34 _).mono ?_
                    rintro e wj ⟨rfl, hbj⟩
                    have HBj := Aside0.mk (below_then HBi.out HBi.out.size hbj)
                    clear hbj
                    go_wp2
                    go_ret
                    exact ⟨rfl, HBj.out⟩
                · rw [Bool.eq_false_iff.mpr hw1]
                  clear hw1
                  have z0 : wr.cell? ⟨w.heap.size + 1, 0, none⟩ = some (.int .i64 1) := blk_cell HKr.out.2.1 0
                  have z1 : wr.cell? ⟨w.heap.size + 1, 1, none⟩ = some (.int .i64 1) := blk_cell HKr.out.2.1 1
                  go_wp2_with fail
                  refine (vote_any p1 bm1 _ 1 1 0 1 1 5 m D1 (at5 C1) _ HT1r.out HV1.out (by omega)).mono ?_
                  rintro e wh ⟨D3, rfl, hT3, hV3, hk3⟩
                  have HB3 := Aside0.mk (hk3.below HBr2.out HBr2.out.size (fun k hk => by subst hk; have := HN.out; omega))
                  clear hT3 hV3 hk3 z0 z1
                  go_wp2_with fail
                  refine (awake34 _).mono ?_
                  rintro e wj ⟨rfl, hbj⟩
                  have HBj := Aside0.mk (below_then HB3.out HB3.out.size hbj)
                  clear hbj
                  go_wp2
                  go_ret
                  exact ⟨rfl, HBj.out⟩
end Go.Proofs.Ytalpnhgkhhmmlaa.PTal
