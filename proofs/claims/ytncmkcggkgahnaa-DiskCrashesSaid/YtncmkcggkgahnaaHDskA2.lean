-- By the session: contracts proved by hand.
import Derived.Test.YtncmkcggkgahnaaHDskA1
import Derived.Deep.RegionLaw
import Derived.Deep.RegionLawGrows
import Derived.Deep.RegionWith
import Derived.Deep.RegionHeld3
import Derived.Deep.RegionHeldLaw
import Derived.Deep.DeepCutAuto
import Derived.Deep.CutBlock
import Derived.Deep.LoopGhost
import Derived.RegionTactic
import Derived.ChangeAlike
import Derived.StillTailTactics
import Derived.Shelf.Abstract
import Derived.Maps.Own
import Derived.Maps.OwnOps
import Derived.Maps.OwnSet
import Derived.Maps.Views
import Derived.Lib.Hide
import Derived.Lib.SliceRun
import Derived.Laws.BitsAllLaws
namespace Go.Proofs.Ytncmkcggkgahnaa.PDsk
open Go.Maps
open Go.RowKit Go.Shelf Go.Proofs.YtncmkcggkgahnaaW.PrintWords Go.Proofs.YtncmkcggkgahnaaW.PrintLast Go.Proofs.YtncmkcggkgahnaaW.PrintMore
set_option linter.unusedVariables false
set_option linter.unusedSimpArgs false
/-! the disk: New, put, Make, Add, Drop -/
theorem info83 : (Try.prog.info? 83).map (fun i => (i.zero, i.size, i.bytes)) = some (some (.agg #[.int .i64 0, .int .i64 0, .slice none 0 0]), 3, 40) := by kernel_rfl
abbrev law3 : Keyed Try.prog 3 := int_keyed Try.underlying3
abbrev RV : Value → Option (DataW Value × List MemPlace) := fun v => some (.held v, [])
/-- A map of files: rising numbers, each with its bytes. -/
structure MapIs (B0 : Nat) (W : World) (D : DataW Value) (F : List S77) : Prop where
  isMap : IsMap D
  rise : F.Pairwise (fun a b => a.f0 < b.f0)
  has : ∀ i, Maps.has D (.int .i64 i) = true ↔ ∃ x, x ∈ F ∧ x.f0 = i
  look : ∀ x, x ∈ F → ∃ v, DatV B0 W v x.f1 ∧ ∀ z, D.atKey (.int .i64 x.f0) z = .held v
theorem MapIs.byt {B0 : Nat} {W W' : World} (hb : Byt B0 W W') {D : DataW Value} {F : List S77} (h : MapIs B0 W D F) : MapIs B0 W' D F :=
  ⟨h.isMap, h.rise, h.has, fun x hx => by obtain ⟨v, h1, h2⟩ := h.look x hx; exact ⟨v, h1.byt hb, h2⟩⟩
theorem MapIs.empty (B0 : Nat) (W : World) : MapIs B0 W (.map []) [] := ⟨⟨[], rfl⟩, List.Pairwise.nil, fun i => ⟨fun h => by simp [Maps.has] at h, fun ⟨_, h, _⟩ => by simp at h⟩, fun x hx => by simp at hx⟩
def putF (F : List S77) (i : Int) (xs : List Int) : List S77 := F.filter (fun x => decide (x.f0 < i)) ++ (⟨i, xs⟩ :: F.filter (fun x => decide (i < x.f0)))
def delF (F : List S77) (i : Int) : List S77 := F.filter (fun x => decide (x.f0 ≠ i))
theorem isKey3 (i : Int) : WideAt.IsKeyLit (.int .i64 i) := by simp [WideAt.IsKeyLit]
theorem MapIs.put {B0 : Nat} {W : World} {D : DataW Value} {F : List S77} (h : MapIs B0 W D F) (i : Int) {v : Value} {xs : List Int} (hv : DatV B0 W v xs) : MapIs B0 W (D.put (.int .i64 i) (.held v)) (putF F i xs) := by
  have hmem : ∀ x, x ∈ putF F i xs ↔ (x = ⟨i, xs⟩ ∨ (x ∈ F ∧ x.f0 ≠ i)) := fun x => by
    unfold putF
    rw [List.mem_append, List.mem_cons, List.mem_filter, List.mem_filter]
    simp only [decide_eq_true_eq]
    constructor
    · rintro (⟨h1, h2⟩ | h1 | ⟨h1, h2⟩)
      · exact .inr ⟨h1, by omega⟩
      · exact .inl h1
      · exact .inr ⟨h1, by omega⟩
    · rintro (h1 | ⟨h1, h2⟩)
      · exact .inr (.inl h1)
      · rcases Int.lt_or_lt_of_ne h2 with h3 | h3
        · exact .inl ⟨h1, h3⟩
        · exact .inr (.inr ⟨h1, h3⟩)
  refine ⟨h.isMap.put _ _, ?_, fun j => ?_, fun x hx => ?_⟩
  · unfold putF
    refine List.pairwise_append.2 ⟨h.rise.filter _, List.pairwise_cons.2 ⟨fun y hy => ?_, h.rise.filter _⟩, fun a ha b hb => ?_⟩
    · simpa using (List.mem_filter.1 hy).2
    · have h1 : a.f0 < i := by simpa using (List.mem_filter.1 ha).2
      rcases List.mem_cons.1 hb with rfl | hb
      · exact h1
      · have h2 : i < b.f0 := by simpa using (List.mem_filter.1 hb).2
        omega
  · by_cases e : j = i
    · subst e
      rw [has_put_same h.isMap (isKey3 j)]
      exact ⟨fun _ => ⟨⟨j, xs⟩, (hmem _).2 (.inl rfl), rfl⟩, fun _ => rfl⟩
    · rw [has_put_other (by simpa using e), h.has]
      constructor
      · rintro ⟨x, h1, h2⟩; exact ⟨x, (hmem _).2 (.inr ⟨h1, by omega⟩), h2⟩
      · rintro ⟨x, h1, h2⟩
        rcases (hmem _).1 h1 with rfl | ⟨h3, _⟩
        · exact absurd h2.symm e
        · exact ⟨x, h3, h2⟩
  · rcases (hmem _).1 hx with rfl | ⟨h1, h2⟩
    · exact ⟨v, hv, fun z => atKey_put_same h.isMap (isKey3 i) _ _⟩
    · obtain ⟨u, h3, h4⟩ := h.look x h1
      exact ⟨u, h3, fun z => by rw [atKey_put_other (by simpa using h2)]; exact h4 z⟩
theorem MapIs.del {B0 : Nat} {W : World} {D : DataW Value} {F : List S77} (h : MapIs B0 W D F) (i : Int) : MapIs B0 W (D.del (.int .i64 i)) (delF F i) := by
  have hmem : ∀ x, x ∈ delF F i ↔ (x ∈ F ∧ x.f0 ≠ i) := fun x => by unfold delF; rw [List.mem_filter]; simp
  refine ⟨h.isMap.del _, h.rise.filter _, fun j => ?_, fun x hx => ?_⟩
  · by_cases e : j = i
    · subst e
      rw [has_del_same]
      exact ⟨fun h => (by cases h), fun ⟨x, h1, h2⟩ => absurd h2 ((hmem x).1 h1).2⟩
    · rw [has_del_other (by simpa using e), h.has]
      constructor
      · rintro ⟨x, h1, h2⟩; exact ⟨x, (hmem _).2 ⟨h1, by omega⟩, h2⟩
      · rintro ⟨x, h1, h2⟩; exact ⟨x, ((hmem _).1 h1).1, h2⟩
  · obtain ⟨h1, h2⟩ := (hmem x).1 hx
    obtain ⟨u, h3, h4⟩ := h.look x h1
    exact ⟨u, h3, fun z => by rw [atKey_del_other (by simpa using h2)]; exact h4 z⟩
structure DiskAt (B0 : Nat) (W : World) (p bm n : Nat) (bv : Value) (F : List S77) (B : List S83) : Prop where
  hp : W.heap[p]? = some (.cells #[.map (some bm), bv] 80 (0, 0))
  hm : ∃ D, W.ownsMap Try.prog 3 RV bm n D ∧ MapIs B0 W D F
  row : Ro83 B0 W B0 bv B
  lo : B0 ≤ p ∧ B0 ≤ bm
theorem DiskAt.ne {B0 : Nat} {W : World} {p bm n : Nat} {bv : Value} {F : List S77} {B : List S83} (h : DiskAt B0 W p bm n bv F B) : p ≠ bm ∧ (∀ k, bv.ownBlock = some k → k ≠ p ∧ k ≠ bm) ∧ ¬ B5 W p ∧ ¬ B5 W bm ∧ (∀ k, bv.ownBlock = some k → ¬ B5 W k ∧ B0 ≤ k ∧ k < W.heap.size) ∧ p < W.heap.size ∧ bm < W.heap.size := by
  obtain ⟨D, hm, _⟩ := h.hm
  obtain ⟨es, c, hb, _⟩ := id hm
  refine ⟨?_, fun k hk => ?_, fun ht => ht.ne h.hp (by decide), fun ⟨c', fz, ht⟩ => ?_, fun k hk => ?_, blk_lt h.hp, hm.lt⟩
  · rintro rfl
    rw [h.hp] at hb
    cases hb
  · obtain ⟨⟨c1, h1⟩, _⟩ := OwnRow.block h.row hk
    constructor
    · rintro rfl
      rw [h.hp] at h1
      injection h1 with h1
      injection h1 with _ h1
      exact absurd h1 (by decide)
    · rintro rfl
      rw [hb] at h1
      cases h1
  · rw [hb] at ht
    cases ht
  · obtain ⟨⟨c1, h1⟩, h2⟩ := OwnRow.block h.row hk
    exact ⟨fun ht => ht.ne h1 (by decide), h2, blk_lt h1⟩
/-- The blocks that a disk's own doings write. -/
def DS (p bm : Nat) (bv : Value) (k : Nat) : Prop := k = p ∨ k = bm ∨ bv.ownBlock = some k
theorem DiskAt.byt {B0 : Nat} {W W' : World} {p bm n : Nat} {bv : Value} {F : List S77} {B : List S83} (h : DiskAt B0 W p bm n bv F B) (hk : Kpt (DS p bm bv) W W') : Byt B0 W W' := .of_kpt hk (fun k hs => by
  obtain ⟨_, _, h3, h4, h5, _⟩ := h.ne
  rcases hs with rfl | rfl | hs
  · exact ⟨h.lo.1, h3⟩
  · exact ⟨h.lo.2, h4⟩
  · exact ⟨(h5 k hs).2.1, (h5 k hs).1⟩)
theorem DiskAt.kept {B0 : Nat} {S : Nat → Prop} {W W' : World} {p bm n : Nat} {bv : Value} {F : List S77} {B : List S83} (h : DiskAt B0 W p bm n bv F B) (hk : Kpt S W W') (hb : Byt B0 W W') (hS : ∀ k, DS p bm bv k → ¬ S k) : DiskAt B0 W' p bm n bv F B := by
  obtain ⟨D, hm, hf⟩ := h.hm
  refine ⟨hk.blk h.hp (hS p (.inl rfl)), ⟨D, hk.owns hm (hS bm (.inr (.inl rfl))), hf.byt hb⟩, Ro83.moved h.row hb (fun k hkk => hk.block k ((h.ne.2.2.2.2.1 k hkk).2.2) (hS k (.inr (.inr hkk)))), h.lo⟩
theorem DiskAt.below {B0 : Nat} {W W' : World} {p bm n : Nat} {bv : Value} {F : List S77} {B : List S83} (h : DiskAt B0 W p bm n bv F B) (hb : Below W.heap.size W W') : DiskAt B0 W' p bm n bv F B :=
  h.kept (S := fun _ => False) (.of_below hb) (.of_below hb) (fun _ _ h => h)
set_option maxHeartbeats 1000000 in
theorem new_any (B0 : Nat) (w : World) (hB : B0 ≤ w.heap.size) : Calls Try.prog 25 #[] w fun e w' => ∃ p bm, e = .returned (.pointer (some ⟨p, 0, none⟩)) ∧ DiskAt B0 w' p bm 0 (.slice none 0 0) [] [] ∧ w.heap.size ≤ p ∧ w.heap.size ≤ bm ∧ Below w.heap.size w w' := by
  have hmm := @run_makeMap Try.prog
  go_enter Try.func25, Try.ntmps25
  go_wp2
  go_ret
  refine ⟨w.heap.size + 1, w.heap.size, rfl, ⟨?_, ⟨_, (World.ownsMap_made w Try.prog 3 RV).alloc _, MapIs.empty _ _⟩, OwnRow.none_ _ _ _ _ _, by omega, hB⟩, by omega, Nat.le_refl _, below_alloc (below_alloc (Below.refl _ _) _) _⟩
  have := heap_alloc_new (w.alloc (Obj.map #[] 0)) (Obj.cells #[Value.map (some w.heap.size), Value.slice none 0 0] 80)
  rwa [World.size_alloc] at this
def putOk (no : Int) : Bool := decide (1 ≤ no) && decide (no ≤ 4294967296)
def bufPut (B : List S83) (kind no : Int) (xs : List Int) : List S83 := if putOk no = true then B ++ [⟨kind, no, xs⟩] else B
set_option maxHeartbeats 1000000 in
theorem put_nil (kind no : Int) (A : Option Addr) (n c : Nat) (w : World) : Calls Try.prog 50 #[.pointer none, .int .i64 kind, .int .i64 no, .slice A n c] w fun e w' => e = .returned (.tuple #[]) ∧ Below w.heap.size w w' := by
  go_enter Try.func50, Try.ntmps50
  go_wp2
  refine bodyPost_ret (results_none rfl _ _ _) rfl ?_
  exact ⟨rfl, Below.refl _ _⟩
theorem put_end {B0 : Nat} {w w1 w5 : World} {p bm n : Nat} {bv : Value} {F : List S77} {B : List S83} {x : S83} {A5 : Option Addr} {c5 : Nat} (h1 : DiskAt B0 w1 p bm n bv F B) (hr5 : OwnRow (E83 B0 w1) 83 3 w5 B0 (.slice A5 (B.length + 1) c5) (B ++ [x])) (hg : w1.grownBy w5 bv.ownBlock)
    (hat : (Value.slice A5 (B.length + 1) c5).ownBlock = bv.ownBlock ∨ ∃ b, (Value.slice A5 (B.length + 1) c5).ownBlock = some b ∧ w1.heap.size ≤ b) (hb1 : Below w.heap.size w w1) :
    DiskAt B0 (w5.setCell ⟨p, 1, none⟩ (.slice A5 (B.length + 1) c5)) p bm n (.slice A5 (B.length + 1) c5) F (B ++ [x]) ∧ Kpt (DS p bm bv) w (w5.setCell ⟨p, 1, none⟩ (.slice A5 (B.length + 1) c5)) ∧
      (∀ k, (Value.slice A5 (B.length + 1) c5).ownBlock = some k → bv.ownBlock = some k ∨ w.heap.size ≤ k) := by
  obtain ⟨n1, n2, n3, n4, n5, n6, n7⟩ := h1.ne
  have k5 : Kpt (fun k => k = p ∨ bv.ownBlock = some k) w1 w5 := .of_grown hg (fun k hk => .inr hk)
  have k6 : Kpt (fun k => k = p ∨ bv.ownBlock = some k) w1 (w5.setCell ⟨p, 1, none⟩ (.slice A5 (B.length + 1) c5)) := k5.trans (.set (a := ⟨p, 1, none⟩) (.inl rfl) _)
  have hS : ∀ k, k = p ∨ bv.ownBlock = some k → DS p bm bv k := fun k hk => hk.imp id .inr
  have hb6 := h1.byt (k6.mono hS)
  have hown : ∀ k, (Value.slice A5 (B.length + 1) c5).ownBlock = some k → k ≠ p ∧ (bv.ownBlock = some k ∨ w.heap.size ≤ k) := fun k hk => by
    rcases hat with e | ⟨b, e, hb⟩
    · rw [e] at hk; exact ⟨(n2 k hk).1, .inl hk⟩
    · rw [e] at hk
      injection hk with hk
      have := hb1.size
      exact ⟨by omega, .inr (by omega)⟩
  have hp5 : w5.heap[p]? = some (.cells #[.map (some bm), bv] 80 (0, 0)) := (hg.block p n6 (fun e => (n2 p e.symm).1 rfl)).trans h1.hp
  obtain ⟨D, hm, hf⟩ := h1.hm
  refine ⟨⟨blk_put hp5 1 _ (by simp), ⟨D, k6.owns hm (fun h => by rcases h with h | h; exact n1 h.symm; exact (n2 _ h).2 rfl), hf.byt hb6⟩, ?_, h1.lo⟩, (Kpt.of_below hb1).trans (k6.mono hS), fun k hk => (hown k hk).2⟩
  exact OwnRow.moved hr5 (fun k hk => Below.heap_setCell _ _ _ _ (hown k hk).1) (fun _ _ => E83.byt hb6)
set_option maxHeartbeats 2000000 in
set_option maxRecDepth 100000 in
theorem put_any (B0 : Nat) (p bm n : Nat) (bv : Value) (F : List S77) (B : List S83) (kind no : Int) (v : Value) (xs : List Int) (w : World) (h : DiskAt B0 w p bm n bv F B) (hv : DatV B0 w v xs) (hxl : xs.length < 1000000) (hBl : B.length < 1000000) :
    Calls Try.prog 50 #[.pointer (some ⟨p, 0, none⟩), .int .i64 kind, .int .i64 no, v] w fun e w' => ∃ bv', e = .returned (.tuple #[]) ∧ DiskAt B0 w' p bm n bv' F (bufPut B kind no xs) ∧ Kpt (DS p bm bv) w w' ∧ (∀ k, bv'.ownBlock = some k → bv.ownBlock = some k ∨ w.heap.size ≤ k) := by
  obtain ⟨A, c, rfl, hc, hC⟩ := hv.len
  by_cases g1 : no < 1
  · have hb : bufPut B kind no xs = B := by unfold bufPut putOk; simp; omega
    have HA := Aside0.mk h
    have HBB := Aside0.mk hb
    clear h hv hC hb
    go_enter Try.func50, Try.ntmps50
    go_wp2
    refine bodyPost_ret (results_none rfl _ _ _) rfl ?_
    first | exact ⟨bv, rfl, by rw [HBB.out]; exact HA.out, Kpt.refl _ _, fun k hk => .inl hk⟩ | exact ⟨rfl, bv, by rw [HBB.out]; exact HA.out, Kpt.refl _ _, fun k hk => .inl hk⟩
  by_cases g2 : no > 4294967296
  · have hb : bufPut B kind no xs = B := by unfold bufPut putOk; simp; omega
    have HA := Aside0.mk h
    have HBB := Aside0.mk hb
    clear h hv hC hb
    go_enter Try.func50, Try.ntmps50
    go_wp2
    refine bodyPost_ret (results_none rfl _ _ _) rfl ?_
    first | exact ⟨bv, rfl, by rw [HBB.out]; exact HA.out, Kpt.refl _ _, fun k hk => .inl hk⟩ | exact ⟨rfl, bv, by rw [HBB.out]; exact HA.out, Kpt.refl _ _, fun k hk => .inl hk⟩
  have hb : bufPut B kind no xs = B ++ [⟨kind, no, xs⟩] := by unfold bufPut putOk; simp; omega
  have HB := Aside0.mk hb
  have HA := Aside0.mk h
  have HC := Aside0.mk hC
  have y0 : w.cell? ⟨p, 1, none⟩ = some bv := blk_cell h.hp 1
  have HNE := Aside0.mk HA.out.ne
  have HSZ : Aside0 (B0 ≤ w.heap.size) := ⟨by have := HA.out.ne.2.2.2.2.2.1; have := HA.out.lo.1; omega⟩
  have HV : Aside0 (slices_Clone_byte_byte.f xs = some xs) := ⟨by unfold slices_Clone_byte_byte.f; rw [if_pos (by omega)]⟩
  clear h hv hC hb
  go_enter Try.func50, Try.ntmps50
  go_wp2_with fail
  go_region_law (first
    | (go_simp; go_at_call 46; (with_reducible refine (slices_Clone_byte_byte.calls A c xs xs _ ?_ hc HV.out).mono ?_); (focus (exact Kd.C_drew HC.out)); rintro e w1 ⟨v1, rfl, hr1, hb1⟩; obtain ⟨A1, c1, rfl⟩ := Kd.R_slice hr1; have HR1 := Aside0.mk (DatV.of_R (B0 := B0) hr1); have HB1 := Aside0.mk (below_then (below_drew (Below.refl w.heap.size w)) (Nat.le_refl _) hb1); clear hr1 hb1; have HO1 := Aside0.mk (Ro83.below HA.out.row HB1.out); have z1 := pw_cell_below HB1.out y0; have z2 := pw_cell_below (below_alloc HB1.out (Obj.cells #[.int .i64 kind, .int .i64 no, .slice A1 xs.length c1] 83)) y0)
    | (refine OwnRow.append_step (R := E83 B0 w1) (w0 := w) B0 (by simp [Region.wanted]) (.tmp 22) (.tmp 28) 58 83 _ 3 40 rfl Try.underlying58 info83 (by decide) (by decide) (by decide) bv B ⟨kind, no, xs⟩ [.int .i64 kind, .int .i64 no, .slice A1 xs.length c1] (by first | rfl | (simp [Act.eval, Act.put]; done)) (by first | rfl | (simp [Act.eval, Act.put]; done)) ⟨_, rfl, HR1.out⟩ rfl (by simp [Value.oneCell']) HO1.out (HB1.out.mono HSZ.out) (Nat.le_trans HSZ.out HB1.out.size) (by omega) ?_; intro v5 w5 hr5 hb5 hg5 hat5; obtain ⟨A5, c5, rfl, hc5⟩ := OwnRow.slice_ hr5; have HO5 := Aside0.mk hr5; have HB5 := Aside0.mk hb5; have HG5 := Aside0.mk hg5; have HAT5 := Aside0.mk hat5; clear hr5 hb5 hg5 hat5; have hp5 := (HG5.out.block p (Nat.lt_of_lt_of_le HNE.out.2.2.2.2.2.1 HB1.out.size) (fun e => (HNE.out.2.1 p e.symm).1 rfl)).trans ((HB1.out.block p HNE.out.2.2.2.2.2.1).trans HA.out.hp); have HP5 := Aside0.mk hp5; have y5 := blk_cell hp5 1; have f5 := blk_frozen hp5 1; clear hp5)
    | fail)
  all_goals
    go_end0
    rw [HB.out]
    have e5 : (B ++ [(⟨kind, no, xs⟩ : S83)]).length = B.length + 1 := by simp
    have o5 := HO5.out
    have t5 := HAT5.out
    rw [e5] at o5 t5
    have hend := put_end (HA.out.below HB1.out) o5 HG5.out t5 HB1.out
    exact ⟨_, rfl, hend.1, hend.2.1, hend.2.2⟩
set_option maxHeartbeats 1000000 in
theorem make_nil (no : Int) (w : World) : Calls Try.prog 41 #[.pointer none, .int .i64 no] w fun e w' => e = .returned (.tuple #[]) ∧ Below w.heap.size w w' := by
  have HP := Aside0.mk (fun W => put_nil 1 no none 0 0 W)
  go_enter Try.func41, Try.ntmps41
  go_wp2_with (first | (go_at_call 50; refine (HP.out _).mono ?_; rintro e w1 ⟨rfl, hb1⟩))
  go_end0
  exact ⟨rfl, hb1⟩
theorem drop_nil (no : Int) (w : World) : Calls Try.prog 43 #[.pointer none, .int .i64 no] w fun e w' => e = .returned (.tuple #[]) ∧ Below w.heap.size w w' := by
  have HP := Aside0.mk (fun W => put_nil 3 no none 0 0 W)
  go_enter Try.func43, Try.ntmps43
  go_wp2_with (first | (go_at_call 50; refine (HP.out _).mono ?_; rintro e w1 ⟨rfl, hb1⟩))
  go_end0
  exact ⟨rfl, hb1⟩
theorem add_nil (no : Int) (A : Option Addr) (n c : Nat) (w : World) : Calls Try.prog 42 #[.pointer none, .int .i64 no, .slice A n c] w fun e w' => e = .returned (.tuple #[]) ∧ Below w.heap.size w w' := by
  have HP := Aside0.mk (fun W => put_nil 2 no A n c W)
  go_enter Try.func42, Try.ntmps42
  go_wp2_with (first | (go_at_call 50; refine (HP.out _).mono ?_; rintro e w1 ⟨rfl, hb1⟩))
  go_end0
  exact ⟨rfl, hb1⟩
def PutPost (B0 : Nat) (p bm n : Nat) (bv : Value) (F : List S77) (B' : List S83) (w : World) (e : Ending) (w' : World) : Prop :=
  ∃ bv', e = .returned (.tuple #[]) ∧ DiskAt B0 w' p bm n bv' F B' ∧ Kpt (DS p bm bv) w w' ∧ (∀ k, bv'.ownBlock = some k → bv.ownBlock = some k ∨ w.heap.size ≤ k)
theorem make_any (B0 : Nat) (p bm n : Nat) (bv : Value) (F : List S77) (B : List S83) (no : Int) (w : World) (h : DiskAt B0 w p bm n bv F B) (hBl : B.length < 1000000) :
    Calls Try.prog 41 #[.pointer (some ⟨p, 0, none⟩), .int .i64 no] w (PutPost B0 p bm n bv F (bufPut B 1 no []) w) := by
  have HP := Aside0.mk (put_any B0 p bm n bv F B 1 no _ [] w h (DatV.nil _ _) (by simp) hBl)
  clear h
  go_enter Try.func41, Try.ntmps41
  go_wp2_with (first | (go_at_call 50; refine HP.out.mono ?_; rintro e w1 ⟨bv', rfl, h1, h2, h3⟩))
  go_end0
  exact ⟨bv', rfl, h1, h2, h3⟩
theorem drop_any (B0 : Nat) (p bm n : Nat) (bv : Value) (F : List S77) (B : List S83) (no : Int) (w : World) (h : DiskAt B0 w p bm n bv F B) (hBl : B.length < 1000000) :
    Calls Try.prog 43 #[.pointer (some ⟨p, 0, none⟩), .int .i64 no] w (PutPost B0 p bm n bv F (bufPut B 3 no []) w) := by
  have HP := Aside0.mk (put_any B0 p bm n bv F B 3 no _ [] w h (DatV.nil _ _) (by simp) hBl)
  clear h
  go_enter Try.func43, Try.ntmps43
  go_wp2_with (first | (go_at_call 50; refine HP.out.mono ?_; rintro e w1 ⟨bv', rfl, h1, h2, h3⟩))
  go_end0
  exact ⟨bv', rfl, h1, h2, h3⟩
theorem add_any (B0 : Nat) (p bm n : Nat) (bv : Value) (F : List S77) (B : List S83) (no : Int) (v : Value) (xs : List Int) (w : World) (h : DiskAt B0 w p bm n bv F B) (hv : DatV B0 w v xs) (hxl : xs.length < 1000000) (hBl : B.length < 1000000) :
    Calls Try.prog 42 #[.pointer (some ⟨p, 0, none⟩), .int .i64 no, v] w (PutPost B0 p bm n bv F (bufPut B 2 no xs) w) := by
  have HP := Aside0.mk (put_any B0 p bm n bv F B 2 no v xs w h hv hxl hBl)
  obtain ⟨A, c, rfl, _, _⟩ := hv.len
  clear h hv
  go_enter Try.func42, Try.ntmps42
  go_wp2_with (first | (go_at_call 50; refine HP.out.mono ?_; rintro e w1 ⟨bv', rfl, h1, h2, h3⟩))
  go_end0
  exact ⟨bv', rfl, h1, h2, h3⟩
end Go.Proofs.Ytncmkcggkgahnaa.PDsk
