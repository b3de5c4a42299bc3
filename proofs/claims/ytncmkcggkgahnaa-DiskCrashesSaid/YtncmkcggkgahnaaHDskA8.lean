-- By the session: contracts proved by hand.
import Derived.Test.YtncmkcggkgahnaaHDskA7
import Derived.RangeFuncBox
import Derived.RangeFuncWrites
import Derived.RangeFuncLeaves
import Derived.RangeFuncCalls
import Derived.Shelf.Abstract
import Derived.WalkKit
import Derived.OwnWalkIn
import Derived.TacticsInMore
import Derived.LoopNIn
import Derived.LoopIn
import Derived.OrdersIn
import Derived.RegionIn
import Derived.Deep.RegionHeld
import Derived.Deep.RegionHeldLaw
import Derived.Deep.RegionLaw
import Derived.Maps.AppendAt
import Derived.Maps.Own
import Derived.Maps.OwnOps
import Derived.Maps.OwnSet
import Derived.Maps.Views
import Derived.Lib.SliceRun
import Derived.Lib.SlBytesConst
namespace Go.Proofs.Ytncmkcggkgahnaa.PDsk
open Go.Maps
open Go.RowKit Go.Shelf Go.Sort Go.Proofs.YtncmkcggkgahnaaW.PrintWords Go.Proofs.YtncmkcggkgahnaaW.PrintLast Go.Proofs.YtncmkcggkgahnaaW.PrintMore
set_option linter.unusedVariables false
set_option linter.unusedSimpArgs false
/-! list: function 45 -/
attribute [local go_sem] Oper.semAt_some
theorem intKeys_nodup {w : World} {bm n : Nat} {D : DataW Value} (hown : w.ownsMap Try.prog 3 RV bm n D) : (intKeys D).Nodup := by
  obtain ⟨es, hD, hpw, _⟩ := hown.entries law3
  obtain ⟨es', hD', hko⟩ := hown.keysOf
  obtain rfl : es = es' := by rw [hD] at hD'; simpa using hD'
  subst hD
  simp only [intKeys]
  refine List.pairwise_map.2 (hpw.imp_of_mem fun {p q} hp' hq' hne e => hne ?_)
  obtain ⟨v, hv⟩ := hko p hp'
  obtain ⟨u, hu⟩ := hko q hq'
  obtain ⟨a, _, ha, _⟩ := Maps.keyOf_i64 Try.underlying3 hv
  obtain ⟨b, _, hb, _⟩ := Maps.keyOf_i64 Try.underlying3 hu
  rw [ha, hb] at e ⊢
  exact congrArg _ e
theorem keys_stopsK (m bm n : Nat) (hm1 : 1 ≤ m) (Bm n₀ : Nat) (D : DataW Value) (w : World) (hBm : Bm < w.heap.size) (hc : w.cell? ⟨Bm, 0, none⟩ = some (.map (some bm))) (hown : w.ownsMap Try.prog 3 RV bm n D) :
    SeqStopsK Fence.wide m Try.prog 60 #[.pointer (some ⟨Bm, 0, none⟩)] (fun x : Int => #[Value.int .i64 x]) (KpB n₀) (fun ss => ss.Perm (intKeys D) ∧ ∀ x, x ∈ ss ↔ has D (.int .i64 x) = true) (fun pre => pre.Nodup ∧ ∀ x ∈ pre, has D (.int .i64 x) = true) (Maps.size D) w :=
  fun l J Jx W hW hJ hJx hY h0 => (AnyZI.keys_stops { YtncmkcggkgahnaaL.keysA with } Fence.wide m trivial rfl hm1 Bm bm n D w hBm hc hown) l J Jx W hW hJ hJx (fun pre x W1 hp hl => (hY pre x W1 hp hl).mono (fun e W' h => h.imp (fun h => ⟨h.1, h.2.1, h.2.2.2⟩) id)) h0
theorem keys_in53 (n : Nat) (hn : 1 ≤ n) (mb : Option Nat) (w : World) : CallsIn Fence.wide n Try.prog 53 #[.map mb] w fun e w' => e = .returned (.func (.func 60) #[] #[.pointer (some ⟨w.heap.size, 0, none⟩)]) ∧ w' = w.alloc (.cells #[.map mb] 78) :=
  AnyZI.keys_in YtncmkcggkgahnaaL.keysA Fence.wide n trivial rfl mb w
theorem pairwise_mem_eq : ∀ {a b : List Int}, a.Pairwise (· < ·) → b.Pairwise (· < ·) → (∀ x, x ∈ a ↔ x ∈ b) → a = b
  | [], [], _, _, _ => rfl
  | [], y :: b, _, _, h => absurd ((h y).2 (by simp)) (by simp)
  | x :: a, [], _, _, h => absurd ((h x).1 (by simp)) (by simp)
  | x :: a, y :: b, ha, hb, h => by
    obtain ⟨ha1, ha2⟩ := List.pairwise_cons.1 ha
    obtain ⟨hb1, hb2⟩ := List.pairwise_cons.1 hb
    have hxy : x = y := by
      have h1 := (h x).1 (by simp)
      have h2 := (h y).2 (by simp)
      rcases List.mem_cons.1 h1 with h1 | h1
      · exact h1
      · rcases List.mem_cons.1 h2 with h2 | h2
        · exact h2.symm
        · have := ha1 y h2; have := hb1 x h1; omega
    subst hxy
    congr 1
    refine pairwise_mem_eq ha2 hb2 (fun z => ⟨fun hz => ?_, fun hz => ?_⟩)
    · have := ha1 z hz
      rcases List.mem_cons.1 ((h z).1 (by simp [hz])) with e | e
      · omega
      · exact e
    · have := hb1 z hz
      rcases List.mem_cons.1 ((h z).2 (by simp [hz])) with e | e
      · omega
      · exact e
def nosOf (F : List S77) : List Int := F.map S77.f0
/-- The keys in their order are the files' numbers. -/
theorem sorted_is {B0 : Nat} {W : World} {D : DataW Value} {F : List S77} {ss : List Int} (hm : MapIs B0 W D F) (hnd : (intKeys D).Nodup) (hp : ss.Perm (intKeys D)) (hmem : ∀ x, x ∈ ss ↔ has D (.int .i64 x) = true) : ss.mergeSort (fun x y => decide (x ≤ y)) = nosOf F := by
  refine pairwise_mem_eq ?_ (List.pairwise_map.2 hm.rise) (fun x => ?_)
  · have h1 := List.mergeSort_perm ss (fun x y => decide (x ≤ y))
    have hso : (ss.mergeSort fun x y => decide (x ≤ y)).Pairwise (fun x y => decide (x ≤ y) = true) := List.pairwise_mergeSort (fun a b c h1 h2 => by simp at *; omega) (fun a b => by simp; omega) ss
    have hnd2 : (ss.mergeSort fun x y => decide (x ≤ y)).Nodup := (h1.trans hp).nodup_iff.2 hnd
    exact (List.pairwise_and_iff.2 ⟨hso, hnd2⟩).imp (fun ⟨h1, h2⟩ => by simp at h1; omega)
  · rw [(List.mergeSort_perm ss _).mem_iff, hmem, hm.has]
    unfold nosOf
    rw [List.mem_map]
/-- One of the files. -/
abbrev One (F : List S77) : Type := { x : S77 // x ∈ F }
def numOf {F : List S77} (x : One F) : Int := x.val.f0
theorem nos_attach (F : List S77) : F.attach.map numOf = nosOf F := by
  unfold nosOf
  conv => rhs; rw [← List.attach_map_subtype_val F]
  rw [List.map_map]
  rfl
theorem OwnFrom.from_kpt {β : Type} {B : Nat} {I : β → World → Prop} (h : ∀ s W W' r, I s W → B ≤ r → (∃ o : Obj, W.heap[r]? = some o ∧ o.isCells = false) → Kpt (fun k => k = r) W W' → I s W') (h0 : ∀ s W W', I s W → Kpt (fun _ => False) W W' → I s W') : OwnFrom B I := fun s W W' row hs hg hr => by
  cases row with
  | none => exact h0 s W W' hs (.of_grown hg (fun k e => by cases e))
  | some r => exact h s W W' r hs (hr r rfl).1 (hr r rfl).2 (.of_grown hg (fun k e => by injection e with e; exact e.symm))
theorem not_typ {W : World} {r t : Nat} (h : ∃ o : Obj, W.heap[r]? = some o ∧ o.isCells = false) : ¬ Typ W t r := by
  obtain ⟨o, h1, h2⟩ := h
  rintro ⟨c, h3⟩
  rw [h1] at h3
  injection h3 with h3
  subst h3
  cases h2
theorem not_b5 {W : World} {r : Nat} (h : ∃ o : Obj, W.heap[r]? = some o ∧ o.isCells = false) : ¬ B5 W r := by
  obtain ⟨o, h1, h2⟩ := h
  rintro ⟨c, fz, h3⟩
  rw [h1] at h3
  injection h3 with h3
  subst h3
  cases h2
/-- What stands while the files are listed. -/
structure Li (nb B0 bm n : Nat) (F : List S77) (w : World) (pre : List (One F)) (W : World) : Prop where
  out : ∃ v, Boxed W (w.heap.size + 1) 56 v ∧ Ro77 B0 W nb v (pre.map Subtype.val)
  box : Boxed W w.heap.size 78 (.map (some bm))
  files : FilesAt B0 W bm n F
  below : Below w.heap.size w W
  lt : nb ≤ W.heap.size
theorem Li.kept {nb B0 bm n : Nat} {F : List S77} {w : World} {pre : List (One F)} {W W' : World} {S : Nat → Prop} (h : Li nb B0 bm n F w pre W) (hw : B0 ≤ w.heap.size ∧ bm < w.heap.size) (hk : Kpt S W W') (hS : ∀ k, S k → w.heap.size + 2 ≤ k ∧ (∀ t, ¬ Typ W t k) ∧ ¬ B5 W k) : Li nb B0 bm n F w pre W' := by
  have hb : Byt B0 W W' := .of_kpt hk (fun k hs => ⟨by have := (hS k hs).1; omega, (hS k hs).2.2⟩)
  obtain ⟨v, h1, h2⟩ := h.out
  refine ⟨⟨v, hk.blk h1 (fun hs => by have := (hS _ hs).1; omega), Ro77.moved h2 hb (fun k e => hk.block k ((OwnRow.block h2 e).1.lt) (fun hs => (hS k hs).2.1 77 (OwnRow.block h2 e).1))⟩, hk.blk h.box (fun hs => by have := (hS _ hs).1; omega),
    h.files.kept hk hb (fun hs => by have := (hS _ hs).1; omega), hk.below h.below h.below.size (fun k hs => by have := (hS k hs).1; omega), Nat.le_trans h.lt hk.size⟩
theorem Li.own {nb B0 bm n : Nat} {F : List S77} {w : World} {B : Nat} (hw : B0 ≤ w.heap.size ∧ bm < w.heap.size) (hB : w.heap.size + 2 ≤ B) : OwnFrom B (Li nb B0 bm n F w) :=
  OwnFrom.from_kpt (fun s W W' r hI hr ho hk => Li.kept hI hw hk (fun k e => by subst e; exact ⟨by omega, fun t => not_typ ho, not_b5 ho⟩)) (fun s W W' hI hk => Li.kept hI hw hk (fun k e => e.elim))
theorem intsX_of {α : Type} {num : α → Int} {base bx c : Nat} {W : World} {A : Option Addr} {zs : List α} (h : W.ownsRow base 3 1 (.slice A zs.length c) zs.length ((zs.map num).map (Value.int .i64))) (hb : bx < base) : IntsX num W.heap.size bx W (.slice A zs.length c) zs := by
  rcases Nat.eq_zero_or_pos zs.length with h0 | h0
  · obtain rfl := List.eq_nil_of_length_eq_zero h0
    exact .inl ⟨A, c, rfl, rfl⟩
  · obtain ⟨g, cap, e, h1, h2⟩ := World.ownsRow.form h h0
    injection e with e1 e2 e3
    subst e1
    refine .inr ⟨_, c, rfl, ⟨h2, by show g ≠ bx; omega⟩, fun j hj => h.cells (g := g) rfl j _ ?_⟩
    rw [List.getElem?_map, List.getElem?_map, List.getElem?_eq_getElem hj]
    rfl
set_option maxRecDepth 100000 in
theorem files_get {B0 : Nat} {W : World} {bm n : Nat} {F : List S77} (h : FilesAt B0 W bm n F) (x : One F) (hwf : (Lit.int .i64 (numOf x)).wf = true) :
    ∃ v0, (Instr.lookup 78 (.map (some bm)) (.int .i64 (numOf x)) false).run Try.prog W = .ok v0 W ∧ DatV B0 W v0 x.val.f1 := by
  obtain ⟨D, hown, hm⟩ := h
  obtain ⟨v0, ps, hrun, hv0⟩ := hown.lookup law3 Try.underlying78 (zero28 W) (zd := .held (.slice none 0 0)) rfl (keyOf_int_mk Try.underlying3 hwf)
  refine ⟨v0, hrun, ?_⟩
  have e : DataW.held v0 = D.atKey (.int .i64 (numOf x)) (.held (.slice none 0 0)) := congrArg Prod.fst (Option.some.inj hv0)
  obtain ⟨v, h1, h2⟩ := hm.look x.val x.2
  have h2' := h2 (.held (.slice none 0 0))
  rw [show x.val.f0 = numOf x from rfl] at h2'
  rw [h2'] at e
  injection e with e
  subst e
  exact h1
/-- Behind one round. -/
theorem list_round {nb B0 bm n B : Nat} {F : List S77} {w W w1 w5 : World} {pre : List (One F)} {x : One F} {v0 v5 : Value} (hI : Li nb B0 bm n F w pre W) (hw : B0 ≤ w.heap.size ∧ bm < w.heap.size) (hnb : w.heap.size + 2 ≤ nb) (hv0 : Boxed W (w.heap.size + 1) 56 v0) (hr0 : Ro77 B0 W nb v0 (pre.map Subtype.val))
    (hb1 : Below W.heap.size W w1) (hr5 : OwnRow (E77 B0 w1) 77 2 w5 nb v5 (pre.map Subtype.val ++ [x.val])) (hg5 : w1.grownBy w5 v0.ownBlock) :
    KeepsFrom B W (w5.setCell ⟨w.heap.size + 1, 0, none⟩ v5) ∧ KpX nb (w.heap.size + 1) W (w5.setCell ⟨w.heap.size + 1, 0, none⟩ v5) ∧ Li nb B0 bm n F w (pre ++ [x]) (w5.setCell ⟨w.heap.size + 1, 0, none⟩ v5) := by
  have hr1 := Ro77.below hr0 hb1
  have hown : ∀ k, v0.ownBlock = some k → Typ w1 77 k ∧ nb ≤ k := fun k hk => OwnRow.block hr1 hk
  have k1 : Kpt (fun _ => False) W w1 := .of_below hb1
  have k5 : Kpt (fun k => v0.ownBlock = some k) w1 w5 := .of_grown hg5 (fun k hk => hk)
  have k6 : Kpt (fun k => k = w.heap.size + 1) w5 (w5.setCell ⟨w.heap.size + 1, 0, none⟩ v5) := .set (S := fun k => k = w.heap.size + 1) (a := ⟨w.heap.size + 1, 0, none⟩) rfl _
  have hW := hI.below.size
  have hv5 : Boxed w5 (w.heap.size + 1) 56 v0 := k5.blk (k1.blk hv0 (fun h => h)) (fun h => by have := (hown _ h).2; omega)
  have b5 : Byt B0 w1 w5 := byt_grown hr1 hg5 (by decide) (by omega)
  have b6 : Byt B0 w5 (w5.setCell ⟨w.heap.size + 1, 0, none⟩ v5) := .of_kpt k6 (fun k e => by subst e; exact ⟨by omega, fun h => h.ne hv5 (by decide)⟩)
  have hko : KeepsOthers W (w5.setCell ⟨w.heap.size + 1, 0, none⟩ v5) := by
    refine (KeepsOthers.trans (B := w1) ⟨hb1.size, fun k o hk _ => (hb1.block k (blk_lt hk)).trans hk⟩ (KeepsOthers.of_grownBy hg5 fun j o ej hj => ?_)).trans (KeepsOthers.setCell _ _ _)
    obtain ⟨c, h1⟩ := (hown j ej).1
    rw [h1] at hj
    injection hj with hj
    subst hj
    rfl
  have hS : ∀ k, (v0.ownBlock = some k ∨ k = w.heap.size + 1) → w.heap.size ≤ k := fun k hk => by
    rcases hk with hk | hk
    · have := (hown k hk).2; omega
    · omega
  have kall : Kpt (fun k => v0.ownBlock = some k ∨ k = w.heap.size + 1) W (w5.setCell ⟨w.heap.size + 1, 0, none⟩ v5) := (k1.mono (fun _ h => h.elim)).trans ((k5.mono (fun _ h => .inl h)).trans (k6.mono (fun _ h => .inr h)))
  have ball : Byt B0 W (w5.setCell ⟨w.heap.size + 1, 0, none⟩ v5) := (Byt.of_below hb1).trans (b5.trans b6)
  refine ⟨hko.from _, ⟨⟨kall.size, fun k h1 h2 => ?_⟩, hko.walks⟩, ⟨v5, hv5.set v5, ?_⟩, ?_, ?_, ?_, Nat.le_trans hI.lt kall.size⟩
  · rcases Nat.lt_or_ge k W.heap.size with h3 | h3
    · exact kall.block k h3 (fun hs => by
        rcases hs with hs | hs
        · have := (hown k hs).2; omega
        · exact h2 hs)
    · have := hI.lt; omega
  · rw [List.map_append]
    exact OwnRow.moved hr5 (fun k hk => Below.heap_setCell _ _ _ _ (by have := (OwnRow.block hr5 hk).2; show k ≠ w.heap.size + 1; omega)) (fun _ _ h => (h.byt b5).byt b6)
  · exact kall.blk hI.box (fun hs => by
      rcases hs with hs | hs
      · have := (hown _ hs).2; omega
      · omega)
  · exact hI.files.kept kall ball (fun hs => by have := hS _ hs; omega)
  · exact kall.below hI.below hW hS
theorem round_cells {nb B0 bm n : Nat} {F : List S77} {w W w1 w5 : World} {pre : List (One F)} {v0 : Value} (hI : Li nb B0 bm n F w pre W) (hnb : w.heap.size + 2 ≤ nb) (hv0 : Boxed W (w.heap.size + 1) 56 v0) (hr0 : Ro77 B0 W nb v0 (pre.map Subtype.val)) (hb1 : Below W.heap.size W w1) (hg5 : w1.grownBy w5 v0.ownBlock) :
    w5.cell? ⟨w.heap.size, 0, none⟩ = some (.map (some bm)) ∧ w5.cell? ⟨w.heap.size + 1, 0, none⟩ = some v0 ∧ w5.frozen? ⟨w.heap.size + 1, 0, none⟩ = false := by
  have hr1 := Ro77.below hr0 hb1
  have k5 : Kpt (fun k => v0.ownBlock = some k) w1 w5 := .of_grown hg5 (fun k hk => hk)
  have k1 : Kpt (fun _ => False) W w1 := .of_below hb1
  have h0 : Boxed w5 w.heap.size 78 (.map (some bm)) := k5.blk (k1.blk hI.box (fun h => h)) (fun h => by have := (OwnRow.block hr1 h).2; omega)
  have h1 : Boxed w5 (w.heap.size + 1) 56 v0 := k5.blk (k1.blk hv0 (fun h => h)) (fun h => by have := (OwnRow.block hr1 h).2; omega)
  exact ⟨h0.cell, h1.cell, h1.frozen⟩
set_option maxHeartbeats 4000000 in
set_option maxRecDepth 100000 in
theorem list_in (m : Nat) (hm6 : 6 ≤ m) (B0 bm n : Nat) (F : List S77) (w : World) (hF : FilesAt B0 w bm n F) (hB : B0 ≤ bm) (hn : n < 1000000) (hL : LenF F 1000000) (hno : ∀ x, x ∈ F → 1 ≤ x.f0 ∧ x.f0 ≤ 4294967296) :
    CallsIn Fence.wide m Try.prog 45 #[.map (some bm)] w fun e w' => ∃ v, e = .returned v ∧ Ro77 B0 w' w.heap.size v F ∧ Below w.heap.size w w' := by
  have hbm := hF.lt
  obtain ⟨D, hown, hmi⟩ := id hF
  have hnd := intKeys_nodup hown
  have hszn := hown.size_le
  have hw : B0 ≤ w.heap.size ∧ bm < w.heap.size := ⟨by omega, hbm⟩
  have hbx : Below w.heap.size w (((w.alloc (.cells #[.map (some bm)] 78)).alloc (.cells #[.slice none 0 0] 56)).alloc (.cells #[.map (some bm)] 78)) := below_alloc (below_alloc (below_alloc (Below.refl _ _) _) _) _
  have hown1 : (((w.alloc (.cells #[.map (some bm)] 78)).alloc (.cells #[.slice none 0 0] 56)).alloc (.cells #[.map (some bm)] 78)).ownsMap Try.prog 3 RV bm n D := ((hown.alloc _).alloc _).alloc _
  have hcx : (((w.alloc (.cells #[.map (some bm)] 78)).alloc (.cells #[.slice none 0 0] 56)).alloc (.cells #[.map (some bm)] 78)).cell? ⟨w.heap.size + 1 + 1, 0, none⟩ = some (.map (some bm)) := by
    have := blk_cell (heap_alloc_new ((w.alloc (.cells #[.map (some bm)] 78)).alloc (.cells #[.slice none 0 0] 56)) (.cells #[.map (some bm)] 78)) 0
    rw [World.size_alloc, World.size_alloc] at this
    exact this
  have h1 : 1 ≤ m := by omega
  have hf1 : Fence.wide.fn 53 := trivial
  have hf2 : Fence.wide.fn 52 := trivial
  have hf3 : Fence.wide.fn 51 := trivial
  have cS := sorted_in (m - 1) (by omega) 60 #[.pointer (some ⟨w.heap.size + 1 + 1, 0, none⟩)] (enters_of Try.func60 (by kernel_rfl) rfl) 0 _ _ (Maps.size D) (by omega) _ (((w.alloc (.cells #[.map (some bm)] 78)).alloc (.cells #[.slice none 0 0] 56)).alloc (.cells #[.map (some bm)] 78)) (by omega) (Below.refl _ _)
    (keys_stopsK (m - 1 - 1 - 1 - 1) bm n (by omega) (w.heap.size + 1 + 1) 0 D _ (by rw [World.size_alloc, World.size_alloc, World.size_alloc]; omega) hcx hown1)
  have HCS := Aside0.mk cS
  have HBX := Aside0.mk hbx
  have HND := Aside0.mk hnd
  have HMI := Aside0.mk hmi
  have HF := Aside0.mk hF
  clear cS hbx hnd hmi hF hown hown1 hcx
  refine callsIn_of_wp_marks Try.func45 rfl trivial ?_ rfl
  simp only [Try.ntmps45, List.size_toArray, List.length_cons, List.length_nil, Nat.reduceAdd, Nat.reduceSub, Array.replicate_succ, Array.replicate_zero, List.push_toArray, List.append_toArray, List.nil_append, List.cons_append]
  gi_wp2_with (first
    | (gi_at_call 53; refine (keys_in53 _ (by omega) (some bm) _).mono ?_; rintro e w' ⟨rfl, rfl⟩)
    | (gi_at_call 52; refine HCS.out.mono ?_; rintro e W2 ⟨v, ss, rfl, hS, hl, hrow, hb⟩; obtain ⟨Av, cv, rfl⟩ := own_slice hrow; have HS := Aside0.mk hS; have HRO := Aside0.mk hrow; have HB2 := Aside0.mk hb; clear hS hrow hb)
    | (gi_at_call 51; refine (values_in Fence.wide _ trivial rfl Av ss.length cv _).mono ?_; rintro e w' ⟨rfl, rfl⟩))
  have hsort := sorted_is HMI.out HND.out HS.out.1 HS.out.2
  have hlen : ss.length = F.length := by rw [← List.length_mergeSort (le := fun x y => decide (x ≤ y)), hsort]; simp [nosOf]
  have hFl : F.length < 1000000 := by omega
  have hrow := HRO.out
  rw [hsort, hlen, ← nos_attach] at hrow
  have hs1 : (((w.alloc (.cells #[.map (some bm)] 78)).alloc (.cells #[.slice none 0 0] 56)).alloc (.cells #[.map (some bm)] 78)).heap.size = w.heap.size + 3 := by simp
  rw [hs1] at hrow
  have hs2 : w.heap.size + 3 ≤ W2.heap.size := by have := HB2.out.size; omega
  have hsz3 : (W2.alloc (Obj.cells #[Value.slice Av ss.length cv] 41)).heap.size = W2.heap.size + 1 := by simp
  have hb23 : Below W2.heap.size W2 (W2.alloc (Obj.cells #[Value.slice Av ss.length cv] 41)) := below_alloc (Below.refl _ _) _
  have hbw2 : Below w.heap.size w W2 := below_then HBX.out (by omega) HB2.out
  have hIX : IntsX numOf W2.heap.size (w.heap.size + 1) (W2.alloc (Obj.cells #[Value.slice Av ss.length cv] 41)) (.slice Av F.length cv) F.attach := by
    rw [← List.length_attach (l := F)] at hrow ⊢
    exact (intsX_of hrow (by omega)).below hb23
  have hseq := valuesX_stops numOf F.attach Fence.wide (m - 1) trivial rfl (by omega) W2.heap.size W2.heap.size (w.heap.size + 1) (.slice Av F.length cv) (by rw [List.length_attach]; omega) (W2.alloc (Obj.cells #[Value.slice Av ss.length cv] 41)) (by omega) (by omega) (by rw [← hlen]; exact blk_cell (heap_alloc_new W2 _) 0) hIX
  have hbox1 : (W2.alloc (Obj.cells #[Value.slice Av ss.length cv] 41)).heap[w.heap.size + 1]? = some (.cells #[.slice none 0 0] 56 (0, 0)) := by
    have h1 := heap_alloc_new (w.alloc (.cells #[.map (some bm)] 78)) (.cells #[.slice none 0 0] 56)
    rw [World.size_alloc] at h1
    have h2 := (Below.heap_alloc ((w.alloc (.cells #[.map (some bm)] 78)).alloc (.cells #[.slice none 0 0] 56)) (.cells #[.map (some bm)] 78) (w.heap.size + 1) (by simp)).trans h1
    exact (hb23.block _ (by omega)).trans ((HB2.out.block _ (by omega)).trans h2)
  have hbox0 : (W2.alloc (Obj.cells #[Value.slice Av ss.length cv] 41)).heap[w.heap.size]? = some (.cells #[.map (some bm)] 78 (0, 0)) := by
    have h1 := heap_alloc_new w (.cells #[.map (some bm)] 78)
    have h2 := (Below.heap_alloc (w.alloc (.cells #[.map (some bm)] 78)) (.cells #[.slice none 0 0] 56) w.heap.size (by simp)).trans h1
    have h3 := (Below.heap_alloc ((w.alloc (.cells #[.map (some bm)] 78)).alloc (.cells #[.slice none 0 0] 56)) (.cells #[.map (some bm)] 78) w.heap.size (by simp; omega)).trans h2
    exact (hb23.block _ (by omega)).trans ((HB2.out.block _ (by omega)).trans h3)
  have hL0 : Li W2.heap.size B0 bm n F w [] (W2.alloc (Obj.cells #[Value.slice Av ss.length cv] 41)) := ⟨⟨_, hbox1, OwnRow.none_ _ _ _ _ _⟩, hbox0, (HF.out.below hbw2).below hb23, below_then hbw2 (by omega) hb23, by omega⟩
  have HL0 := Aside0.mk hL0
  have HSQ := Aside0.mk hseq
  clear hL0 hbox0 hbox1 hseq hIX hrow hsort hb23 hbw2
  have hsq := HSQ.out
  have hli := HL0.out
  rw [hlen] at hsq hli ⊢
  refine wpIn_rangeFunc_ownG (Kp := KpX W2.heap.size (w.heap.size + 1)) (w0 := W2.alloc (Obj.cells #[Value.slice Av F.length cv] 41)) rfl h1 (gf := 57) (lb := #[.pointer (some ⟨W2.heap.size, 0, none⟩)]) rfl trivial (enters_of Try.func57 (by kernel_rfl) rfl) hsq (fun h k => kpX_t h k) (fun Wd l o o' hl ho hc hw' => ⟨KpS.of_below (belowK_b (w := W2.alloc (Obj.cells #[Value.slice Av F.length cv] 41)) (by rw [World.size_alloc]; exact Nat.le_succ _) Wd l o o' hl ho hc hw'), KeepsWalks.putObj _ ho hw'⟩) (Below.refl _ _) (fun _ => rfl)
    (Li W2.heap.size B0 bm n F w) (fun _ _ _ => False) (Li.own hw (by rw [World.size_alloc]; omega)) (fun _ _ _ _ _ hs _ _ => hs) hli
    (fun x => { tmps := #[.map (some bm), .pointer (some ⟨w.heap.size, 0, none⟩), .slice none 0 0, .pointer (some ⟨w.heap.size + 1, 0, none⟩), .int .i64 (numOf x), .map (some bm), .func (.func 60) #[] #[.pointer (some ⟨w.heap.size + 1 + 1, 0, none⟩)], .slice Av F.length cv, .func (.func 57) #[] #[.pointer (some ⟨W2.heap.size, 0, none⟩)], .int .i64 (numOf x), undef, undef, undef, undef, undef, undef, undef, undef, undef, undef], defers := [] }) ?assign ?body ?done ?stop
  case assign =>
    intro l x W K hK
    gi_wp2
    exact hK
  case body =>
    rintro l pre x W hI hlt
    obtain ⟨v0, hv0, hr0⟩ := hI.out
    obtain ⟨A0, c0, rfl, hc0⟩ := OwnRow.slice_ hr0
    have hwf : (Lit.int .i64 (numOf x)).wf = true := WalkArith.wf_i64 (by have := hno x.val x.2; unfold numOf; omega)
    obtain ⟨vx, hrun, hvx⟩ := files_get (hI.files.below (below_drew (Below.refl _ _))) x hwf
    obtain ⟨Ax, cx, rfl, hcx, hCx⟩ := hvx.len
    have hpl : (pre.map Subtype.val).length = pre.length := by simp
    have hpl1 : (pre.map Subtype.val ++ [x.val]).length = pre.length + 1 := by simp
    have hplt : pre.length < 1000000 := by rw [List.length_attach] at hlt; omega
    rw [hpl] at hv0 hc0 hr0
    have hnb : w.heap.size + 2 ≤ W2.heap.size := by omega
    have HI := Aside0.mk hI
    have HR0 := Aside0.mk hr0
    have HV0 := Aside0.mk hv0
    have HCX := Aside0.mk hCx
    have y1 := hv0.cell
    have y0 := hI.box.cell
    have HVC : Aside0 (slices_Clone_byte_byte.f x.val.f1 = some x.val.f1) := ⟨by unfold slices_Clone_byte_byte.f; rw [if_pos (by have := hL x.val x.2; omega)]⟩
    clear hI hr0 hv0 hCx hvx
    gi_wp2
    refine regionIn_of_held (S := fun W' : World => W'.cell? ⟨w.heap.size, 0, none⟩ = some (.map (some bm))) (by kernel_rfl) ?hnd ?hQ y0 (fun hHeld => ?go)
    case hnd =>
      intro i o c ho hd
      have hm := Array.mem_of_getElem? ho
      simp only [List.mem_toArray, List.mem_cons, List.not_mem_nil, or_false] at hm
      rcases hm with rfl | rfl | rfl | rfl | rfl | rfl | rfl | rfl | rfl | rfl <;> cases hd
    case hQ =>
      rintro ⟨a, w', h⟩
      exact h
    case go =>
      refine wpAnyH_take (i := 1) (v := .int .i64 (numOf x)) rfl (by kernel_rfl) (by kernel_rfl) (by kernel_rfl) (fun _ _ _ h => h) (Or.inl ⟨by rfl, ?_⟩) (by assumption) ?_
      · intro w' hSw
        (try dsimp only at hSw)
        go_simp
      try simp only [Act.put, List.setIfInBounds_toArray, List.set_cons_zero, List.set_cons_succ]
      refine wpAnyH_take (i := 2) (v := .map (some bm)) rfl (by kernel_rfl) (by kernel_rfl) (by kernel_rfl) (fun _ _ _ h => h) (Or.inl ⟨by rfl, ?_⟩) (by assumption) ?_
      · intro w' hSw
        (try dsimp only at hSw)
        go_simp
      try simp only [Act.put, List.setIfInBounds_toArray, List.set_cons_zero, List.set_cons_succ]
      refine wpAnyH_take (i := 3) (v := .int .i64 (numOf x)) rfl (by kernel_rfl) (by kernel_rfl) (by kernel_rfl) (fun _ _ _ h => h) (Or.inl ⟨by rfl, ?_⟩) (by assumption) ?_
      · intro w' hSw
        (try dsimp only at hSw)
        go_simp
      try simp only [Act.put, List.setIfInBounds_toArray, List.set_cons_zero, List.set_cons_succ]
      refine wpAnyH_ready (rs := [0, 4]) (by kernel_rfl) (by simp) ?_
      refine AllReadyH.cons rfl (fun K hK => ?_) (AllReadyH.cons rfl (fun K hK => ?_) AllReadyH.nil)
      · go_simp
        refine hK.out _ _ ?_ (fun hHeld => ?_)
        · exact y0
        clear hK K
        refine wpAnyH_ready (rs := [4]) (by kernel_rfl) (by simp) ?_
        refine AllReadyH.cons rfl (fun K hK => ?_) AllReadyH.nil
        go_simp
        refine hK.out _ _ ?_ (fun hHeld => ?_)
        · exact y0
        clear hK K
        refine wpAnyH_ready (rs := [5]) (by kernel_rfl) (by simp) ?_
        refine AllReadyH.cons rfl (fun K hK => ?_) AllReadyH.nil
        go_simp
        go_wp2_with (first | (go_at_call 46; (with_reducible refine (slices_Clone_byte_byte.calls Ax cx x.val.f1 x.val.f1 _ ?_ hcx HVC.out).mono ?_); (focus (exact HCX.out)); rintro e w1 ⟨v1, rfl, hr1, hb1⟩; obtain ⟨A1, c1, rfl⟩ := Kd.R_slice hr1; have HB1 := Aside0.mk (below_then (below_drew (Below.refl W.heap.size W)) (Nat.le_refl _) hb1); have HD1 := Aside0.mk (DatV.of_R (B0 := B0) hr1); clear hr1 hb1; have HR1 := Aside0.mk (Ro77.below HR0.out HB1.out); have q0 := pw_cell_below HB1.out y0; have z1 := pw_cell_below HB1.out y1; have q0a := pw_cell_below (below_alloc HB1.out (Obj.cells #[.int .i64 (numOf x), .slice A1 x.val.f1.length c1] 77)) y0; have z1a := pw_cell_below (below_alloc HB1.out (Obj.cells #[.int .i64 (numOf x), .slice A1 x.val.f1.length c1] 77)) y1))
        refine hK.out _ _ ?_ (fun hHeld => ?_)
        · exact q0
        clear hK K
        refine wpAnyH_take (i := 6) (v := .agg #[.int .i64 (numOf x), .slice A1 x.val.f1.length c1]) rfl (by kernel_rfl) (by kernel_rfl) (by kernel_rfl) (fun _ _ _ h => h) (Or.inl ⟨by rfl, ?_⟩) (by assumption) ?_
        · intro w' hSw
          (try dsimp only at hSw)
          go_simp
        try simp only [Act.put, List.setIfInBounds_toArray, List.set_cons_zero, List.set_cons_succ]
        refine wpAnyH_ready (rs := [7]) (by kernel_rfl) (by simp) ?_
        refine AllReadyH.cons rfl (fun K hK => ?_) AllReadyH.nil
        go_simp
        refine hK.out _ _ ?_ (fun hHeld => ?_)
        · exact q0a
        clear hK K
        refine wpAnyH_ready (rs := [8]) (by kernel_rfl) (by simp) ?_
        refine AllReadyH.cons rfl (fun K hK => ?_) AllReadyH.nil
        refine OwnRow.append_step (R := E77 B0 w1) (w0 := w1) W2.heap.size (by simp [Region.wanted]) (.tmp 10) (.tmp 17) 56 77 _ 2 32 rfl Try.underlying56 info77 (by decide) (by decide) (by decide) (.slice A0 pre.length c0) (pre.map Subtype.val) x.val [.int .i64 (numOf x), .slice A1 x.val.f1.length c1] (by first | rfl | (simp [Act.eval, Act.put]; done)) (by first | rfl | (simp [Act.eval, Act.put]; done)) ⟨_, rfl, HD1.out⟩ rfl (by simp [Value.oneCell']) HR1.out (Below.refl _ _) (Nat.le_trans HI.out.lt HB1.out.size) (by omega) ?_
        intro v5 w5 hr5 hb5 hg5 hat5
        obtain ⟨A5, c5, rfl, hc5⟩ := OwnRow.slice_ hr5
        rw [hpl1] at hr5
        have HO5 := Aside0.mk hr5
        have HG5 := Aside0.mk hg5
        have h55 := round_cells HI.out hnb HV0.out HR0.out HB1.out HG5.out
        have q5 := h55.1
        have z5 := h55.2.1
        have f5 := h55.2.2
        clear hr5 hg5 hat5 hb5 h55
        simp only [hpl1]
        refine hK.out _ _ ?_ (fun hHeld => ?_)
        · exact q5
        clear hK K
        refine wpAnyH_ready (rs := [9]) (by kernel_rfl) (by simp) ?_
        refine AllReadyH.cons rfl (fun K hK => ?_) AllReadyH.nil
        go_simp
        refine hK.out _ _ ?_ (fun hHeld => ?_)
        · exact (World.cell?_setCell_far _ _ _ _ (by simp)).trans q5
        clear hK K
        refine wpAnyH_done (by kernel_rfl) ?_ _
        exact list_round HI.out hw hnb HV0.out HR0.out HB1.out HO5.out HG5.out
      · go_simp
        refine hK.out _ _ ?_ (fun hHeld => ?_)
        · exact y0
        clear hK K
        refine wpAnyH_ready (rs := [0, 5]) (by kernel_rfl) (by simp) ?_
        refine AllReadyH.cons rfl (fun K hK => ?_) (AllReadyH.cons rfl (fun K hK => ?_) AllReadyH.nil)
        · go_simp
          refine hK.out _ _ ?_ (fun hHeld => ?_)
          · exact y0
          clear hK K
          refine wpAnyH_ready (rs := [5]) (by kernel_rfl) (by simp) ?_
          refine AllReadyH.cons rfl (fun K hK => ?_) AllReadyH.nil
          go_simp
          go_wp2_with (first | (go_at_call 46; (with_reducible refine (slices_Clone_byte_byte.calls Ax cx x.val.f1 x.val.f1 _ ?_ hcx HVC.out).mono ?_); (focus (exact HCX.out)); rintro e w1 ⟨v1, rfl, hr1, hb1⟩; obtain ⟨A1, c1, rfl⟩ := Kd.R_slice hr1; have HB1 := Aside0.mk (below_then (below_drew (Below.refl W.heap.size W)) (Nat.le_refl _) hb1); have HD1 := Aside0.mk (DatV.of_R (B0 := B0) hr1); clear hr1 hb1; have HR1 := Aside0.mk (Ro77.below HR0.out HB1.out); have q0 := pw_cell_below HB1.out y0; have z1 := pw_cell_below HB1.out y1; have q0a := pw_cell_below (below_alloc HB1.out (Obj.cells #[.int .i64 (numOf x), .slice A1 x.val.f1.length c1] 77)) y0; have z1a := pw_cell_below (below_alloc HB1.out (Obj.cells #[.int .i64 (numOf x), .slice A1 x.val.f1.length c1] 77)) y1))
          refine hK.out _ _ ?_ (fun hHeld => ?_)
          · exact q0
          clear hK K
          refine wpAnyH_take (i := 6) (v := .agg #[.int .i64 (numOf x), .slice A1 x.val.f1.length c1]) rfl (by kernel_rfl) (by kernel_rfl) (by kernel_rfl) (fun _ _ _ h => h) (Or.inl ⟨by rfl, ?_⟩) (by assumption) ?_
          · intro w' hSw
            (try dsimp only at hSw)
            go_simp
          try simp only [Act.put, List.setIfInBounds_toArray, List.set_cons_zero, List.set_cons_succ]
          refine wpAnyH_ready (rs := [7]) (by kernel_rfl) (by simp) ?_
          refine AllReadyH.cons rfl (fun K hK => ?_) AllReadyH.nil
          go_simp
          refine hK.out _ _ ?_ (fun hHeld => ?_)
          · exact q0a
          clear hK K
          refine wpAnyH_ready (rs := [8]) (by kernel_rfl) (by simp) ?_
          refine AllReadyH.cons rfl (fun K hK => ?_) AllReadyH.nil
          refine OwnRow.append_step (R := E77 B0 w1) (w0 := w1) W2.heap.size (by simp [Region.wanted]) (.tmp 10) (.tmp 17) 56 77 _ 2 32 rfl Try.underlying56 info77 (by decide) (by decide) (by decide) (.slice A0 pre.length c0) (pre.map Subtype.val) x.val [.int .i64 (numOf x), .slice A1 x.val.f1.length c1] (by first | rfl | (simp [Act.eval, Act.put]; done)) (by first | rfl | (simp [Act.eval, Act.put]; done)) ⟨_, rfl, HD1.out⟩ rfl (by simp [Value.oneCell']) HR1.out (Below.refl _ _) (Nat.le_trans HI.out.lt HB1.out.size) (by omega) ?_
          intro v5 w5 hr5 hb5 hg5 hat5
          obtain ⟨A5, c5, rfl, hc5⟩ := OwnRow.slice_ hr5
          rw [hpl1] at hr5
          have HO5 := Aside0.mk hr5
          have HG5 := Aside0.mk hg5
          have h55 := round_cells HI.out hnb HV0.out HR0.out HB1.out HG5.out
          have q5 := h55.1
          have z5 := h55.2.1
          have f5 := h55.2.2
          clear hr5 hg5 hat5 hb5 h55
          simp only [hpl1]
          refine hK.out _ _ ?_ (fun hHeld => ?_)
          · exact q5
          clear hK K
          refine wpAnyH_ready (rs := [9]) (by kernel_rfl) (by simp) ?_
          refine AllReadyH.cons rfl (fun K hK => ?_) AllReadyH.nil
          go_simp
          refine hK.out _ _ ?_ (fun hHeld => ?_)
          · exact (World.cell?_setCell_far _ _ _ _ (by simp)).trans q5
          clear hK K
          refine wpAnyH_done (by kernel_rfl) ?_ _
          exact list_round HI.out hw hnb HV0.out HR0.out HB1.out HO5.out HG5.out
        · go_simp
          go_wp2_with (first | (go_at_call 46; (with_reducible refine (slices_Clone_byte_byte.calls Ax cx x.val.f1 x.val.f1 _ ?_ hcx HVC.out).mono ?_); (focus (exact HCX.out)); rintro e w1 ⟨v1, rfl, hr1, hb1⟩; obtain ⟨A1, c1, rfl⟩ := Kd.R_slice hr1; have HB1 := Aside0.mk (below_then (below_drew (Below.refl W.heap.size W)) (Nat.le_refl _) hb1); have HD1 := Aside0.mk (DatV.of_R (B0 := B0) hr1); clear hr1 hb1; have HR1 := Aside0.mk (Ro77.below HR0.out HB1.out); have q0 := pw_cell_below HB1.out y0; have z1 := pw_cell_below HB1.out y1; have q0a := pw_cell_below (below_alloc HB1.out (Obj.cells #[.int .i64 (numOf x), .slice A1 x.val.f1.length c1] 77)) y0; have z1a := pw_cell_below (below_alloc HB1.out (Obj.cells #[.int .i64 (numOf x), .slice A1 x.val.f1.length c1] 77)) y1))
          refine hK.out _ _ ?_ (fun hHeld => ?_)
          · exact q0
          clear hK K
          refine wpAnyH_take (i := 6) (v := .agg #[.int .i64 (numOf x), .slice A1 x.val.f1.length c1]) rfl (by kernel_rfl) (by kernel_rfl) (by kernel_rfl) (fun _ _ _ h => h) (Or.inl ⟨by rfl, ?_⟩) (by assumption) ?_
          · intro w' hSw
            (try dsimp only at hSw)
            go_simp
          try simp only [Act.put, List.setIfInBounds_toArray, List.set_cons_zero, List.set_cons_succ]
          refine wpAnyH_ready (rs := [0, 7]) (by kernel_rfl) (by simp) ?_
          refine AllReadyH.cons rfl (fun K hK => ?_) (AllReadyH.cons rfl (fun K hK => ?_) AllReadyH.nil)
          · go_simp
            refine hK.out _ _ ?_ (fun hHeld => ?_)
            · exact q0
            clear hK K
            refine wpAnyH_ready (rs := [7]) (by kernel_rfl) (by simp) ?_
            refine AllReadyH.cons rfl (fun K hK => ?_) AllReadyH.nil
            go_simp
            refine hK.out _ _ ?_ (fun hHeld => ?_)
            · exact q0a
            clear hK K
            refine wpAnyH_ready (rs := [8]) (by kernel_rfl) (by simp) ?_
            refine AllReadyH.cons rfl (fun K hK => ?_) AllReadyH.nil
            refine OwnRow.append_step (R := E77 B0 w1) (w0 := w1) W2.heap.size (by simp [Region.wanted]) (.tmp 10) (.tmp 17) 56 77 _ 2 32 rfl Try.underlying56 info77 (by decide) (by decide) (by decide) (.slice A0 pre.length c0) (pre.map Subtype.val) x.val [.int .i64 (numOf x), .slice A1 x.val.f1.length c1] (by first | rfl | (simp [Act.eval, Act.put]; done)) (by first | rfl | (simp [Act.eval, Act.put]; done)) ⟨_, rfl, HD1.out⟩ rfl (by simp [Value.oneCell']) HR1.out (Below.refl _ _) (Nat.le_trans HI.out.lt HB1.out.size) (by omega) ?_
            intro v5 w5 hr5 hb5 hg5 hat5
            obtain ⟨A5, c5, rfl, hc5⟩ := OwnRow.slice_ hr5
            rw [hpl1] at hr5
            have HO5 := Aside0.mk hr5
            have HG5 := Aside0.mk hg5
            have h55 := round_cells HI.out hnb HV0.out HR0.out HB1.out HG5.out
            have q5 := h55.1
            have z5 := h55.2.1
            have f5 := h55.2.2
            clear hr5 hg5 hat5 hb5 h55
            simp only [hpl1]
            refine hK.out _ _ ?_ (fun hHeld => ?_)
            · exact q5
            clear hK K
            refine wpAnyH_ready (rs := [9]) (by kernel_rfl) (by simp) ?_
            refine AllReadyH.cons rfl (fun K hK => ?_) AllReadyH.nil
            go_simp
            refine hK.out _ _ ?_ (fun hHeld => ?_)
            · exact (World.cell?_setCell_far _ _ _ _ (by simp)).trans q5
            clear hK K
            refine wpAnyH_done (by kernel_rfl) ?_ _
            exact list_round HI.out hw hnb HV0.out HR0.out HB1.out HO5.out HG5.out
          · go_simp
            refine hK.out _ _ ?_ (fun hHeld => ?_)
            · exact q0a
            clear hK K
            refine wpAnyH_ready (rs := [0]) (by kernel_rfl) (by simp) ?_
            refine AllReadyH.cons rfl (fun K hK => ?_) AllReadyH.nil
            go_simp
            refine hK.out _ _ ?_ (fun hHeld => ?_)
            · exact q0a
            clear hK K
            refine wpAnyH_ready (rs := [8]) (by kernel_rfl) (by simp) ?_
            refine AllReadyH.cons rfl (fun K hK => ?_) AllReadyH.nil
            refine OwnRow.append_step (R := E77 B0 w1) (w0 := w1) W2.heap.size (by simp [Region.wanted]) (.tmp 10) (.tmp 17) 56 77 _ 2 32 rfl Try.underlying56 info77 (by decide) (by decide) (by decide) (.slice A0 pre.length c0) (pre.map Subtype.val) x.val [.int .i64 (numOf x), .slice A1 x.val.f1.length c1] (by first | rfl | (simp [Act.eval, Act.put]; done)) (by first | rfl | (simp [Act.eval, Act.put]; done)) ⟨_, rfl, HD1.out⟩ rfl (by simp [Value.oneCell']) HR1.out (Below.refl _ _) (Nat.le_trans HI.out.lt HB1.out.size) (by omega) ?_
            intro v5 w5 hr5 hb5 hg5 hat5
            obtain ⟨A5, c5, rfl, hc5⟩ := OwnRow.slice_ hr5
            rw [hpl1] at hr5
            have HO5 := Aside0.mk hr5
            have HG5 := Aside0.mk hg5
            have h55 := round_cells HI.out hnb HV0.out HR0.out HB1.out HG5.out
            have q5 := h55.1
            have z5 := h55.2.1
            have f5 := h55.2.2
            clear hr5 hg5 hat5 hb5 h55
            simp only [hpl1]
            refine hK.out _ _ ?_ (fun hHeld => ?_)
            · exact q5
            clear hK K
            refine wpAnyH_ready (rs := [9]) (by kernel_rfl) (by simp) ?_
            refine AllReadyH.cons rfl (fun K hK => ?_) AllReadyH.nil
            go_simp
            refine hK.out _ _ ?_ (fun hHeld => ?_)
            · exact (World.cell?_setCell_far _ _ _ _ (by simp)).trans q5
            clear hK K
            refine wpAnyH_done (by kernel_rfl) ?_ _
            exact list_round HI.out hw hnb HV0.out HR0.out HB1.out HO5.out HG5.out
  case done =>
    rintro Dd ys W hD rfl hI hK
    obtain ⟨v, hv, hrw⟩ := hI.out
    have hc := hv.cell
    obtain ⟨A9, c9, rfl, _⟩ := OwnRow.slice_ hrw
    gi_wp2
    refine ⟨by simp, .inl ⟨_, _, rfl, run_takeDeferred hK, ?_⟩⟩
    have hkp : Kpt (fun k => k = Dd) W (W.putObj Dd (.deferred none)) := .of_grown (grownBy_putObj' W Dd _) (fun k e => by injection e with e; exact e.symm)
    have hnt : ∀ t, ¬ Typ W t Dd := fun t => not_typ ⟨_, hK, rfl⟩
    have hDw : w.heap.size + 2 ≤ Dd := by rw [World.size_alloc] at hD; omega
    have hby : Byt B0 W (W.putObj Dd (.deferred none)) := .of_kpt hkp (fun k e => by subst e; exact ⟨by omega, not_b5 ⟨_, hK, rfl⟩⟩)
    have hrw2 := OwnRow.lower (base' := w.heap.size) (Ro77.moved hrw hby (fun k e => hkp.block k ((OwnRow.block hrw e).1.lt) (fun hs => hnt 77 (hs ▸ (OwnRow.block hrw e).1)))) (by omega)
    rw [List.attach_map_subtype_val] at hrw2
    exact ⟨_, results_tmp rfl _ _ _, .slice A9 F.length c9, rfl, hrw2, hkp.below hI.below hI.below.size (fun k e => by subst e; omega)⟩
  case stop =>
    rintro Dd c pre W _ _ h _
    exact h.elim
end Go.Proofs.Ytncmkcggkgahnaa.PDsk
