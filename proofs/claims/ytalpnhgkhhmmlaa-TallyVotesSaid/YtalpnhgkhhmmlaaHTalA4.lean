-- By the session: contracts proved by hand.
import Derived.Test.YtalpnhgkhhmmlaaHTalA3
import Derived.Test.YtalpnhgkhhmmlaaHTIter
import Derived.RegionTactic
import Derived.ChangeAlike
import Derived.StillTailTactics
import Derived.Shelf.SlMaps.DeleteFunc
import Derived.Shelf.Abstract
import Derived.Maps.Own
import Derived.Maps.OwnOps
import Derived.Maps.OwnSet
import Derived.Maps.Views
import Derived.Lib.Hide
import Derived.Laws.BitsAllLaws
namespace Go.Proofs.Ytalpnhgkhhmmlaa.PTal
open Go.Maps
open Go.RowKit Go.Shelf Go.Proofs.YtalpnhgkhhmmlaaW.PrintWords Go.Proofs.YtalpnhgkhhmmlaaW.PrintLast Go.Proofs.YtalpnhgkhhmmlaaW.PrintMore
set_option linter.unusedVariables false
set_option linter.unusedSimpArgs false
/-! Drop, Open: functions 27, 42, 30 -/
attribute [local go_sem] max2_int min2_int max_two min_two max_three min_three max_four min_four
def pdUp (i : Int) (kl : Lit) (_ : DataW Unit) : Bool := match kl with
  | .int _ k => decide (k ≤ i)
  | _ => false
set_option maxHeartbeats 1000000 in
theorem closure42 (k : Int) (v : Value) (i : Int) (a : Addr) (W : World) (hx : W.cell? a = some (.int .i64 i)) :
    Calls Try.prog 42 (#[.int .i64 k, v] ++ #[.pointer (some a)]) W fun e w' => e = .returned (.bool (decide (k ≤ i))) ∧ w' = W := by
  go_enter Try.func42, Try.ntmps42
  go_wp2
  go_ret
  exact ⟨rfl, rfl⟩
theorem del_any (bm n i : Int) : True := trivial
theorem delete_calls (bm n : Nat) (i : Int) (D : DataW Unit) (a : Addr) (W : World) (hown : W.ownsMap Try.prog 3 MapR bm n D) (hx : W.cell? a = some (.int .i64 i)) (hne : a.block ≠ bm) :
    Calls Try.prog 41 #[.map (some bm), .func (.func 42) #[] #[.pointer (some a)]] W fun e w' => e = .returned (.tuple #[]) ∧ w'.ownsMap Try.prog 3 MapR bm n (Lib.deleteFuncD (pdUp i) D) ∧ W.grownBy w' (some bm) :=
  AnyDf.maps_DeleteFunc YtalpnhgkhhmmlaaL.delA law3 MapR (pdUp i) 42 #[.pointer (some a)] bm n D W (enters_of Try.func42 (by kernel_rfl) rfl) hown (fun W' key val kl yd yp hg hk hv => by
    obtain ⟨x, rfl, rfl, _⟩ := Maps.keyOf_i64 Try.underlying3 hk
    refine (closure42 x val i a W' ((hg.cell_far a (World.block_lt_of_cell? W a hx) (fun e => hne (by injection e))).trans hx)).mono fun e w' ⟨he, hw⟩ => ⟨he, hw ▸ World.grownBy.refl _ _⟩)
set_option maxHeartbeats 4000000 in
set_option maxRecDepth 100000 in
theorem drop_nil (i : Int) (w : World) : Calls Try.prog 27 #[.pointer none, .int .i64 i] w fun e w' => e = .returned (.tuple #[]) ∧ Below w.heap.size w w' := by
  go_enter Try.func27, Try.ntmps27
  go_wp2
  refine bodyPost_ret (results_none rfl _ _ _) rfl ?_
  exact ⟨rfl, below_alloc (Below.refl _ _) _⟩
set_option maxHeartbeats 4000000 in
set_option maxRecDepth 100000 in
theorem drop_any (p bm n : Nat) (r0 r1 low i : Int) (D : DataW Unit) (w : World) (h : TallyAt w p bm n r0 r1 low D) :
    Calls Try.prog 27 #[.pointer (some ⟨p, 0, none⟩), .int .i64 i] w fun e w' => e = .returned (.tuple #[]) ∧ TallyAt w' p bm n r0 r1 (mx low i) (Lib.deleteFuncD (pdUp i) D) ∧ Kpt (fun k => k = p ∨ k = bm) w w' := by
  obtain ⟨c0, c1, c2, c3⟩ := h.cells
  have hpl : p < w.heap.size := blk_lt h.hp
  have hfz : w.frozen? ⟨p, 3, none⟩ = false := blk_frozen h.hp 3
  have HA := Aside0.mk h
  have hpb := h.ne
  clear h
  go_enter Try.func27, Try.ntmps27
  go_wp2
  go_region
  obtain ⟨M, hM⟩ : ∃ M, (if low < i then i else low) = M := ⟨_, rfl⟩
  have HMX := Aside0.mk (show mx low i = M from hM)
  rw [hM]
  have hp1 : (w.setCell ⟨p, 3, none⟩ (.int .i64 M)).heap[p]? = some (.cells #[.int .i64 r0, .int .i64 r1, .map (some bm), .int .i64 M] 72 (0, 0)) := blk_put HA.out.hp 3 _ (by simp)
  have hk1 : Kpt (fun k => k = p ∨ k = bm) w (w.setCell ⟨p, 3, none⟩ (.int .i64 M)) := Kpt.set (a := ⟨p, 3, none⟩) (.inl rfl) _
  have hsz : (w.setCell ⟨p, 3, none⟩ (.int .i64 M)).heap.size = w.heap.size := by simp [World.setCell]
  have hmm : (w.setCell ⟨p, 3, none⟩ (.int .i64 M)).ownsMap Try.prog 3 MapR bm n D := HA.out.hm.setCell (a := ⟨p, 3, none⟩) (fun e => hpb e.symm) _
  obtain ⟨W1, hW1⟩ : ∃ W1, (w.setCell ⟨p, 3, none⟩ (.int .i64 M)) = W1 := ⟨_, rfl⟩
  rw [hW1] at hp1 hk1 hsz hmm ⊢
  have hbx : ((W1.alloc (Obj.cells #[Value.int IntKind.i64 i] 3)).drew).cell? ⟨w.heap.size, 0, none⟩ = some (.int .i64 i) := by
    have := blk_cell (heap_alloc_new W1 (Obj.cells #[Value.int IntKind.i64 i] 3)) 0
    rw [hsz] at this
    exact this
  have hp2 : ((W1.alloc (Obj.cells #[Value.int IntKind.i64 i] 3)).drew).heap[p]? = some (.cells #[.int .i64 r0, .int .i64 r1, .map (some bm), .int .i64 M] 72 (0, 0)) := (Below.heap_alloc W1 _ p (by omega)).trans hp1
  have hk2 : Kpt (fun k => k = p ∨ k = bm) w ((W1.alloc (Obj.cells #[Value.int IntKind.i64 i] 3)).drew) := hk1.trans ((Kpt.alloc _ _ _).trans (Kpt.drewN _ _ 1))
  have hm2 : ((W1.alloc (Obj.cells #[Value.int IntKind.i64 i] 3)).drew).ownsMap Try.prog 3 MapR bm n D := (hmm.alloc _).drew
  obtain ⟨W2, hW2⟩ : ∃ W2, (W1.alloc (Obj.cells #[Value.int IntKind.i64 i] 3)).drew = W2 := ⟨_, rfl⟩
  rw [hW2] at hbx hp2 hk2 hm2 ⊢
  have hbl := HA.out.hm.lt
  have hcD := Aside0.mk (delete_calls bm n i D ⟨w.heap.size, 0, none⟩ W2 hm2 hbx (by simp; omega))
  have HK2 := Aside0.mk hk2
  have HP2 := Aside0.mk hp2
  have d2 : W2.cell? ⟨p, 2, none⟩ = some (.map (some bm)) := blk_cell hp2 2
  clear c0 c1 c2 c3 hfz hp1 hk1 hsz hmm hW1 hW2 hk2 hm2 hbx hp2 hM
  go_wp2_with (go_at_call 41; refine hcD.out.mono ?_; rintro e w3 ⟨rfl, hown3, hg3⟩)
  go_end0
  rw [HMX.out]
  refine ⟨rfl, ⟨?_, hown3⟩, HK2.out.trans (Kpt.of_grown hg3 (fun k e => by cases e; exact .inr rfl))⟩
  exact (hg3.block p (blk_lt HP2.out) (fun e => hpb (by injection e))).trans HP2.out
/-! maps.Keys, Open -/
theorem intKeys_nodup {w : World} {bm n : Nat} {D : DataW Unit} (hown : w.ownsMap Try.prog 3 MapR bm n D) : (intKeys D).Nodup := by
  obtain ⟨es, hD, hpw, _⟩ := hown.entries law3
  obtain ⟨es', hD', hko⟩ := hown.keysOf
  obtain rfl : es = es' := by rw [hD] at hD'; simpa using hD'
  subst hD
  simp only [intKeys]
  refine List.pairwise_map.2 (hpw.imp_of_mem fun {p q} hp' hq' hne e => hne ?_)
  obtain ⟨v, hv⟩ := hko p hp'
  obtain ⟨u, hu⟩ := hko q hq'
  obtain ⟨a, _, ha, _⟩ := Maps.keyOf_i64 Try.underlying3 hv
  obtain ⟨b, _, hb, _⟩ := Maps.keyOf_i64 Try.underlying3 hu
  rw [ha, hb] at e ⊢
  exact congrArg _ e
theorem keys_stopsK (m bm n : Nat) (hm1 : 1 ≤ m) (Bm n₀ : Nat) (D : DataW Unit) (w : World) (hBm : Bm < w.heap.size) (hc : w.cell? ⟨Bm, 0, none⟩ = some (.map (some bm))) (hown : w.ownsMap Try.prog 3 MapR bm n D) :
    SeqStopsK Fence.wide m Try.prog 53 #[.pointer (some ⟨Bm, 0, none⟩)] (fun x : Int => #[Value.int .i64 x]) (KpB n₀) (fun ss => ss.Perm (intKeys D) ∧ ∀ x, x ∈ ss ↔ has D (.int .i64 x) = true) (fun pre => pre.Nodup ∧ ∀ x ∈ pre, has D (.int .i64 x) = true) (Maps.size D) w :=
  fun l J Jx W hW hJ hJx hY h0 => (AnyZI.keys_stops { YtalpnhgkhhmmlaaL.keysA with } Fence.wide m trivial rfl hm1 Bm bm n D w hBm hc hown) l J Jx W hW hJ hJx (fun pre x W1 hp hl => (hY pre x W1 hp hl).mono (fun e W' h => h.imp (fun h => ⟨h.1, h.2.1, h.2.2.2⟩) id)) h0
theorem keys_in44 (mb : Option Nat) (w : World) : Calls Try.prog 44 #[.map mb] w fun e w' => e = .returned (.func (.func 53) #[] #[.pointer (some ⟨w.heap.size, 0, none⟩)]) ∧ w' = w.alloc (.cells #[.map mb] 70) :=
  (callsIn_wide (n := 6)).1 (AnyZI.keys_in YtalpnhgkhhmmlaaL.keysA Fence.wide 6 trivial rfl mb w)
set_option maxHeartbeats 1000000 in
theorem open_nil (w : World) : Calls Try.prog 30 #[.pointer none] w fun e w' => e = .returned (.slice none 0 0) ∧ Below w.heap.size w w' := by
  go_enter Try.func30, Try.ntmps30
  go_wp2
  go_ret
  exact ⟨rfl, Below.refl _ _⟩
set_option maxHeartbeats 2000000 in
theorem open_any (p bm n : Nat) (r0 r1 low : Int) (D : DataW Unit) (w : World) (h : TallyAt w p bm n r0 r1 low D) (hn : n ≤ 1000000) :
    Calls Try.prog 30 #[.pointer (some ⟨p, 0, none⟩)] w fun e w' => ∃ (v : Value) (S : List Int), e = .returned v ∧ w'.ownsRow w.heap.size 3 1 v S.length (S.map (Value.int .i64)) ∧ S.length ≤ n ∧ S.Pairwise (· < ·) ∧ (∀ x, x ∈ S ↔ has D (.int .i64 x) = true) ∧ Below w.heap.size w w' := by
  obtain ⟨c0, c1, c2, c3⟩ := h.cells
  have hsz := h.hm.size_le
  have hnd := intKeys_nodup h.hm
  have hbx : Below w.heap.size w (w.alloc (.cells #[.map (some bm)] 70)) := below_alloc (Below.refl _ _) _
  have hT := h.below hbx
  have cS := (callsIn_wide (n := 6)).1 (sorted_in 6 (by omega) 53 #[.pointer (some ⟨w.heap.size, 0, none⟩)] (enters_of Try.func53 (by kernel_rfl) rfl) 0 _ _ (Maps.size D) (by omega) _ (w.alloc (.cells #[.map (some bm)] 70)) (by omega) (Below.refl _ _) (keys_stopsK 3 bm n (by omega) w.heap.size 0 D _ (by simp) (by simp) hT.hm))
  have HCS := Aside0.mk cS
  have HND := Aside0.mk hnd
  clear h hT cS hbx hnd
  go_enter Try.func30, Try.ntmps30
  go_wp2_with (first
    | (go_at_call 44; refine (keys_in44 _ _).mono ?_; rintro e w' ⟨rfl, rfl⟩)
    | (go_at_call 43; refine HCS.out.mono ?_; rintro e W ⟨v, ss, rfl, hS, hl, hrow, hb⟩; have HRO := Aside0.mk hrow; have HB := Aside0.mk (below_then (below_alloc (Below.refl w.heap.size w) (Obj.cells #[.map (some bm)] 70)) (by simp) hb); have HS := Aside0.mk hS; clear hS hrow hb))
  go_ret
  refine ⟨v, ss.mergeSort (fun x y => decide (x ≤ y)), rfl, ?_, by simp; omega, ?_, fun x => ?_, HB.out⟩
  · have := own_weaken HRO.out (base' := w.heap.size) (by simp)
    simpa using this
  · have hp := List.mergeSort_perm ss (fun x y => decide (x ≤ y))
    have hso : (ss.mergeSort fun x y => decide (x ≤ y)).Pairwise (fun x y => decide (x ≤ y) = true) := List.pairwise_mergeSort (fun a b c h1 h2 => by simp at *; omega) (fun a b => by simp; omega) ss
    have hnd2 : (ss.mergeSort fun x y => decide (x ≤ y)).Nodup := (hp.trans HS.out.1).nodup_iff.2 HND.out
    exact (List.pairwise_and_iff.2 ⟨hso, hnd2⟩).imp (fun ⟨h1, h2⟩ => by simp at h1; omega)
  · rw [(List.mergeSort_perm ss _).mem_iff, HS.out.2]
end Go.Proofs.Ytalpnhgkhhmmlaa.PTal
