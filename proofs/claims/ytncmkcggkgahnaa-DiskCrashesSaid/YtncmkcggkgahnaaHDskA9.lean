-- By the session: contracts proved by hand.
import Derived.Test.YtncmkcggkgahnaaHDskA8
import Derived.RangeFuncBox
import Derived.RangeFuncWrites
import Derived.RangeFuncLeaves
import Derived.RangeFuncCalls
import Derived.Shelf.Abstract
import Derived.WalkKit
import Derived.OwnWalkIn
import Derived.TacticsInMore
import Derived.LoopNIn
import Derived.LoopIn
import Derived.OrdersIn
import Derived.RegionIn
import Derived.Deep.RegionHeld
import Derived.Deep.RegionHeldLaw
import Derived.Deep.RegionLaw
import Derived.Maps.AppendAt
import Derived.Maps.Own
import Derived.Maps.OwnOps
import Derived.Maps.OwnSet
import Derived.Maps.Views
import Derived.Lib.SliceRun
import Derived.Lib.SlBytesConst
namespace Go.Proofs.Ytncmkcggkgahnaa.PDsk
open Go.Maps
open Go.RowKit Go.Shelf Go.Sort Go.Proofs.YtncmkcggkgahnaaW.PrintWords Go.Proofs.YtncmkcggkgahnaaW.PrintLast Go.Proofs.YtncmkcggkgahnaaW.PrintMore
set_option linter.unusedVariables false
set_option linter.unusedSimpArgs false
/-! Files, View, the law's do: functions 27, 35, 26 -/
def NosF (F : List S77) : Prop := ∀ x, x ∈ F → 1 ≤ x.f0 ∧ x.f0 ≤ 4294967296
theorem nosF_do {F : List S77} {x : S83} (h : NosF F) (hx : OpOk x) : NosF (doF F x) := by
  have hp : ∀ xs : List Int, NosF (putF F x.f1 xs) := fun xs y hy => by
    rcases mem_putF hy with rfl | hy
    · exact ⟨hx.2.1, hx.2.2.1⟩
    · exact h y hy
  unfold doF
  split
  · split
    · exact h
    · exact hp []
  · split
    · split
      · exact hp _
      · exact h
    · split
      · exact fun y hy => h y (List.mem_filter.1 hy).1
      · exact h
theorem nosF_fold : ∀ {B : List S83} {F : List S77}, (∀ x, x ∈ B → OpOk x) → NosF F → NosF (B.foldl doF F)
  | [], F, _, h => h
  | x :: B, F, hb, h => nosF_fold (B := B) (fun y hy => hb y (List.mem_cons_of_mem _ hy)) (nosF_do h (hb x (List.mem_cons_self ..)))
theorem list_any (B0 bm n : Nat) (F : List S77) (w : World) (hF : FilesAt B0 w bm n F) (hB : B0 ≤ bm) (hn : n < 1000000) (hL : LenF F 1000000) (hno : NosF F) :
    Calls Try.prog 45 #[.map (some bm)] w fun e w' => ∃ v, e = .returned v ∧ Ro77 B0 w' w.heap.size v F ∧ Below w.heap.size w w' := callsIn_wide.1 (list_in 6 (Nat.le_refl _) B0 bm n F w hF hB hn hL hno)
theorem files_nil (w : World) : Calls Try.prog 27 #[.pointer none] w fun e w' => e = .returned (.slice none 0 0) ∧ Below w.heap.size w w' := by
  go_enter Try.func27, Try.ntmps27
  go_wp2
  go_ret
  exact ⟨rfl, Below.refl _ _⟩
theorem view_nil (w : World) : Calls Try.prog 35 #[.pointer none] w fun e w' => e = .returned (.slice none 0 0) ∧ Below w.heap.size w w' := by
  go_enter Try.func35, Try.ntmps35
  go_wp2
  go_ret
  exact ⟨rfl, Below.refl _ _⟩
set_option maxHeartbeats 1000000 in
theorem files_any (B0 : Nat) (p bm n : Nat) (bv : Value) (F : List S77) (B : List S83) (w : World) (h : DiskAt B0 w p bm n bv F B) (hn : n < 1000000) (hL : LenF F 1000000) (hno : NosF F) :
    Calls Try.prog 27 #[.pointer (some ⟨p, 0, none⟩)] w fun e w' => ∃ v, e = .returned v ∧ Ro77 B0 w' w.heap.size v F ∧ Below w.heap.size w w' := by
  have y0 : w.cell? ⟨p, 0, none⟩ = some (.map (some bm)) := blk_cell h.hp 0
  have HC := Aside0.mk (list_any B0 bm n F w h.files h.lo.2 hn hL hno)
  clear h
  go_enter Try.func27, Try.ntmps27
  go_wp2_with (first | (go_at_call 45; refine HC.out.mono ?_; rintro e w1 ⟨v, rfl, hr, hb⟩; obtain ⟨A, c, rfl, hc⟩ := OwnRow.slice_ hr; have HR := Aside0.mk hr; have HB := Aside0.mk hb; clear hr hb))
  go_ret
  exact ⟨_, rfl, HR.out, HB.out⟩
set_option maxHeartbeats 2000000 in
set_option maxRecDepth 100000 in
theorem view_any (B0 : Nat) (p bm n : Nat) (bv : Value) (F : List S77) (B : List S83) (w : World) (h : DiskAt B0 w p bm n bv F B) (hs : Sizes n F B) (hs2 : LenF F 80000) (hno : NosF F) :
    Calls Try.prog 35 #[.pointer (some ⟨p, 0, none⟩)] w fun e w' => ∃ v, e = .returned v ∧ Ro77 B0 w' w.heap.size v (B.foldl doF F) ∧ Below w.heap.size w w' := by
  obtain ⟨s1, s2, s3, s4⟩ := hs
  obtain ⟨A, c, e, hc, hr⟩ := Ro83.rd (bm := w.heap.size) h.row (fun k hk => by have := (h.ne.2.2.2.2.1 k hk).2.2; omega)
  subst e
  have y0 : w.cell? ⟨p, 0, none⟩ = some (.map (some bm)) := blk_cell h.hp 0
  have y1 : w.cell? ⟨p, 1, none⟩ = some (.slice A B.length c) := blk_cell h.hp 1
  have hB0 : B0 ≤ w.heap.size := by have := h.lo.1; have := h.ne.2.2.2.2.2.1; omega
  obtain ⟨D, hown, hmi⟩ := h.hm
  have HCl := Aside0.mk (AnyW.maps_Clone_owns YtncmkcggkgahnaaL.cloneA 3 RV bm n D w hown)
  have HMI := Aside0.mk hmi
  have HRD := Aside0.mk hr
  have hlf : LenF (B.foldl doF F) 1000000 := fun z hz => by
    have := lenF_fold s4 hs2 z hz
    omega
  have hnf := nosF_fold s4 hno
  clear h hown hmi hr
  go_enter Try.func35, Try.ntmps35
  go_wp2_with fail
  refine HCl.out.mono ?_
  rintro e w1 ⟨rfl, hown1, _, hb1⟩
  have hF1 : FilesAt B0 w1 w.heap.size n F := ⟨D, hown1, HMI.out.byt (.of_below hb1)⟩
  have hR1 := HRD.out.kept (Kpt.of_below hb1) (.of_below hb1)
  have z1 := pw_cell_below hb1 y1
  have HB1 := Aside0.mk hb1
  have HD := Aside0.mk (do_any B0 w.heap.size n F A c B w1 hF1 hB0 hR1 hc (by omega) 100000 (by omega) s3 s4 (by omega))
  clear hown1 hb1 hF1 hR1 y0 y1 HCl
  go_wp2_with fail
  refine HD.out.mono ?_
  rintro e w2 ⟨rfl, hF2, hk2⟩
  have HB2 := Aside0.mk (hk2.below HB1.out HB1.out.size (fun k e => by subst e; exact Nat.le_refl _))
  have HC := Aside0.mk (list_any B0 w.heap.size _ _ w2 hF2 hB0 (by omega) hlf hnf)
  clear hF2 hk2 z1 HD
  go_wp2_with fail
  refine HC.out.mono ?_
  rintro e w3 ⟨v, rfl, hr3, hb3⟩
  obtain ⟨A3, c3, rfl, hc3⟩ := OwnRow.slice_ hr3
  have HR := Aside0.mk (OwnRow.lower hr3 HB2.out.size)
  have HB := Aside0.mk (below_then HB2.out HB2.out.size hb3)
  clear hr3 hb3
  go_wp2
  go_ret
  exact ⟨_, rfl, HR.out, HB.out⟩
end Go.Proofs.Ytncmkcggkgahnaa.PDsk
