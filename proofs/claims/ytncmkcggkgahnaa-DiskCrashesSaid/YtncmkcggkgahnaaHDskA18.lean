-- By the session: contracts proved by hand.
import Derived.Test.YtncmkcggkgahnaaHDskA17
import Derived.RangeFuncBox
import Derived.RangeFuncWrites
import Derived.RangeFuncLeaves
import Derived.RangeFuncCalls
import Derived.Shelf.Abstract
import Derived.WalkKit
import Derived.OwnWalkIn
import Derived.TacticsInMore
import Derived.LoopNIn
import Derived.LoopIn
import Derived.OrdersIn
import Derived.RegionIn
import Derived.Deep.RegionHeld
import Derived.Deep.RegionHeldLaw
import Derived.Deep.RegionLaw
import Derived.Maps.AppendAt
import Derived.Maps.Own
import Derived.Maps.OwnOps
import Derived.Maps.OwnSet
import Derived.Maps.Views
import Derived.Lib.SliceRun
import Derived.Lib.SlBytesConst
namespace Go.Proofs.Ytncmkcggkgahnaa.PDsk
open Go.Maps
open Go.RowKit Go.Shelf Go.Sort Go.Proofs.YtncmkcggkgahnaaW.PrintWords Go.Proofs.YtncmkcggkgahnaaW.PrintLast Go.Proofs.YtncmkcggkgahnaaW.PrintMore
set_option linter.unusedVariables false
set_option linter.unusedSimpArgs false
set_option maxHeartbeats 4000000 in
set_option maxRecDepth 100000 in
theorem refdo_sync (B0 p : Nat) (fv bv : Value) (F : List S77) (B : List S83) (s : S55) (v : Value) (w : World) (h : RefAt B0 w p fv bv F B) (hv : DatV B0 w v s.f3) (hk : s.f0 = 4) (hri : F.Pairwise (fun a b => a.f0 < b.f0)) (hok : ∀ x, x ∈ B → OpOk x) (hL : LenF F 100000) (hll : F.length + B.length < 1000) :
    Calls Try.prog 32 #[.pointer (some ⟨p, 0, none⟩), .agg #[.int .i64 s.f0, .int .i64 s.f1, .int .i64 s.f2, v]] w (RefPost B0 p bv (stepF F B s) (stepB B s) w) := by
  obtain ⟨A, c, rfl, hc, hC⟩ := hv.len
  have hf : stepF F B s = B.foldl doF F := by unfold stepF; rw [if_pos hk]
  have hb : stepB B s = [] := by unfold stepB; rw [hk]; simp
  rw [hf, hb, hk]
  clear hf hb
  obtain ⟨W1, hW1⟩ : ∃ W1, w.alloc (Obj.cells #[.int .i64 4, .int .i64 s.f1, .int .i64 s.f2, .slice A s.f3.length c] 55) = W1 := ⟨_, rfl⟩
  have hb1 : Below w.heap.size w W1 := hW1 ▸ below_alloc (Below.refl _ _) _
  have hbx : W1.heap[w.heap.size]? = some (.cells #[.int .i64 4, .int .i64 s.f1, .int .i64 s.f2, .slice A s.f3.length c] 55 (0, 0)) := hW1 ▸ heap_alloc_new w _
  have h1 := h.below (hb1.trans (below_drew (Below.refl _ _)))
  obtain ⟨A', c', e', hc', hr'⟩ := Ro83.rd (bm := p) h1.row (fun k hk => (h1.ne.2.1 k hk).1)
  have hpl := h.ne.2.2.2
  have hBW : B0 ≤ W1.drew.heap.size := Nat.le_trans h1.lo (Nat.le_of_lt h1.ne.2.2.2)
  have HC := Aside0.mk (all_any B0 B0 p fv F A' c' B W1.drew (Nat.le_refl _) hBW h1.f hr' hc' hri hok hL hll)
  have y0 : W1.cell? ⟨p, 0, none⟩ = some fv := pw_cell_below hb1 (blk_cell h.hp 0)
  have y1 : W1.cell? ⟨p, 1, none⟩ = some (.slice A' B.length c') := e' ▸ pw_cell_below hb1 (blk_cell h.hp 1)
  have b0 : W1.cell? ⟨w.heap.size, 0, none⟩ = some (.int .i64 4) := blk_cell hbx 0
  have HA := Aside0.mk h
  have HB1 := Aside0.mk hb1
  have HBX := Aside0.mk hbx
  have HE := Aside0.mk e'
  clear h hv hC h1 hr' hri hok hL hk hbx hb1 e'
  have f5 : ((4 : Int) != 5) = true := rfl
  go_enter Try.func32, Try.ntmps32
  go_upto_region 7 with (rw [hW1])
  go_region_law (first
    | (go_simp; go_at_call 31; (with_reducible refine HC.out.mono ?_); rintro e w2 ⟨v2, rfl, hr2, hb2⟩; obtain ⟨A9, c9, hv9, hc9⟩ := OwnRow.slice_ hr2; obtain ⟨n9, hn9⟩ : ∃ n9, (B.foldl doF F).length = n9 := ⟨_, rfl⟩; rw [hn9] at hv9; clear hn9 hc9; subst hv9; have HBW := Aside0.mk (below_then (below_drew HB1.out) HB1.out.size hb2); have HS := Aside0.mk (RefAt.setF HA.out HBW.out hr2); have hp2 := (HBW.out.block p hpl).trans HA.out.hp; have HBX2 := Aside0.mk ((hb2.block w.heap.size (blk_lt HBX.out)).trans HBX.out); have z0 := blk_cell hp2 0; have g0 := blk_frozen hp2 0; clear hr2 hb2 hp2)
    | fail)
  all_goals
    have hp3 := HS.out.1.hp
    have z1 := blk_cell hp3 1
    have g1 := blk_frozen hp3 1
    have HS2 := Aside0.mk HS.out.1.setB0
    have b5 := (World.cell?_setCell_far (w2.setCell ⟨p, 0, none⟩ (.slice A9 n9 c9)) ⟨p, 1, none⟩ ⟨w.heap.size, 0, none⟩ (.slice none 0 0) (by simp; omega)).trans ((World.cell?_setCell_far w2 ⟨p, 0, none⟩ ⟨w.heap.size, 0, none⟩ (.slice A9 n9 c9) (by simp; omega)).trans (blk_cell HBX2.out 0))
    clear hp3
    go_wp2_with fail
    go_end0
    exact ⟨_, _, rfl, HS2.out.1, HS.out.2.trans HS2.out.2, fun k hk => (own_nil_slice hk).elim⟩
end Go.Proofs.Ytncmkcggkgahnaa.PDsk
