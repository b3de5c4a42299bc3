-- By the session: contracts proved by hand.
import Derived.Test.YtncmkcggkgahnaaHDskA18
import Derived.RangeFuncBox
import Derived.RangeFuncWrites
import Derived.RangeFuncLeaves
import Derived.RangeFuncCalls
import Derived.Shelf.Abstract
import Derived.WalkKit
import Derived.OwnWalkIn
import Derived.TacticsInMore
import Derived.LoopNIn
import Derived.LoopIn
import Derived.OrdersIn
import Derived.RegionIn
import Derived.Deep.RegionHeld
import Derived.Deep.RegionHeldLaw
import Derived.Deep.RegionLaw
import Derived.Maps.AppendAt
import Derived.Maps.Own
import Derived.Maps.OwnOps
import Derived.Maps.OwnSet
import Derived.Maps.Views
import Derived.Lib.SliceRun
import Derived.Lib.SlBytesConst
namespace Go.Proofs.Ytncmkcggkgahnaa.PDsk
open Go.Maps
open Go.RowKit Go.Shelf Go.Sort Go.Proofs.YtncmkcggkgahnaaW.PrintWords Go.Proofs.YtncmkcggkgahnaaW.PrintLast Go.Proofs.YtncmkcggkgahnaaW.PrintMore
set_option linter.unusedVariables false
set_option linter.unusedSimpArgs false
/-! the ref's Do, kind 5 -/
theorem RefAt.kp {B0 : Nat} {w W : World} {p : Nat} {fv bv v' : Value} {F F' : List S77} {B : List S83} (h : RefAt B0 w p fv bv F B) (hb : Below w.heap.size w W) : Kpt (fun k => k = p) w (W.setCell ⟨p, 0, none⟩ v') :=
  (Kpt.of_below hb).trans (.set (S := fun k => k = p) (a := ⟨p, 0, none⟩) rfl _)
set_option maxHeartbeats 16000000 in
set_option maxRecDepth 100000 in
theorem refdo_crash (B0 p : Nat) (fv bv : Value) (F : List S77) (B : List S83) (s : S55) (v : Value) (w : World) (h : RefAt B0 w p fv bv F B) (hv : DatV B0 w v s.f3) (hk : s.f0 = 5) (hri : F.Pairwise (fun a b => a.f0 < b.f0)) (hok : ∀ x, x ∈ B → OpOk x) (hL : LenF F 100000) (hll : F.length + B.length < 1000) :
    Calls Try.prog 32 #[.pointer (some ⟨p, 0, none⟩), .agg #[.int .i64 s.f0, .int .i64 s.f1, .int .i64 s.f2, v]] w (RefPost B0 p bv (stepF F B s) (stepB B s) w) := by
  obtain ⟨A, c, rfl, hc, hC⟩ := hv.len
  have hf : stepF F B s = crashF F B s.f1 s.f2 := by unfold stepF; rw [hk]; simp
  have hb : stepB B s = [] := by unfold stepB; rw [hk]; simp
  rw [hf, hb, hk]
  clear hf hb
  obtain ⟨W1, hW1⟩ : ∃ W1, w.alloc (Obj.cells #[.int .i64 5, .int .i64 s.f1, .int .i64 s.f2, .slice A s.f3.length c] 55) = W1 := ⟨_, rfl⟩
  have hb1 : Below w.heap.size w W1 := hW1 ▸ below_alloc (Below.refl _ _) _
  have hbx : W1.heap[w.heap.size]? = some (.cells #[.int .i64 5, .int .i64 s.f1, .int .i64 s.f2, .slice A s.f3.length c] 55 (0, 0)) := hW1 ▸ heap_alloc_new w _
  have h1 := h.below hb1
  obtain ⟨A', c', e', hc', hr'⟩ := Ro83.rd (bm := p) h1.row (fun k hk => (h1.ne.2.1 k hk).1)
  have hpl := h.ne.2.2.2
  obtain ⟨q, hq⟩ : ∃ q, clamp s.f1 B.length = q := ⟨_, rfl⟩
  have hq1 : q = (max 0 (min s.f1 (B.length : Int))).toNat := hq.symm
  have b0 : W1.cell? ⟨w.heap.size, 0, none⟩ = some (.int .i64 5) := blk_cell hbx 0
  have HQ := Aside0.mk hq
  have HR := Aside0.mk hr'
  have HBX := Aside0.mk hbx
  have HB1 := Aside0.mk hb1
  have HE' := Aside0.mk e'
  have HA1 := Aside0.mk h1
  have HRI := Aside0.mk hri
  clear h hv hC h1 hr' hri hk hbx hb1 e' hq
  have f5 : ((5 : Int) != 5) = false := rfl
  go_enter Try.func32, Try.ntmps32
  go_wp2_with fail
  go_loopw [5] (fun i wr => ∃ k : Nat, k ≤ B.length ∧ k ≤ q ∧ i = .int .i64 k ∧ Aside0 (∃ fv', RefAt B0 wr p fv' bv ((B.take k).foldl doF F) B) ∧ Aside0 (Kpt (fun k => k = p) W1 wr)) (fun i _ => B.length - (intOf i).toNat)
  case atStart => exact ⟨0, by omega, by omega, rfl, ⟨⟨fv, HA1.out⟩⟩, ⟨Kpt.refl _ _⟩⟩
  case round =>
    obtain ⟨k, hk, hkq, rfl, HE, HK⟩ := hrel
    obtain ⟨fv', hA⟩ := HE.out
    have hbyt : Byt B0 W1 wr := .of_kpt HK.out (fun j e => by subst e; exact ⟨HA1.out.lo, HA1.out.ne.2.2.1⟩)
    have HRk := Aside0.mk (HR.out.kept HK.out hbyt)
    have hbxr := HK.out.blk HBX.out (fun e => by omega)
    have HBXR := Aside0.mk hbxr
    have b1 : wr.cell? ⟨w.heap.size, 1, none⟩ = some (.int .i64 s.f1) := blk_cell hbxr 1
    have b2 : wr.cell? ⟨w.heap.size, 2, none⟩ = some (.int .i64 s.f2) := blk_cell hbxr 2
    have y1 : wr.cell? ⟨p, 1, none⟩ = some (.slice A' B.length c') := HE'.out ▸ blk_cell hA.hp 1
    obtain ⟨A1, c1, rfl, hc1, hr1⟩ := OwnRow.reads hA.f
    have y0 : wr.cell? ⟨p, 0, none⟩ = some (.slice A1 ((B.take k).foldl doF F).length c1) := blk_cell hA.hp 0
    have g1 : wr.frozen? ⟨p, 1, none⟩ = false := blk_frozen hA.hp 1
    have HA := Aside0.mk hA
    have HR1 := Aside0.mk hr1
    have hwr : w.heap.size < wr.heap.size := blk_lt hbxr
    have HB0 : Aside0 (B0 ≤ wr.heap.size) := ⟨by have := hA.lo; have := hA.ne.2.2.2; omega⟩
    clear hA HE hbyt hbxr hr1
    by_cases hlt : k < B.length
    · have q1 : (0 : Int) ≤ (k : Int) := by omega
      have q2 : (k : Int) < (B.length : Int) := by omega
      obtain ⟨ad, v, e, x0, x1, x2, hv⟩ := HRk.out.at_ k hlt
      subst e
      have hmem : rdB B k ∈ B := by unfold rdB; rw [List.getD_eq_getElem?_getD, List.getElem?_eq_getElem hlt]; exact List.getElem_mem hlt
      have hx := hok _ hmem
      have HTK := Aside0.mk (show B.take (k + 1) = B.take k ++ [rdB B k] by rw [List.take_add_one, List.getElem?_eq_getElem hlt]; simp [rdB, List.getD_eq_getElem?_getD, List.getElem?_eq_getElem hlt])
      obtain ⟨A2, c2, rfl, hc2, hC2⟩ := hv.len
      have HRK : Aside0 (((B.take k).foldl doF F).Pairwise (fun a b => a.f0 < b.f0)) := ⟨fold_rise HRI.out⟩
      have HLK : Aside0 (((B.take k).foldl doF F).length < 1000) := ⟨by have := fold_count (B.take k) F; simp only [List.length_take] at this; omega⟩
      have HLF : Aside0 (LenF ((B.take k).foldl doF F) 1000000) := ⟨fun y hy => by
        have := lenF_fold (fun z hz => hok z (List.mem_of_mem_take hz)) hL y hy
        simp only [List.length_take] at this
        omega⟩
      have HV := Aside0.mk hv
      have HX := Aside0.mk hx
      obtain ⟨x, hxx⟩ : ∃ x, rdB B k = x := ⟨_, rfl⟩
      obtain ⟨lk, hlk'⟩ : ∃ lk, (B.take k).foldl doF F = lk := ⟨_, rfl⟩
      rw [hxx] at x0 x1 x2 HTK HX HV hc2
      rw [hlk'] at HA HR1 HRK HLK HLF hc1 y0
      have HLKE := Aside0.mk hlk'
      have HXX := Aside0.mk hxx
      clear hv hC2 hx hmem hxx hlk'
      by_cases hks : (k : Int) < s.f1
      · obtain ⟨W2, hW2⟩ : ∃ W2, wr.alloc (Obj.cells #[.int .i64 x.f0, .int .i64 x.f1, .slice A2 x.f2.length c2] 83) = W2 := ⟨_, rfl⟩
        have hb2 : Below wr.heap.size wr W2 := hW2 ▸ below_alloc (Below.refl _ _) _
        have hg2 : W2.heap[wr.heap.size]? = some (.cells #[.int .i64 x.f0, .int .i64 x.f1, .slice A2 x.f2.length c2] 83 (0, 0)) := hW2 ▸ heap_alloc_new wr _
        have g0 : W2.cell? ⟨wr.heap.size, 0, none⟩ = some (.int .i64 x.f0) := blk_cell hg2 0
        have g1' : W2.cell? ⟨wr.heap.size, 1, none⟩ = some (.int .i64 x.f1) := blk_cell hg2 1
        have g2 : W2.cell? ⟨wr.heap.size, 2, none⟩ = some (.slice A2 x.f2.length c2) := blk_cell hg2 2
        have b1' := pw_cell_below hb2 b1
        have y0' := pw_cell_below hb2 y0
        have HB2 := Aside0.mk hb2
        have hbd : Below wr.heap.size wr W2.drew := hb2.trans (below_drew (Below.refl _ _))
        have HC := Aside0.mk (done_any B0 A1 c1 lk x (.slice A2 x.f2.length c2) W2.drew (Nat.le_trans HB0.out hb2.size) (Rd77.below HR1.out hbd) hc1 (HV.out.byt (.of_below (B0 := B0) hbd)) HRK.out HLK.out HLF.out HX.out)
        have HDO := Aside0.mk (doneL_do HRK.out HX.out.1)
        rw [HDO.out] at HC
        clear hb2 hbd hg2
        go_upto_region 15 with (rw [hW2])
        clear x0 x1 x2 b1 b2 y0 y1 g1
        go_region_law (first
          | (go_simp; go_at_call 48; (with_reducible refine HC.out.mono ?_); rintro e w2 ⟨v2, rfl, hr2, hb2⟩; obtain ⟨A9, c9, hv9, hc9⟩ := OwnRow.slice_ hr2; obtain ⟨n9, hn9⟩ : ∃ n9, (doF lk x).length = n9 := ⟨_, rfl⟩; rw [hn9] at hv9; clear hn9 hc9; subst hv9; have HBW := Aside0.mk (below_then (below_drew HB2.out) HB2.out.size hb2); have HS := Aside0.mk (RefAt.setF HA.out HBW.out (OwnRow.lower hr2 (Nat.le_trans HB0.out HB2.out.size))); have HK2 := Aside0.mk (RefAt.kp (F' := F) (v' := .slice A9 n9 c9) HA.out HBW.out); have hp2 := (HBW.out.block p HA.out.ne.2.2.2).trans HA.out.hp; have z0 := blk_cell hp2 0; have gz := blk_frozen hp2 0; clear hr2 hb2 hp2)
          | fail)
        all_goals
          go_wp2_with fail
          go_roundw
          case rel => exact ⟨k + 1, by omega, by omega, by go_num, ⟨⟨_, by rw [HTK.out, List.foldl_append, HLKE.out]; exact HS.out.1⟩⟩, ⟨HK.out.trans HK2.out⟩⟩
          case measure => simp [intOf]; omega
      · have hqk : q = k := by omega
        have dks : decide ((k : Int) < s.f1) = false := decide_eq_false hks
        by_cases h2 : x.f0 = 2
        · rw [h2] at x0
          by_cases hneg : s.f2 < 0
          · have dneg : decide (s.f2 < 0) = true := decide_eq_true hneg
            by_cases hl0 : 0 < x.f2.length
            · have dl0 : decide ((0 : Int) < (x.f2.length : Int)) = true := decide_eq_true (by omega)
              have qi1 : (0 : Int) < (x.f2.length : Int) := by omega
              have hmle : 0 ≤ x.f2.length := by omega
              have hmc : clamp s.f2 x.f2.length = 0 := by unfold clamp; omega
              have HMC := Aside0.mk hmc
              have hwf : (Lit.int .i64 s.f2).wf = (Lit.int .i64 s.f2).wf := rfl
              have hfz : (wr.alloc (Obj.cells #[.int .i64 2, .int .i64 x.f1, .slice A2 x.f2.length c2] 83)).frozen? ⟨wr.heap.size, 2, none⟩ = false := blk_frozen (heap_alloc_new wr _) 2
              clear hwf hmc
              go_upto_region 22 with fail
              obtain ⟨W3, hW3⟩ : ∃ W3, wr.alloc (Obj.cells #[.int .i64 2, .int .i64 x.f1, .slice A2 0 c2] 83) = W3 := ⟨_, rfl⟩
              have hb2 : Below wr.heap.size wr W3 := hW3 ▸ below_alloc (Below.refl _ _) _
              have hg2 : W3.heap[wr.heap.size]? = some (.cells #[.int .i64 2, .int .i64 x.f1, .slice A2 0 c2] 83 (0, 0)) := hW3 ▸ heap_alloc_new wr _
              have g0 : W3.cell? ⟨wr.heap.size, 0, none⟩ = some (.int .i64 2) := blk_cell hg2 0
              have g1' : W3.cell? ⟨wr.heap.size, 1, none⟩ = some (.int .i64 x.f1) := blk_cell hg2 1
              have g2 : W3.cell? ⟨wr.heap.size, 2, none⟩ = some (.slice A2 0 c2) := blk_cell hg2 2
              have y0' := pw_cell_below hb2 y0
              have HB2 := Aside0.mk hb2
              have hbd : Below wr.heap.size wr W3.drew := hb2.trans (below_drew (Below.refl _ _))
              have HY : Aside0 (OpOk ⟨2, x.f1, x.f2.take 0⟩) := ⟨⟨.inr (.inl rfl), HX.out.2.1, HX.out.2.2.1, Nat.le_trans (List.length_take_le' _ _) HX.out.2.2.2⟩⟩
              have hvy : DatV B0 W3.drew (.slice A2 0 c2) (x.f2.take 0) := (HV.out.byt (.of_below (B0 := B0) hbd)).take hmle
              have HC := Aside0.mk (done_any B0 A1 c1 lk ⟨2, x.f1, x.f2.take 0⟩ (.slice A2 0 c2) W3.drew (Nat.le_trans HB0.out hb2.size) (Rd77.below HR1.out hbd) hc1 hvy HRK.out HLK.out HLF.out HY.out)
              have HDO := Aside0.mk (doneL_do (x := ⟨2, x.f1, x.f2.take 0⟩) HRK.out HY.out.1)
              rw [HDO.out] at HC
              have HCE : Aside0 (crashF F B s.f1 s.f2 = doF lk ⟨2, x.f1, x.f2.take 0⟩) := ⟨by unfold crashF; simp only [HQ.out, hqk, HXX.out, HMC.out, HLKE.out]; rw [if_pos ⟨hlt, h2⟩]⟩
              rw [hW3]
              clear hb2 hbd hg2 hvy hfz hW3 x0 x1 x2 b1 b2 y0 y1 g1
              go_region_law (first
                | (go_simp; go_at_call 48; (with_reducible refine HC.out.mono ?_); rintro e w2 ⟨v2, rfl, hr2, hb2⟩; obtain ⟨A9, c9, hv9, hc9⟩ := OwnRow.slice_ hr2; obtain ⟨n9, hn9⟩ : ∃ n9, (doF lk ⟨2, x.f1, x.f2.take 0⟩).length = n9 := ⟨_, rfl⟩; rw [hn9] at hv9; clear hn9 hc9; subst hv9; have HBW := Aside0.mk (below_then (below_drew HB2.out) HB2.out.size hb2); have HS := Aside0.mk (RefAt.setF HA.out HBW.out (OwnRow.lower hr2 (Nat.le_trans HB0.out HB2.out.size))); have HK2 := Aside0.mk (RefAt.kp (F' := F) (v' := .slice A9 n9 c9) HA.out HBW.out); have hp2 := (HBW.out.block p HA.out.ne.2.2.2).trans HA.out.hp; have z0 := blk_cell hp2 0; have gz := blk_frozen hp2 0; clear hr2 hb2 hp2)
                | fail)
              all_goals
                have hp3 := HS.out.1.hp
                have z1 := blk_cell hp3 1
                have g1 := blk_frozen hp3 1
                have HS2 := Aside0.mk HS.out.1.setB0
                clear hp3
                go_wp2_with fail
                go_end0
                first | rw [HCE.out] | rw [← hn, HCE.out]
                exact ⟨_, _, rfl, HS2.out.1, (((Kpt.of_below HB1.out).trans (HK.out.trans HK2.out)).mono (fun k e => .inl e)).trans HS2.out.2, fun k hk => (own_nil_slice hk).elim⟩
            · have dl0 : decide ((0 : Int) < (x.f2.length : Int)) = false := decide_eq_false (by omega)
              have qi1 : ¬ (0 : Int) < (x.f2.length : Int) := by omega
              have hmle : x.f2.length ≤ x.f2.length := by omega
              have hmc : clamp s.f2 x.f2.length = x.f2.length := by unfold clamp; omega
              have HMC := Aside0.mk hmc
              have hwf : (Lit.int .i64 s.f2).wf = (Lit.int .i64 s.f2).wf := rfl
              have hfz : (wr.alloc (Obj.cells #[.int .i64 2, .int .i64 x.f1, .slice A2 x.f2.length c2] 83)).frozen? ⟨wr.heap.size, 2, none⟩ = false := blk_frozen (heap_alloc_new wr _) 2
              clear hwf hmc
              go_upto_region 22 with fail
              obtain ⟨W3, hW3⟩ : ∃ W3, wr.alloc (Obj.cells #[.int .i64 2, .int .i64 x.f1, .slice A2 x.f2.length c2] 83) = W3 := ⟨_, rfl⟩
              have hb2 : Below wr.heap.size wr W3 := hW3 ▸ below_alloc (Below.refl _ _) _
              have hg2 : W3.heap[wr.heap.size]? = some (.cells #[.int .i64 2, .int .i64 x.f1, .slice A2 x.f2.length c2] 83 (0, 0)) := hW3 ▸ heap_alloc_new wr _
              have g0 : W3.cell? ⟨wr.heap.size, 0, none⟩ = some (.int .i64 2) := blk_cell hg2 0
              have g1' : W3.cell? ⟨wr.heap.size, 1, none⟩ = some (.int .i64 x.f1) := blk_cell hg2 1
              have g2 : W3.cell? ⟨wr.heap.size, 2, none⟩ = some (.slice A2 x.f2.length c2) := blk_cell hg2 2
              have y0' := pw_cell_below hb2 y0
              have HB2 := Aside0.mk hb2
              have hbd : Below wr.heap.size wr W3.drew := hb2.trans (below_drew (Below.refl _ _))
              have HY : Aside0 (OpOk ⟨2, x.f1, x.f2.take x.f2.length⟩) := ⟨⟨.inr (.inl rfl), HX.out.2.1, HX.out.2.2.1, Nat.le_trans (List.length_take_le' _ _) HX.out.2.2.2⟩⟩
              have hvy : DatV B0 W3.drew (.slice A2 x.f2.length c2) (x.f2.take x.f2.length) := (HV.out.byt (.of_below (B0 := B0) hbd)).take hmle
              have HC := Aside0.mk (done_any B0 A1 c1 lk ⟨2, x.f1, x.f2.take x.f2.length⟩ (.slice A2 x.f2.length c2) W3.drew (Nat.le_trans HB0.out hb2.size) (Rd77.below HR1.out hbd) hc1 hvy HRK.out HLK.out HLF.out HY.out)
              have HDO := Aside0.mk (doneL_do (x := ⟨2, x.f1, x.f2.take x.f2.length⟩) HRK.out HY.out.1)
              rw [HDO.out] at HC
              have HCE : Aside0 (crashF F B s.f1 s.f2 = doF lk ⟨2, x.f1, x.f2.take x.f2.length⟩) := ⟨by unfold crashF; simp only [HQ.out, hqk, HXX.out, HMC.out, HLKE.out]; rw [if_pos ⟨hlt, h2⟩]⟩
              rw [hW3]
              clear hb2 hbd hg2 hvy hfz hW3 x0 x1 x2 b1 b2 y0 y1 g1
              go_region_law (first
                | (go_simp; go_at_call 48; (with_reducible refine HC.out.mono ?_); rintro e w2 ⟨v2, rfl, hr2, hb2⟩; obtain ⟨A9, c9, hv9, hc9⟩ := OwnRow.slice_ hr2; obtain ⟨n9, hn9⟩ : ∃ n9, (doF lk ⟨2, x.f1, x.f2.take x.f2.length⟩).length = n9 := ⟨_, rfl⟩; rw [hn9] at hv9; clear hn9 hc9; subst hv9; have HBW := Aside0.mk (below_then (below_drew HB2.out) HB2.out.size hb2); have HS := Aside0.mk (RefAt.setF HA.out HBW.out (OwnRow.lower hr2 (Nat.le_trans HB0.out HB2.out.size))); have HK2 := Aside0.mk (RefAt.kp (F' := F) (v' := .slice A9 n9 c9) HA.out HBW.out); have hp2 := (HBW.out.block p HA.out.ne.2.2.2).trans HA.out.hp; have z0 := blk_cell hp2 0; have gz := blk_frozen hp2 0; clear hr2 hb2 hp2)
                | fail)
              all_goals
                have hp3 := HS.out.1.hp
                have z1 := blk_cell hp3 1
                have g1 := blk_frozen hp3 1
                have HS2 := Aside0.mk HS.out.1.setB0
                clear hp3
                go_wp2_with fail
                go_end0
                first | rw [HCE.out] | rw [← hn, HCE.out]
                exact ⟨_, _, rfl, HS2.out.1, (((Kpt.of_below HB1.out).trans (HK.out.trans HK2.out)).mono (fun k e => .inl e)).trans HS2.out.2, fun k hk => (own_nil_slice hk).elim⟩
          · have dneg : decide (s.f2 < 0) = false := decide_eq_false hneg
            obtain ⟨n, hn⟩ : ∃ n : Nat, s.f2 = (n : Int) := ⟨s.f2.toNat, by omega⟩
            rw [hn] at b2 dneg
            by_cases hl0 : n < x.f2.length
            · have dl0 : decide ((n : Int) < (x.f2.length : Int)) = true := decide_eq_true (by omega)
              have qi1 : (n : Int) < (x.f2.length : Int) := by omega
              have hmle : n ≤ x.f2.length := by omega
              have hmc : clamp s.f2 x.f2.length = n := by unfold clamp; omega
              have HMC := Aside0.mk hmc
              have hwf : (Lit.int .i64 s.f2).wf = (Lit.int .i64 s.f2).wf := rfl
              have hfz : (wr.alloc (Obj.cells #[.int .i64 2, .int .i64 x.f1, .slice A2 x.f2.length c2] 83)).frozen? ⟨wr.heap.size, 2, none⟩ = false := blk_frozen (heap_alloc_new wr _) 2
              clear hwf hmc
              go_upto_region 22 with fail
              obtain ⟨W3, hW3⟩ : ∃ W3, wr.alloc (Obj.cells #[.int .i64 2, .int .i64 x.f1, .slice A2 n c2] 83) = W3 := ⟨_, rfl⟩
              have hb2 : Below wr.heap.size wr W3 := hW3 ▸ below_alloc (Below.refl _ _) _
              have hg2 : W3.heap[wr.heap.size]? = some (.cells #[.int .i64 2, .int .i64 x.f1, .slice A2 n c2] 83 (0, 0)) := hW3 ▸ heap_alloc_new wr _
              have g0 : W3.cell? ⟨wr.heap.size, 0, none⟩ = some (.int .i64 2) := blk_cell hg2 0
              have g1' : W3.cell? ⟨wr.heap.size, 1, none⟩ = some (.int .i64 x.f1) := blk_cell hg2 1
              have g2 : W3.cell? ⟨wr.heap.size, 2, none⟩ = some (.slice A2 n c2) := blk_cell hg2 2
              have y0' := pw_cell_below hb2 y0
              have HB2 := Aside0.mk hb2
              have hbd : Below wr.heap.size wr W3.drew := hb2.trans (below_drew (Below.refl _ _))
              have HY : Aside0 (OpOk ⟨2, x.f1, x.f2.take n⟩) := ⟨⟨.inr (.inl rfl), HX.out.2.1, HX.out.2.2.1, Nat.le_trans (List.length_take_le' _ _) HX.out.2.2.2⟩⟩
              have hvy : DatV B0 W3.drew (.slice A2 n c2) (x.f2.take n) := (HV.out.byt (.of_below (B0 := B0) hbd)).take hmle
              have HC := Aside0.mk (done_any B0 A1 c1 lk ⟨2, x.f1, x.f2.take n⟩ (.slice A2 n c2) W3.drew (Nat.le_trans HB0.out hb2.size) (Rd77.below HR1.out hbd) hc1 hvy HRK.out HLK.out HLF.out HY.out)
              have HDO := Aside0.mk (doneL_do (x := ⟨2, x.f1, x.f2.take n⟩) HRK.out HY.out.1)
              rw [HDO.out] at HC
              have HCE : Aside0 (crashF F B s.f1 s.f2 = doF lk ⟨2, x.f1, x.f2.take n⟩) := ⟨by unfold crashF; simp only [HQ.out, hqk, HXX.out, HMC.out, HLKE.out]; rw [if_pos ⟨hlt, h2⟩]⟩
              rw [hW3]
              clear hb2 hbd hg2 hvy hfz hW3 x0 x1 x2 b1 b2 y0 y1 g1
              go_region_law (first
                | (go_simp; go_at_call 48; (with_reducible refine HC.out.mono ?_); rintro e w2 ⟨v2, rfl, hr2, hb2⟩; obtain ⟨A9, c9, hv9, hc9⟩ := OwnRow.slice_ hr2; obtain ⟨n9, hn9⟩ : ∃ n9, (doF lk ⟨2, x.f1, x.f2.take n⟩).length = n9 := ⟨_, rfl⟩; rw [hn9] at hv9; clear hn9 hc9; subst hv9; have HBW := Aside0.mk (below_then (below_drew HB2.out) HB2.out.size hb2); have HS := Aside0.mk (RefAt.setF HA.out HBW.out (OwnRow.lower hr2 (Nat.le_trans HB0.out HB2.out.size))); have HK2 := Aside0.mk (RefAt.kp (F' := F) (v' := .slice A9 n9 c9) HA.out HBW.out); have hp2 := (HBW.out.block p HA.out.ne.2.2.2).trans HA.out.hp; have z0 := blk_cell hp2 0; have gz := blk_frozen hp2 0; clear hr2 hb2 hp2)
                | fail)
              all_goals
                have hp3 := HS.out.1.hp
                have z1 := blk_cell hp3 1
                have g1 := blk_frozen hp3 1
                have HS2 := Aside0.mk HS.out.1.setB0
                clear hp3
                go_wp2_with fail
                go_end0
                first | rw [HCE.out] | rw [← hn, HCE.out]
                exact ⟨_, _, rfl, HS2.out.1, (((Kpt.of_below HB1.out).trans (HK.out.trans HK2.out)).mono (fun k e => .inl e)).trans HS2.out.2, fun k hk => (own_nil_slice hk).elim⟩
            · have dl0 : decide ((n : Int) < (x.f2.length : Int)) = false := decide_eq_false (by omega)
              have qi1 : ¬ (n : Int) < (x.f2.length : Int) := by omega
              have hmle : x.f2.length ≤ x.f2.length := by omega
              have hmc : clamp s.f2 x.f2.length = x.f2.length := by unfold clamp; omega
              have HMC := Aside0.mk hmc
              have hwf : (Lit.int .i64 s.f2).wf = (Lit.int .i64 s.f2).wf := rfl
              have hfz : (wr.alloc (Obj.cells #[.int .i64 2, .int .i64 x.f1, .slice A2 x.f2.length c2] 83)).frozen? ⟨wr.heap.size, 2, none⟩ = false := blk_frozen (heap_alloc_new wr _) 2
              clear hwf hmc
              go_upto_region 22 with fail
              obtain ⟨W3, hW3⟩ : ∃ W3, wr.alloc (Obj.cells #[.int .i64 2, .int .i64 x.f1, .slice A2 x.f2.length c2] 83) = W3 := ⟨_, rfl⟩
              have hb2 : Below wr.heap.size wr W3 := hW3 ▸ below_alloc (Below.refl _ _) _
              have hg2 : W3.heap[wr.heap.size]? = some (.cells #[.int .i64 2, .int .i64 x.f1, .slice A2 x.f2.length c2] 83 (0, 0)) := hW3 ▸ heap_alloc_new wr _
              have g0 : W3.cell? ⟨wr.heap.size, 0, none⟩ = some (.int .i64 2) := blk_cell hg2 0
              have g1' : W3.cell? ⟨wr.heap.size, 1, none⟩ = some (.int .i64 x.f1) := blk_cell hg2 1
              have g2 : W3.cell? ⟨wr.heap.size, 2, none⟩ = some (.slice A2 x.f2.length c2) := blk_cell hg2 2
              have y0' := pw_cell_below hb2 y0
              have HB2 := Aside0.mk hb2
              have hbd : Below wr.heap.size wr W3.drew := hb2.trans (below_drew (Below.refl _ _))
              have HY : Aside0 (OpOk ⟨2, x.f1, x.f2.take x.f2.length⟩) := ⟨⟨.inr (.inl rfl), HX.out.2.1, HX.out.2.2.1, Nat.le_trans (List.length_take_le' _ _) HX.out.2.2.2⟩⟩
              have hvy : DatV B0 W3.drew (.slice A2 x.f2.length c2) (x.f2.take x.f2.length) := (HV.out.byt (.of_below (B0 := B0) hbd)).take hmle
              have HC := Aside0.mk (done_any B0 A1 c1 lk ⟨2, x.f1, x.f2.take x.f2.length⟩ (.slice A2 x.f2.length c2) W3.drew (Nat.le_trans HB0.out hb2.size) (Rd77.below HR1.out hbd) hc1 hvy HRK.out HLK.out HLF.out HY.out)
              have HDO := Aside0.mk (doneL_do (x := ⟨2, x.f1, x.f2.take x.f2.length⟩) HRK.out HY.out.1)
              rw [HDO.out] at HC
              have HCE : Aside0 (crashF F B s.f1 s.f2 = doF lk ⟨2, x.f1, x.f2.take x.f2.length⟩) := ⟨by unfold crashF; simp only [HQ.out, hqk, HXX.out, HMC.out, HLKE.out]; rw [if_pos ⟨hlt, h2⟩]⟩
              rw [hW3]
              clear hb2 hbd hg2 hvy hfz hW3 x0 x1 x2 b1 b2 y0 y1 g1
              go_region_law (first
                | (go_simp; go_at_call 48; (with_reducible refine HC.out.mono ?_); rintro e w2 ⟨v2, rfl, hr2, hb2⟩; obtain ⟨A9, c9, hv9, hc9⟩ := OwnRow.slice_ hr2; obtain ⟨n9, hn9⟩ : ∃ n9, (doF lk ⟨2, x.f1, x.f2.take x.f2.length⟩).length = n9 := ⟨_, rfl⟩; rw [hn9] at hv9; clear hn9 hc9; subst hv9; have HBW := Aside0.mk (below_then (below_drew HB2.out) HB2.out.size hb2); have HS := Aside0.mk (RefAt.setF HA.out HBW.out (OwnRow.lower hr2 (Nat.le_trans HB0.out HB2.out.size))); have HK2 := Aside0.mk (RefAt.kp (F' := F) (v' := .slice A9 n9 c9) HA.out HBW.out); have hp2 := (HBW.out.block p HA.out.ne.2.2.2).trans HA.out.hp; have z0 := blk_cell hp2 0; have gz := blk_frozen hp2 0; clear hr2 hb2 hp2)
                | fail)
              all_goals
                have hp3 := HS.out.1.hp
                have z1 := blk_cell hp3 1
                have g1 := blk_frozen hp3 1
                have HS2 := Aside0.mk HS.out.1.setB0
                clear hp3
                go_wp2_with fail
                go_end0
                first | rw [HCE.out] | rw [← hn, HCE.out]
                exact ⟨_, _, rfl, HS2.out.1, (((Kpt.of_below HB1.out).trans (HK.out.trans HK2.out)).mono (fun k e => .inl e)).trans HS2.out.2, fun k hk => (own_nil_slice hk).elim⟩
        · have hkb : (x.f0 == 2) = false := by simpa using h2
          have HCE : Aside0 (crashF F B s.f1 s.f2 = lk) := ⟨by unfold crashF; simp only [HQ.out, hqk, HXX.out, HLKE.out]; rw [if_neg (fun h => h2 h.2)]⟩
          obtain ⟨W2, hW2⟩ : ∃ W2, wr.alloc (Obj.cells #[.int .i64 x.f0, .int .i64 x.f1, .slice A2 x.f2.length c2] 83) = W2 := ⟨_, rfl⟩
          have hb2 : Below wr.heap.size wr W2 := hW2 ▸ below_alloc (Below.refl _ _) _
          have hg2 : W2.heap[wr.heap.size]? = some (.cells #[.int .i64 x.f0, .int .i64 x.f1, .slice A2 x.f2.length c2] 83 (0, 0)) := hW2 ▸ heap_alloc_new wr _
          have g0 : W2.cell? ⟨wr.heap.size, 0, none⟩ = some (.int .i64 x.f0) := blk_cell hg2 0
          have b1' := pw_cell_below hb2 b1
          have HA2 := Aside0.mk (HA.out.below hb2)
          have z1 := blk_cell HA2.out.hp 1
          have gz := blk_frozen HA2.out.hp 1
          have HS2 := Aside0.mk HA2.out.setB0
          have HB2 := Aside0.mk hb2
          clear hb2 hg2
          go_wp2_with (rw [hW2])
          go_end0
          rw [HCE.out]
          exact ⟨_, _, rfl, HS2.out.1, (((Kpt.of_below HB1.out).trans (HK.out.trans (Kpt.of_below HB2.out))).mono (fun k e => .inl e)).trans HS2.out.2, fun k hk => (own_nil_slice hk).elim⟩
    · obtain rfl : k = B.length := by omega
      have hqk : q = B.length := by omega
      have HCE : Aside0 (crashF F B s.f1 s.f2 = (B.take B.length).foldl doF F) := ⟨by unfold crashF; simp only [HQ.out, hqk]; rw [if_neg (by omega)]⟩
      have HS2 := Aside0.mk HA.out.setB0
      go_wp2_with fail
      go_end0
      rw [HCE.out]
      exact ⟨_, _, rfl, HS2.out.1, (((Kpt.of_below HB1.out).trans HK.out).mono (fun k e => .inl e)).trans HS2.out.2, fun k hk => (own_nil_slice hk).elim⟩
end Go.Proofs.Ytncmkcggkgahnaa.PDsk
