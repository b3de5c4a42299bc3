-- By the session: contracts proved by hand.
import Derived.Test.YtncmkcggkgahnaaHDskA2
import Derived.Test.YtncmkcggkgahnaaLaid
import Derived.Test.YtncmkcggkgahnaaHGen
import Derived.Deep.RegionLaw
import Derived.Deep.RegionLawGrows
import Derived.Deep.RegionWith
import Derived.Deep.RegionHeld3
import Derived.Deep.RegionHeldLaw
import Derived.Deep.DeepCutAuto
import Derived.Deep.CutBlock
import Derived.Deep.LoopGhost
import Derived.RegionTactic
import Derived.ChangeAlike
import Derived.StillTailTactics
import Derived.Shelf.Abstract
import Derived.Maps.Own
import Derived.Maps.OwnOps
import Derived.Maps.OwnSet
import Derived.Maps.Views
import Derived.Lib.Hide
import Derived.Lib.SliceRun
import Derived.Laws.BitsAllLaws
namespace Go.Proofs.Ytncmkcggkgahnaa.PDsk
open Go.Maps
open Go.RowKit Go.Shelf Go.Proofs.YtncmkcggkgahnaaW.PrintWords Go.Proofs.YtncmkcggkgahnaaW.PrintLast Go.Proofs.YtncmkcggkgahnaaW.PrintMore
set_option linter.unusedVariables false
set_option linter.unusedSimpArgs false
/-! slices.Grow, slices.Concat at bytes: functions 61, 54 -/
theorem grow_own (n : Nat) (w : World) (hn : n < 1000000000) : Calls Try.prog 61 #[.slice none 0 0, .int .i64 n] w fun e w' => ∃ v, e = .returned v ∧ w'.ownsRow w.heap.size 5 1 v 0 [] ∧ Below w.heap.size w w' := by
  rcases Nat.eq_zero_or_pos n with h0 | h0
  · subst h0
    refine (Any8.slices_Grow_room YtncmkcggkgahnaaL.growA none 0 0 0 w (Nat.le_refl _) (by omega) (by omega) (by omega)).mono ?_
    rintro e w' ⟨rfl, rfl⟩
    exact ⟨_, rfl, World.ownsRow_nil _ _ _ _, Below.refl _ _⟩
  · obtain ⟨i0, hi, hz0, hz1, hz2⟩ := info_parts info5
    refine (Any8.slices_Grow_grow YtncmkcggkgahnaaL.growA i0 (.int .u8 0) hi hz0 (by omega) none 0 0 n [] w (Nat.le_refl _) (by omega) (by rw [hz2]; omega) (by omega) (by simp) (fun _ => rfl) (fun a h => by cases h)).mono ?_
    rintro e w' ⟨rfl, rfl⟩
    have hge := grownCap_ge w n 0 5
    have hle := grownCap_le_maxLen w n 0 5 (by unfold maxLen; omega)
    refine ⟨_, rfl, ⟨rfl, .inr ⟨w.heap.size, grownCap w (0 + n) 0 5, _, rfl, Nat.le_refl _, heap_alloc_new w.drew _, by omega, by rw [Nat.zero_add]; exact hle, ?_, by simp⟩⟩, below_alloc (below_drew (Below.refl _ _)) _⟩
    have e25 : YtncmkcggkgahnaaL.growA_ren.t 25 = 5 := rfl
    simp [size_zeroCells, Value.cells, e25]
    omega
theorem app_bytes (W : World) (ty base : Nat) (v : Value) (xs ys : List Int) (A : Option Addr) (c : Nat) (hown : W.ownsRow base 5 1 v xs.length (xs.map (Value.int .u8))) (hC : (Kd.int .u8).C W A ys.length ys) (hb : base ≤ W.heap.size) (l : xs.length + ys.length < 100000000) :
    ∃ v' w', (Builtin.append_ #[28, 28] ty #[v, .slice A ys.length c]).run Try.prog W = .ok v' w' ∧ w'.ownsRow base 5 1 v' (xs ++ ys).length ((xs ++ ys).map (Value.int .u8)) ∧ W.grownBy w' v.ownBlock := by
  obtain ⟨i0, hi, hz0, hz1, hz2⟩ := info_parts info5
  rcases Nat.eq_zero_or_pos ys.length with h0 | h0
  · obtain rfl := List.eq_nil_of_length_eq_zero h0
    cases A with
    | none =>
      refine ⟨v, W, ?_, by simpa using hown, World.grownBy.refl _ _⟩
      rcases hown.2 with ⟨rfl, h5⟩ | ⟨g, cap, cur, rfl, _, _, hnc, _⟩
      · simp [Builtin.append_, run_underlying Try.underlying28, Go.sizeOf, typeInfo, hi, Builtin.lenOf, Builtin.firstCells]
      · simp [Builtin.append_, run_underlying Try.underlying28, Go.sizeOf, typeInfo, hi, Builtin.lenOf, Builtin.firstCells, hnc, storeCells]
    | some ad =>
      obtain ⟨v', w', hr, ho, hg, _⟩ := run_append_own (P := Try.prog) W base 28 ty 5 i0 (.int .u8 0) 1 1 Try.underlying28 hi hz0 hz1 hz2 rfl (by decide) v xs.length _ hown ad 0 c [] rfl (fun j u h => by simp at h) (by simp) (by unfold maxLen; omega) (by omega) hb
      exact ⟨v', w', hr, by simpa using ho, hg⟩
  · obtain ⟨ad, rfl, hc⟩ := hC.2.2 h0
    obtain ⟨v', w', hr, ho, hg, _⟩ := run_append_own (P := Try.prog) W base 28 ty 5 i0 (.int .u8 0) 1 1 Try.underlying28 hi hz0 hz1 hz2 rfl (by decide) v xs.length _ hown ad ys.length c (ys.map (Value.int .u8)) (by simp) (fun j u h => by
      rw [List.getElem?_map] at h
      obtain ⟨y, hy, rfl⟩ := Option.map_eq_some_iff.1 h
      obtain ⟨cs, h1, h2, h3⟩ := hc j y hy
      have h2' : cs = [Value.int .u8 y] := h2
      subst h2'
      have h4 := h3 0 _ rfl
      have e : j * (Kd.int .u8).sz + 0 = j := Nat.mul_one j
      rwa [e] at h4) (by intro u hu; obtain ⟨y, _, rfl⟩ := List.mem_map.1 hu; rfl) (by unfold maxLen; omega) (by omega) hb
    exact ⟨v', w', hr, by simpa using ho, hg⟩
def catTo (a b : List Int) (k : Nat) : List Int := match k with | 0 => [] | 1 => a | _ => a ++ b
def tot (a b k : Nat) : Nat := match k with | 0 => 0 | 1 => a | _ => a + b
set_option maxHeartbeats 4000000 in
set_option maxRecDepth 100000 in
theorem concat_two (w : World) (g t : Nat) (A0 A1 : Option Addr) (c0 c1 : Nat) (xs0 xs1 : List Int) (hg : w.heap[g]? = some (.cells #[.slice A0 xs0.length c0, .slice A1 xs1.length c1] t (0, 0))) (h0 : (Kd.int .u8).C w A0 xs0.length xs0) (h1 : (Kd.int .u8).C w A1 xs1.length xs1)
    (l0 : xs0.length < 10000000) (l1 : xs1.length < 10000000) :
    Calls Try.prog 54 #[.slice (some ⟨g, 0, none⟩) 2 2] w fun e w' => ∃ v, e = .returned v ∧ w'.ownsRow w.heap.size 5 1 v (xs0 ++ xs1).length ((xs0 ++ xs1).map (Value.int .u8)) ∧ Below w.heap.size w w' := by
  obtain ⟨i0, hi, hz0, hz1, hz2⟩ := info_parts info5
  have y0 : w.cell? ⟨g, 0, none⟩ = some (.slice A0 xs0.length c0) := blk_cell hg 0
  have y1 : w.cell? ⟨g, 1, none⟩ = some (.slice A1 xs1.length c1) := blk_cell hg 1
  have HG := Aside0.mk hg
  have H0 := Aside0.mk h0
  have H1 := Aside0.mk h1
  clear h0 h1 hg
  go_enter Try.func54, Try.ntmps54
  go_wp2
  go_loop [3, 11] (fun s i => ∃ k : Nat, k ≤ 2 ∧ i = .int .i64 k ∧ s = .int .i64 (tot xs0.length xs1.length k : Nat)) (fun _ i => 2 - (intOf i).toNat)
  case atStart => exact ⟨0, by omega, rfl, rfl⟩
  case round =>
    obtain ⟨k, hk, rfl, rfl⟩ := hrel
    obtain rfl | rfl | rfl : k = 0 ∨ k = 1 ∨ k = 2 := by omega
    · simp only [tot]
      go_wp2
      exact ⟨⟨1, by omega, rfl, rfl⟩, by simp [intOf]⟩
    · simp only [tot]
      go_wp2
      refine ⟨⟨2, by omega, by first | rfl | simp, by simp⟩, by simp [intOf]⟩
    · simp only [tot]
      obtain ⟨m, hm⟩ : ∃ m : Nat, xs0.length + xs1.length = m := ⟨_, rfl⟩
      rw [hm]
      have hml : m < 1000000000 := by omega
      have HGr := Aside0.mk (fun W => grow_own m W hml)
      go_wp2_with (first | (go_at_call 61; refine (HGr.out _).mono ?_; rintro e w1 ⟨v1, rfl, hr1, hb1⟩))
      have HB1 := Aside0.mk hb1
      have HR1 := Aside0.mk hr1
      clear hb1 hr1 HGr
      go_loopw [6, 27] (fun v i wr => ∃ k : Nat, k ≤ 2 ∧ i = .int .i64 k ∧ Aside0 (wr.ownsRow w.heap.size 5 1 v (catTo xs0 xs1 k).length ((catTo xs0 xs1 k).map (Value.int .u8))) ∧ Aside0 (Below w.heap.size w wr)) (fun _ i _ => 2 - (intOf i).toNat)
      case atStart => exact ⟨0, by omega, rfl, HR1, HB1⟩
      case round =>
        clear HR1 HB1
        obtain ⟨k, hk, rfl, HR, HB⟩ := hrel
        have z0 := pw_cell_below HB.out y0
        have z1 := pw_cell_below HB.out y1
        obtain rfl | rfl | rfl : k = 0 ∨ k = 1 ∨ k = 2 := by omega
        · obtain ⟨v', w', hr, ho, hg⟩ := app_bytes wr 28 w.heap.size _ (catTo xs0 xs1 0) xs0 A0 c0 HR.out (Kd.C_below (Kd.C_below H0.out (Below.refl _ _)) HB.out) HB.out.size (by simp [catTo]; omega)
          have HRR := Aside0.mk hr
          have HOO := Aside0.mk ho
          have HGG := Aside0.mk (HB.out.grown hg HB.out.size (own_base HR.out))
          clear ho hr hg
          go_wp2_with (first | (at_builtin; refine Gen.wpList_append_run' _ rfl (.tmp 31) (.tmp 32) 28 28 rfl _ _ (by first | rfl | (simp [Act.eval, Act.put]; done)) (by first | rfl | (simp [Act.eval, Act.put]; done)) HRR.out ?_))
          go_roundw
          case rel => exact ⟨1, by omega, rfl, ⟨by simpa [catTo] using HOO.out⟩, HGG⟩
          case measure => simp [intOf]
        · obtain ⟨v', w', hr, ho, hg⟩ := app_bytes wr 28 w.heap.size _ (catTo xs0 xs1 1) xs1 A1 c1 HR.out (Kd.C_below H1.out HB.out) HB.out.size (by simp [catTo]; omega)
          have HRR := Aside0.mk hr
          have HOO := Aside0.mk ho
          have HGG := Aside0.mk (HB.out.grown hg HB.out.size (own_base HR.out))
          clear ho hr hg
          go_wp2_with (first | (at_builtin; refine Gen.wpList_append_run' _ rfl (.tmp 31) (.tmp 32) 28 28 rfl _ _ (by first | rfl | (simp [Act.eval, Act.put]; done)) (by first | rfl | (simp [Act.eval, Act.put]; done)) HRR.out ?_))
          go_roundw
          case rel => exact ⟨2, by omega, rfl, ⟨by simpa [catTo] using HOO.out⟩, HGG⟩
          case measure => simp [intOf]
        · go_wp2
          go_ret
          exact ⟨_, rfl, by simpa [catTo] using HR.out, HB.out⟩
end Go.Proofs.Ytncmkcggkgahnaa.PDsk
