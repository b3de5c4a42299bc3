-- By the session: contracts proved by hand.
import Derived.Test.YtncmkcggkgahnaaHDskA5
import Derived.Deep.RegionLaw
import Derived.Deep.RegionLawGrows
import Derived.Deep.RegionWith
import Derived.Deep.RegionHeld3
import Derived.Deep.RegionHeldLaw
import Derived.Deep.DeepCutAuto
import Derived.Deep.CutBlock
import Derived.Deep.LoopGhost
import Derived.RegionTactic
import Derived.ChangeAlike
import Derived.StillTailTactics
import Derived.Shelf.Abstract
import Derived.Maps.Own
import Derived.Maps.OwnOps
import Derived.Maps.OwnSet
import Derived.Maps.Views
import Derived.Lib.Hide
import Derived.Lib.SliceRun
import Derived.Laws.BitsAllLaws
namespace Go.Proofs.Ytncmkcggkgahnaa.PDsk
open Go.Maps
open Go.RowKit Go.Shelf Go.Proofs.YtncmkcggkgahnaaW.PrintWords Go.Proofs.YtncmkcggkgahnaaW.PrintLast Go.Proofs.YtncmkcggkgahnaaW.PrintMore
set_option linter.unusedVariables false
set_option linter.unusedSimpArgs false
/-! Buffered: function 28 -/
theorem buffered_nil (w : World) : Calls Try.prog 28 #[.pointer none] w fun e w' => e = .returned (.slice none 0 0) ∧ Below w.heap.size w w' := by
  go_enter Try.func28, Try.ntmps28
  go_wp2
  go_ret
  exact ⟨rfl, Below.refl _ _⟩
theorem set_fresh {B0 : Nat} {wr W2 : World} {base t : Nat} {cells : Array Value} {j : Nat} {u : Value} (hb : Below wr.heap.size wr W2) (hB : base ≤ wr.heap.size) (hg : W2.heap[wr.heap.size]? = some (.cells cells t (0, 0))) (ht : t ≠ 5) (hB0 : B0 ≤ wr.heap.size) :
    Below wr.heap.size wr (W2.setCell ⟨wr.heap.size, j, none⟩ u) ∧ Byt B0 W2 (W2.setCell ⟨wr.heap.size, j, none⟩ u) := by
  refine ⟨hb.setCell (p := ⟨wr.heap.size, j, none⟩) (Nat.le_refl _) _, .of_kpt (S := fun k => k = wr.heap.size) (.set (S := fun k => k = wr.heap.size) (a := ⟨wr.heap.size, j, none⟩) rfl _) (fun k e => by subst e; exact ⟨hB0, fun h => h.ne hg (fun e => ht e.symm)⟩)⟩
/-- Behind an append onto an own row nothing but that row has changed. -/
theorem byt_grown {α : Type} {R : α → List Value → Prop} {B0 base e size : Nat} {W W' : World} {v : Value} {xs : List α} (h : OwnRow R e size W base v xs) (hg : W.grownBy W' v.ownBlock) (he : e ≠ 5) (hB : B0 ≤ base) : Byt B0 W W' :=
  .of_kpt (S := fun k => v.ownBlock = some k) (.of_grown hg (fun k hk => hk)) (fun k hk => by
    obtain ⟨⟨c, h1⟩, h2⟩ := OwnRow.block h hk
    exact ⟨by omega, fun h3 => h3.ne h1 (fun e' => he e'.symm)⟩)
theorem box_facts {B0 : Nat} {w wr w2 : World} {A2 A4 : Option Addr} {c2 c4 : Nat} {x : S83} {v : Value} {Bk : List S83} (hB0 : B0 ≤ w.heap.size) (hB : Below w.heap.size w wr) (hO : Ro83 B0 wr w.heap.size v Bk)
    (hb2 : Below (wr.alloc (.cells #[.int .i64 x.f0, .int .i64 x.f1, .slice A2 x.f2.length c2] 83)).heap.size (wr.alloc (.cells #[.int .i64 x.f0, .int .i64 x.f1, .slice A2 x.f2.length c2] 83)) w2) (hd : DatV B0 w2 (.slice A4 x.f2.length c4) x.f2) :
    DatV B0 (w2.setCell ⟨wr.heap.size, 2, none⟩ (.slice A4 x.f2.length c4)) (.slice A4 x.f2.length c4) x.f2 ∧ Ro83 B0 (w2.setCell ⟨wr.heap.size, 2, none⟩ (.slice A4 x.f2.length c4)) w.heap.size v Bk ∧ Below w.heap.size w (w2.setCell ⟨wr.heap.size, 2, none⟩ (.slice A4 x.f2.length c4)) ∧
      w.heap.size ≤ (w2.setCell ⟨wr.heap.size, 2, none⟩ (.slice A4 x.f2.length c4)).heap.size := by
  have hbk := (hb2.block wr.heap.size (by rw [World.size_alloc]; exact Nat.lt_succ_self _)).trans (heap_alloc_new wr _)
  have hw2 : Below wr.heap.size wr w2 := below_then (below_alloc (Below.refl _ _) _) (by rw [World.size_alloc]; exact Nat.le_succ _) hb2
  have hs := hB.size
  obtain ⟨h1, h2⟩ := set_fresh (B0 := B0) (base := w.heap.size) (j := 2) (u := .slice A4 x.f2.length c4) hw2 hs hbk (by decide) (by omega)
  exact ⟨hd.byt h2, Ro83.below hO h1, below_then hB hs h1, Nat.le_trans hs h1.size⟩
set_option maxHeartbeats 4000000 in
set_option maxRecDepth 100000 in
theorem buffered_any (B0 : Nat) (p bm n : Nat) (bv : Value) (F : List S77) (B : List S83) (w : World) (h : DiskAt B0 w p bm n bv F B) (hs : Sizes n F B) :
    Calls Try.prog 28 #[.pointer (some ⟨p, 0, none⟩)] w fun e w' => ∃ v, e = .returned v ∧ Ro83 B0 w' w.heap.size v B ∧ Below w.heap.size w w' := by
  obtain ⟨s1, s2, s3, s4⟩ := hs
  obtain ⟨A, c, e, hc, hr⟩ := Ro83.rd (bm := bm) h.row (fun k hk => (h.ne.2.1 k hk).2)
  subst e
  have y1 : w.cell? ⟨p, 1, none⟩ = some (.slice A B.length c) := blk_cell h.hp 1
  have HRD := Aside0.mk hr
  have hB0 : B0 ≤ w.heap.size := by have := h.lo.1; have := h.ne.2.2.2.2.2.1; omega
  clear h hr
  go_enter Try.func28, Try.ntmps28
  go_wp2
  go_loopw [3, 13] (fun v i wr => ∃ k : Nat, k ≤ B.length ∧ i = .int .i64 k ∧ Aside0 (Ro83 B0 wr w.heap.size v (B.take k)) ∧ Aside0 (Below w.heap.size w wr)) (fun _ i _ => B.length - (intOf i).toNat)
  case atStart => exact ⟨0, by omega, rfl, ⟨OwnRow.none_ _ _ _ _ _⟩, ⟨Below.refl _ _⟩⟩
  case round =>
    obtain ⟨k, hk, rfl, HO, HB⟩ := hrel
    by_cases hlt : k < B.length
    · have q1 : (0 : Int) ≤ (k : Int) := by omega
      have q2 : (k : Int) < (B.length : Int) := by omega
      obtain ⟨ad, v, e, x0, x1, x2, hv⟩ := (HRD.out.kept (Kpt.of_below HB.out) (.of_below HB.out)).at_ k hlt
      subst e
      have hok : OpOk (rdB B k) := s4 _ (by unfold rdB; rw [List.getD_eq_getElem?_getD, List.getElem?_eq_getElem hlt]; exact List.getElem_mem hlt)
      obtain ⟨A2, c2, rfl, hc2, hC2⟩ := hv.len
      obtain ⟨x, hx⟩ : ∃ x, rdB B k = x := ⟨_, rfl⟩
      have HC2 := Aside0.mk hC2
      rw [hx] at x0 x1 x2 hok HC2 hc2
      have HX := Aside0.mk hx
      have HTK := Aside0.mk (show B.take (k + 1) = B.take k ++ [x] by rw [← hx, List.take_add_one, List.getElem?_eq_getElem hlt]; simp [rdB, List.getD_eq_getElem?_getD, List.getElem?_eq_getElem hlt])
      have hlk : (B.take k).length = k := by simp; omega
      clear hx hv hC2
      have HV : Aside0 (slices_Clone_byte_byte.f x.f2 = some x.f2) := ⟨by unfold slices_Clone_byte_byte.f; rw [if_pos (by have := hok.2.2.2; omega)]⟩
      go_wp2_with (first
        | (go_at_call 46; (with_reducible refine (slices_Clone_byte_byte.calls A2 c2 x.f2 x.f2 _ ?_ hc2 HV.out).mono ?_); (focus (exact Kd.C_alloc HC2.out _)); rintro e w2 ⟨v2, rfl, hr2, hb2⟩; obtain ⟨A4, c4, rfl⟩ := Kd.R_slice hr2; have HD2 := Aside0.mk (DatV.of_R (B0 := B0) hr2); have HB2 := Aside0.mk hb2; have hbk := (hb2.block wr.heap.size (by rw [World.size_alloc]; exact Nat.lt_succ_self _)).trans (heap_alloc_new wr _); have HBK := Aside0.mk hbk; have b0 := blk_cell hbk 0; have b1 := blk_cell hbk 1; have b2 := blk_cell hbk 2; have f2 := blk_frozen hbk 2; have HX3 := Aside0.mk (box_facts hB0 HB.out HO.out hb2 HD2.out); clear hr2 hb2 hbk)
        | (at_builtin; refine OwnRow.append (R := E83 B0 (w2.setCell ⟨wr.heap.size, 2, none⟩ (.slice A4 x.f2.length c4))) (w0 := w) w.heap.size rfl (.tmp 21) (.tmp 23) 58 83 _ 3 40 rfl Try.underlying58 info83 (by decide) (by decide) (by decide) _ (B.take k) x [.int .i64 x.f0, .int .i64 x.f1, .slice A4 x.f2.length c4] (by first | rfl | (simp [Act.eval, Act.put]; done)) (by first | rfl | (simp [Act.eval, Act.put]; done)) ⟨_, rfl, HX3.out.1⟩ rfl (by simp [Value.oneCell']) HX3.out.2.1 HX3.out.2.2.1 HX3.out.2.2.2 (by omega) ?_; intro v5 w5 hr5 hb5 hg5 hat5; have HO5 := Aside0.mk (OwnRow.imp_ hr5 (fun _ _ => E83.byt (byt_grown HX3.out.2.1 hg5 (by decide) hB0))); have HB5 := Aside0.mk hb5; clear hr5 hb5 hg5 hat5))
      refine ⟨⟨k + 1, by omega, by go_num, ⟨by rw [HTK.out]; exact HO5.out⟩, HB5⟩, ?_⟩
      simp [intOf]; omega
    · obtain rfl : k = B.length := by omega
      go_wp2
      go_ret
      have := HO.out
      rw [List.take_length] at this
      exact ⟨_, rfl, this, HB.out⟩
end Go.Proofs.Ytncmkcggkgahnaa.PDsk
