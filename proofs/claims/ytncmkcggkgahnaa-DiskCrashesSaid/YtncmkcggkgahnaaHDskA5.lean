-- By the session: contracts proved by hand.
import Derived.Test.YtncmkcggkgahnaaHDskA4
import Derived.Deep.RegionLaw
import Derived.Deep.RegionLawGrows
import Derived.Deep.RegionWith
import Derived.Deep.RegionHeld3
import Derived.Deep.RegionHeldLaw
import Derived.Deep.DeepCutAuto
import Derived.Deep.CutBlock
import Derived.Deep.LoopGhost
import Derived.RegionTactic
import Derived.ChangeAlike
import Derived.StillTailTactics
import Derived.Shelf.Abstract
import Derived.Maps.Own
import Derived.Maps.OwnOps
import Derived.Maps.OwnSet
import Derived.Maps.Views
import Derived.Lib.Hide
import Derived.Lib.SliceRun
import Derived.Laws.BitsAllLaws
namespace Go.Proofs.Ytncmkcggkgahnaa.PDsk
open Go.Maps
open Go.RowKit Go.Shelf Go.Proofs.YtncmkcggkgahnaaW.PrintWords Go.Proofs.YtncmkcggkgahnaaW.PrintLast Go.Proofs.YtncmkcggkgahnaaW.PrintMore
set_option linter.unusedVariables false
set_option linter.unusedSimpArgs false
/-! Sync, Crash, Buffered: functions 44, 29, 28 -/
theorem Ro83.rd {B0 base : Nat} {W : World} {bm : Nat} {bv : Value} {B : List S83} (h : Ro83 B0 W base bv B) (hne : ∀ k, bv.ownBlock = some k → k ≠ bm) : ∃ A c, bv = .slice A B.length c ∧ B.length ≤ c ∧ Rd83 B0 W bm A B := by
  obtain ⟨A, c, rfl, hc, hr⟩ := OwnRow.reads h
  refine ⟨A, c, rfl, hc, hr, fun ad e hn => ?_⟩
  subst e
  obtain ⟨inner, ho, _⟩ := h
  obtain ⟨g, cap, e, _, hl⟩ := World.ownsRow.form ho hn
  injection e with e
  injection e with e
  subst e
  exact ⟨hl, hne g rfl⟩
theorem Rd83.take {B0 : Nat} {W : World} {bm : Nat} {A : Option Addr} {B : List S83} (h : Rd83 B0 W bm A B) (q : Nat) (hq : q ≤ B.length) : Rd83 B0 W bm A (B.take q) := by
  have hl : (B.take q).length = q := by simp; omega
  refine ⟨⟨rfl, by have := h.row.2.1; omega, fun hn => ?_⟩, fun ad e hn => h.away ad e (by omega)⟩
  obtain ⟨ad, e, hc⟩ := h.row.2.2 (by omega)
  refine ⟨ad, e, fun j p hj => hc j p ?_⟩
  rw [List.getElem?_take] at hj
  split at hj
  · exact hj
  · cases hj
theorem Rd83.one {B0 : Nat} {W : World} {bm g : Nat} {x : S83} {v : Value} (hg : W.heap[g]? = some (.cells #[.int .i64 x.f0, .int .i64 x.f1, v] 83 (0, 0))) (hv : DatV B0 W v x.f2) (hne : g ≠ bm) : Rd83 B0 W bm (some ⟨g, 0, none⟩) [x] := by
  refine ⟨⟨rfl, by simp, fun _ => ⟨_, rfl, fun j p hj => ?_⟩⟩, fun ad e _ => by injection e with e; subst e; exact ⟨blk_lt hg, hne⟩⟩
  rcases j with _ | j
  · simp at hj
    subst hj
    refine ⟨_, rfl, ⟨v, rfl, hv⟩, fun i u hu => ?_⟩
    rw [Nat.zero_mul, Nat.zero_add, add_plain]
    have := blk_cell hg i
    rw [this]
    simpa using hu
  · simp at hj
theorem DiskAt.files {B0 : Nat} {W : World} {p bm n : Nat} {bv : Value} {F : List S77} {B : List S83} (h : DiskAt B0 W p bm n bv F B) : FilesAt B0 W bm n F := h.hm
/-- The disk behind its buffer was given up, its files being F'. -/
theorem disk_end {B0 : Nat} {w w1 : World} {p bm n n' : Nat} {bv : Value} {F F' : List S77} {B : List S83} (h : DiskAt B0 w p bm n bv F B) (hF : FilesAt B0 w1 bm n' F') (hk : Kpt (fun k => k = bm) w w1) :
    DiskAt B0 (w1.setCell ⟨p, 1, none⟩ (.slice none 0 0)) p bm n' (.slice none 0 0) F' [] ∧ Kpt (DS p bm bv) w (w1.setCell ⟨p, 1, none⟩ (.slice none 0 0)) := by
  obtain ⟨n1, n2, n3, n4, n5, n6, n7⟩ := h.ne
  have hp1 := hk.blk h.hp n1
  have k2 : Kpt (fun k => k = p) w1 (w1.setCell ⟨p, 1, none⟩ (.slice none 0 0)) := .set (S := fun k => k = p) (a := ⟨p, 1, none⟩) rfl _
  have b2 : Byt B0 w1 (w1.setCell ⟨p, 1, none⟩ (.slice none 0 0)) := .of_kpt k2 (fun k e => by subst e; exact ⟨h.lo.1, fun ht => ht.ne hp1 (by decide)⟩)
  refine ⟨⟨blk_put hp1 1 _ (by simp), hF.kept k2 b2 (fun e => n1 e.symm), OwnRow.none_ _ _ _ _ _, h.lo⟩, (hk.mono (fun k e => .inr (.inl e))).trans (k2.mono (fun k e => .inl e))⟩
theorem sync_nil (w : World) : Calls Try.prog 44 #[.pointer none] w fun e w' => e = .returned (.tuple #[]) ∧ Below w.heap.size w w' := by
  go_enter Try.func44, Try.ntmps44
  go_wp2
  go_end0
  exact ⟨rfl, Below.refl _ _⟩
def Sizes (n : Nat) (F : List S77) (B : List S83) : Prop := n + B.length < 100000 ∧ B.length < 100 ∧ LenF F 100000 ∧ ∀ x, x ∈ B → OpOk x
set_option maxHeartbeats 2000000 in
set_option maxRecDepth 100000 in
theorem sync_any (B0 : Nat) (p bm n : Nat) (bv : Value) (F : List S77) (B : List S83) (w : World) (h : DiskAt B0 w p bm n bv F B) (hs : Sizes n F B) :
    Calls Try.prog 44 #[.pointer (some ⟨p, 0, none⟩)] w fun e w' => e = .returned (.tuple #[]) ∧ DiskAt B0 w' p bm (n + B.length) (.slice none 0 0) (B.foldl doF F) [] ∧ Kpt (DS p bm bv) w w' := by
  obtain ⟨s1, s2, s3, s4⟩ := hs
  obtain ⟨A, c, e, hc, hr⟩ := Ro83.rd (bm := bm) h.row (fun k hk => (h.ne.2.1 k hk).2)
  subst e
  have y0 : w.cell? ⟨p, 0, none⟩ = some (.map (some bm)) := blk_cell h.hp 0
  have y1 : w.cell? ⟨p, 1, none⟩ = some (.slice A B.length c) := blk_cell h.hp 1
  have HD := Aside0.mk (do_any B0 bm n F A c B w.drew (h.files.below (below_drew (Below.refl _ _))) h.lo.2 (hr.kept (Kpt.drewN _ _ 1) (.of_below (below_drew (Below.refl _ _)))) hc (by omega) 100000 (by omega) s3 s4 (by omega))
  have HA := Aside0.mk h
  have HNE := Aside0.mk h.ne
  clear h hr
  go_enter Try.func44, Try.ntmps44
  go_wp2_with fail
  go_region_held3 (fun w' : World => w'.cell? ⟨p, 0, none⟩ = some (.map (some bm)) ∧ w'.cell? ⟨p, 1, none⟩ = some (.slice A B.length c)) (first | exact ⟨y0, y1⟩ | exact ⟨HK.out.cell y0 HNE.out.1, HK.out.cell y1 HNE.out.1⟩)
    (first | (go_at_call 47; (with_reducible refine HD.out.mono ?_); rintro e w1 ⟨rfl, hF1, hk1⟩; have HF1 := Aside0.mk hF1; have HK : Aside0 (Kpt (fun k => k = bm) w w1) := ⟨(Kpt.drewN _ _ 1).trans hk1⟩; clear hF1 hk1))
  have hp1 := HK.out.blk HA.out.hp HNE.out.1
  have z1 : w1.cell? ⟨p, 1, none⟩ = some (.slice A B.length c) := blk_cell hp1 1
  have f1 := blk_frozen hp1 1
  clear y0 y1 hp1
  go_wp2
  go_end0
  have := disk_end HA.out HF1.out HK.out
  exact ⟨rfl, this.1, this.2⟩
theorem crash_nil (keep torn : Int) (w : World) : Calls Try.prog 29 #[.pointer none, .int .i64 keep, .int .i64 torn] w fun e w' => e = .returned (.tuple #[]) ∧ Below w.heap.size w w' := by
  go_enter Try.func29, Try.ntmps29
  go_wp2
  refine bodyPost_ret (results_none rfl _ _ _) rfl ?_
  exact ⟨rfl, Below.refl _ _⟩
/-- A number brought into 0..n. -/
def clamp (k : Int) (n : Nat) : Nat := (max 0 (min k (n : Int))).toNat
theorem clamp_le (k : Int) (n : Nat) : clamp k n ≤ n := by unfold clamp; omega
theorem clamp_eq (k : Int) (n : Nat) : max 0 (min k (n : Int)) = (clamp k n : Int) := by unfold clamp; omega
def crashF (F : List S77) (B : List S83) (keep torn : Int) : List S77 :=
  let q := clamp keep B.length
  let F1 := (B.take q).foldl doF F
  if q < B.length ∧ (rdB B q).f0 = 2 then doF F1 ⟨2, (rdB B q).f1, (rdB B q).f2.take (clamp torn (rdB B q).f2.length)⟩ else F1
set_option maxHeartbeats 4000000 in
set_option maxRecDepth 100000 in
theorem crash_any (B0 : Nat) (p bm n : Nat) (bv : Value) (F : List S77) (B : List S83) (keep torn : Int) (w : World) (h : DiskAt B0 w p bm n bv F B) (hs : Sizes n F B) (hs2 : LenF F 80000) :
    Calls Try.prog 29 #[.pointer (some ⟨p, 0, none⟩), .int .i64 keep, .int .i64 torn] w fun e w' => e = .returned (.tuple #[]) ∧ DiskAt B0 w' p bm (n + B.length) (.slice none 0 0) (crashF F B keep torn) [] ∧ Kpt (DS p bm bv) w w' := by
  obtain ⟨s1, s2, s3, s4⟩ := hs
  obtain ⟨A, c, e, hc, hr⟩ := Ro83.rd (bm := bm) h.row (fun k hk => (h.ne.2.1 k hk).2)
  subst e
  have y0 : w.cell? ⟨p, 0, none⟩ = some (.map (some bm)) := blk_cell h.hp 0
  have y1 : w.cell? ⟨p, 1, none⟩ = some (.slice A B.length c) := blk_cell h.hp 1
  obtain ⟨q, hq⟩ : ∃ q, clamp keep B.length = q := ⟨_, rfl⟩
  have hql : q ≤ B.length := hq ▸ clamp_le _ _
  have hqe : max 0 (min keep (B.length : Int)) = (q : Int) := hq ▸ clamp_eq _ _
  have hlq : (B.take q).length = q := by simp; omega
  have HDo := do_any B0 bm n F A c (B.take q) w.drew (h.files.below (below_drew (Below.refl _ _))) h.lo.2 ((hr.kept (Kpt.drewN _ _ 1) (.of_below (below_drew (Below.refl _ _)))).take q hql) (by omega) (by omega) 100000 (by omega) s3 (fun x hx => s4 x (List.mem_of_mem_take hx)) (by omega)
  rw [hlq] at HDo
  have HD := Aside0.mk HDo
  have HA := Aside0.mk h
  have HNE := Aside0.mk h.ne
  have HRD := Aside0.mk hr
  have HQ := Aside0.mk hq
  clear h hr HDo hq hlq
  have hqc : q ≤ c := by omega
  go_enter Try.func29, Try.ntmps29
  go_wp2_with fail
  go_region_held3 (fun w' : World => w'.cell? ⟨p, 0, none⟩ = some (.map (some bm)) ∧ w'.cell? ⟨p, 1, none⟩ = some (.slice A B.length c)) (first | exact ⟨y0, y1⟩ | exact ⟨HK.out.cell y0 HNE.out.1, HK.out.cell y1 HNE.out.1⟩)
    (first | (go_at_call 47; (with_reducible refine HD.out.mono ?_); rintro e w1 ⟨rfl, hF1, hk1⟩; have HF1 := Aside0.mk hF1; have HK : Aside0 (Kpt (fun k => k = bm) w w1) := ⟨(Kpt.drewN _ _ 1).trans hk1⟩; clear hF1 hk1))
  have hb1 : Byt B0 w w1 := HA.out.files.byt HA.out.lo.2 HK.out
  have hp1 := HK.out.blk HA.out.hp HNE.out.1
  have z0 : w1.cell? ⟨p, 0, none⟩ = some (.map (some bm)) := blk_cell hp1 0
  have z1 : w1.cell? ⟨p, 1, none⟩ = some (.slice A B.length c) := blk_cell hp1 1
  have f1 := blk_frozen hp1 1
  have HP1 := Aside0.mk hp1
  have HR1 := Aside0.mk (HRD.out.kept HK.out hb1)
  clear y0 y1 hp1 hb1
  by_cases hlt : q < B.length
  · have q1 : (0 : Int) ≤ (q : Int) := by omega
    have q2 : (q : Int) < (B.length : Int) := by omega
    obtain ⟨ad, v, e, x0, x1, x2, hv⟩ := HR1.out.at_ q hlt
    subst e
    have hok : OpOk (rdB B q) := s4 _ (by unfold rdB; rw [List.getD_eq_getElem?_getD, List.getElem?_eq_getElem hlt]; exact List.getElem_mem hlt)
    obtain ⟨A2, c2, rfl, hc2, hC2⟩ := hv.len
    have HV := Aside0.mk hv
    have HOK := Aside0.mk hok
    obtain ⟨x, hx⟩ : ∃ x, rdB B q = x := ⟨_, rfl⟩
    rw [hx] at x0 x1 x2 HV HOK hc2
    have HX := Aside0.mk hx
    clear hx hv hok hC2
    by_cases hkd : x.f0 = 2
    · rw [hkd] at x0
      obtain ⟨m, hm⟩ : ∃ m, clamp torn x.f2.length = m := ⟨_, rfl⟩
      have hml : m ≤ x.f2.length := hm ▸ clamp_le _ _
      have hme : max 0 (min torn (x.f2.length : Int)) = (m : Int) := hm ▸ clamp_eq _ _
      have hmc : m ≤ c2 := by omega
      have HM := Aside0.mk hm
      have hfz : (w1.alloc (Obj.cells #[.int .i64 2, .int .i64 x.f1, .slice A2 x.f2.length c2] 83)).frozen? ⟨w1.heap.size, 2, none⟩ = false := blk_frozen (heap_alloc_new w1 _) 2
      clear hm
      go_wp2_with fail
      obtain ⟨y, hy⟩ : ∃ y : S83, y = ⟨2, x.f1, x.f2.take m⟩ := ⟨_, rfl⟩
      have hyl : (x.f2.take m).length = m := by simp; omega
      obtain ⟨W5, hW5⟩ : ∃ W5, w1.alloc (Obj.cells #[.int .i64 2, .int .i64 x.f1, .slice A2 m c2] 83) = W5 := ⟨_, rfl⟩
      have hbk : W5.heap[w1.heap.size]? = some (.cells #[.int .i64 2, .int .i64 x.f1, .slice A2 m c2] 83 (0, 0)) := hW5 ▸ heap_alloc_new w1 _
      have HB5 : Aside0 (Below w1.heap.size w1 W5) := ⟨hW5 ▸ below_alloc (Below.refl _ _) _⟩
      rw [hW5]
      have b0 : W5.cell? ⟨w1.heap.size, 0, none⟩ = some (.int .i64 2) := blk_cell hbk 0
      have b1 : W5.cell? ⟨w1.heap.size, 1, none⟩ = some (.int .i64 x.f1) := blk_cell hbk 1
      have b2 : W5.cell? ⟨w1.heap.size, 2, none⟩ = some (.slice A2 m c2) := blk_cell hbk 2
      have b3 : W5.cell? ⟨p, 0, none⟩ = some (.map (some bm)) := pw_cell_below HB5.out z0
      have hB6 : Below W5.heap.size W5 (W5.drew.alloc (Obj.cells #[.int .i64 2, .int .i64 x.f1, .slice A2 m c2] 83)) := below_alloc (below_drew (Below.refl _ _)) _
      have hB56 := below_then HB5.out HB5.out.size hB6
      have hF6 := HF1.out.below hB56
      have hV6 : DatV B0 (W5.drew.alloc (Obj.cells #[.int .i64 2, .int .i64 x.f1, .slice A2 m c2] 83)) (.slice A2 m c2) y.f2 := by rw [hy]; exact (HV.out.byt (.of_below hB56)).take hml
      have hblt := HF1.out.lt
      have hbne : W5.heap.size ≠ bm := by have := HB5.out.size; omega
      have hR6 : Rd83 B0 (W5.drew.alloc (Obj.cells #[.int .i64 2, .int .i64 x.f1, .slice A2 m c2] 83)) bm (some ⟨W5.heap.size, 0, none⟩) [y] := Rd83.one (x := y) (v := .slice A2 m c2) (by rw [hy]; exact heap_alloc_new W5.drew _) hV6 hbne
      have hlf : LenF ((B.take q).foldl doF F) 100000 := fun z hz => by
        have := lenF_fold (fun y hy => s4 y (List.mem_of_mem_take hy)) hs2 z hz
        simp at this
        omega
      have hyok : OpOk y := by rw [hy]; exact ⟨.inr (.inl rfl), HOK.out.2.1, HOK.out.2.2.1, by have := HOK.out.2.2.2; show (x.f2.take m).length ≤ 100; omega⟩
      have HD2 := Aside0.mk (show Calls Try.prog 47 #[.map (some bm), .slice (some ⟨W5.heap.size, 0, none⟩) 1 1] (W5.alloc (Obj.cells #[.int .i64 2, .int .i64 x.f1, .slice A2 m c2] 83)).drew _ from do_any B0 bm (n + q) _ _ 1 [y] _ hF6 HA.out.lo.2 hR6 (by simp) (by simp; omega) 100000 (by omega) hlf (fun z hz => by rw [List.mem_singleton.1 hz]; exact hyok) (by simp))
      have HY := Aside0.mk hy
      have hpne : p ≠ bm := HNE.out.1
      have hbx : w1.heap.size ≠ bm := by omega
      clear hW5 hbk hF6 hV6 hR6 hlf hyok hB6 x0 x1 x2 z0 z1 f1 hfz hy
      go_region_held3 (fun w' : World => w'.cell? ⟨p, 0, none⟩ = some (.map (some bm)) ∧ w'.cell? ⟨w1.heap.size, 0, none⟩ = some (.int .i64 2) ∧ w'.cell? ⟨w1.heap.size, 1, none⟩ = some (.int .i64 x.f1) ∧ w'.cell? ⟨w1.heap.size, 2, none⟩ = some (.slice A2 m c2))
        (first | exact ⟨b3, b0, b1, b2⟩ | exact ⟨pw_cell_below (below_alloc (Below.refl _ W5) _) b3, pw_cell_below (below_alloc (Below.refl _ W5) _) b0, pw_cell_below (below_alloc (Below.refl _ W5) _) b1, pw_cell_below (below_alloc (Below.refl _ W5) _) b2⟩ | exact ⟨HK6.out.cell b3 hpne, HK6.out.cell b0 hbx, HK6.out.cell b1 hbx, HK6.out.cell b2 hbx⟩)
        (first | (go_at_call 47; (with_reducible refine HD2.out.mono ?_); rintro e w6 ⟨rfl, hF7, hk7⟩; have HF7 := Aside0.mk hF7; have HK6 : Aside0 (Kpt (fun k => k = bm) W5 w6) := ⟨(Kpt.of_below (below_alloc (below_drew (Below.refl _ _)) _)).trans hk7⟩; clear hF7 hk7))
      have HK7 : Aside0 (Kpt (fun k => k = bm) w w6) := ⟨HK.out.trans ((Kpt.of_below HB5.out).trans HK6.out)⟩
      have hp7 := HK7.out.blk HA.out.hp hpne
      have z1 : w6.cell? ⟨p, 1, none⟩ = some (.slice (some ad) B.length c) := blk_cell hp7 1
      have f1 := blk_frozen hp7 1
      clear b0 b1 b2 b3 hp7
      go_wp2
      go_end0
      have h := disk_end HA.out (HF7.out.mono (n' := n + B.length) (by simp; omega)) HK7.out
      have hce : crashF F B keep torn = [y].foldl doF ((B.take q).foldl doF F) := by
        unfold crashF
        simp only [HQ.out, HX.out, HM.out]
        rw [if_pos ⟨hlt, hkd⟩, HY.out]
        rfl
      rw [hce]
      exact ⟨rfl, h.1, h.2⟩
    · have hkb : (x.f0 == 2) = false := by simpa using hkd
      go_wp2
      go_end0
      have h := disk_end HA.out (HF1.out.mono (n' := n + B.length) (by omega)) HK.out
      have hce : crashF F B keep torn = (B.take q).foldl doF F := by unfold crashF; simp only [HQ.out, HX.out]; rw [if_neg (fun h => hkd h.2)]
      rw [hce]
      exact ⟨rfl, h.1, h.2⟩
  · obtain rfl : q = B.length := by omega
    go_wp2
    go_end0
    have h := disk_end HA.out HF1.out HK.out
    have hce : crashF F B keep torn = (B.take B.length).foldl doF F := by unfold crashF; simp only [HQ.out]; rw [if_neg (by omega)]
    rw [hce]
    exact ⟨rfl, h.1, h.2⟩
end Go.Proofs.Ytncmkcggkgahnaa.PDsk
