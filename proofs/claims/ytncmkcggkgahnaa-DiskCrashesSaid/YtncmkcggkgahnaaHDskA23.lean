-- By the session: contracts proved by hand.
import Derived.Test.YtncmkcggkgahnaaHDskA22
import Derived.RangeFuncBox
import Derived.RangeFuncWrites
import Derived.RangeFuncLeaves
import Derived.RangeFuncCalls
import Derived.Shelf.Abstract
import Derived.WalkKit
import Derived.OwnWalkIn
import Derived.TacticsInMore
import Derived.LoopNIn
import Derived.LoopIn
import Derived.OrdersIn
import Derived.RegionIn
import Derived.Deep.RegionHeld
import Derived.Deep.RegionHeldLaw
import Derived.Deep.RegionLaw
import Derived.Maps.AppendAt
import Derived.Maps.Own
import Derived.Maps.OwnOps
import Derived.Maps.OwnSet
import Derived.Maps.Views
import Derived.Lib.SliceRun
import Derived.Lib.SlBytesConst
namespace Go.Proofs.Ytncmkcggkgahnaa.PDsk
open Go.Maps
open Go.RowKit Go.Shelf Go.Sort Go.Proofs.YtncmkcggkgahnaaW.PrintWords Go.Proofs.YtncmkcggkgahnaaW.PrintLast Go.Proofs.YtncmkcggkgahnaaW.PrintMore
set_option linter.unusedVariables false
set_option linter.unusedSimpArgs false
/-! the law DiskCrashes, in plain words -/
def addOne (no : Int) (xs : List Int) (y : S77) : S77 := if y.f0 = no then ⟨no, y.f1 ++ xs⟩ else y
theorem keep_map (no : Int) (xs : List Int) : ∀ l : List S77, l.flatMap (keepOne ⟨2, no, xs⟩) = l.map (addOne no xs)
  | [] => rfl
  | y :: l => by
    rw [List.flatMap_cons, keep_map no xs l, List.map_cons]
    unfold keepOne addOne
    by_cases e : y.f0 = no
    · rw [if_pos e, if_pos rfl, if_pos e]; rfl
    · rw [if_neg e, if_neg e]; rfl
theorem doF_map {F : List S77} (hr : F.Pairwise (fun a b => a.f0 < b.f0)) (no : Int) (xs : List Int) : doF F ⟨2, no, xs⟩ = F.map (addOne no xs) := by
  rw [← keep_map]
  cases hl : lookF F no with
  | none =>
    have : doF F ⟨2, no, xs⟩ = F := by unfold doF; simp [hl]
    rw [this, keep_ne (lookF_none hl)]
  | some d =>
    have : doF F ⟨2, no, xs⟩ = putF F no (d ++ xs) := by unfold doF; simp [hl]
    rw [this, keep_add (x := ⟨2, no, xs⟩) rfl hr (lookF_some hl)]
theorem addOne_nil (no : Int) : ∀ y : S77, addOne no [] y = y := fun y => by
  unfold addOne
  by_cases e : y.f0 = no
  · rw [if_pos e, List.append_nil, ← e]
  · rw [if_neg e]
theorem crash0 {F : List S77} {B : List S83} (hr : F.Pairwise (fun a b => a.f0 < b.f0)) : crashF F B 0 0 = F := by
  have h0 : ∀ n : Nat, clamp 0 n = 0 := fun n => by unfold clamp; omega
  unfold crashF
  simp only [h0, List.take_zero, List.foldl_nil]
  split
  · rw [doF_map hr]
    rw [show addOne (rdB B 0).f1 [] = id from funext (addOne_nil _), List.map_id]
  · rfl
theorem begOne_refl (x : S77) : begOne x x = true := by unfold begOne; rw [List.take_length]; simp
theorem begB_refl (a : List S77) : begB a a = true := begB_of rfl (fun i _ => begOne_refl _)
theorem begOne_add (no : Int) (xs : List Int) (m : Nat) (y : S77) : begOne (addOne no (xs.take m) y) (addOne no xs y) = true := by
  unfold addOne
  by_cases e : y.f0 = no
  · rw [if_pos e, if_pos e]
    unfold begOne
    have h1 : (y.f1 ++ xs.take m).length ≤ (y.f1 ++ xs).length := by simp; omega
    have h2 : y.f1 ++ xs.take m = (y.f1 ++ xs).take (y.f1 ++ xs.take m).length := by
      rw [List.length_append, List.take_append, List.take_of_length_le (l := y.f1) (by omega), Nat.add_sub_cancel_left, List.length_take]
      congr 1
      rw [← List.take_take, List.take_length]
    simp only [decide_eq_true h1, Bool.and_true]
    rw [← h2]
    simp
  · rw [if_neg e, if_neg e]; exact begOne_refl y
theorem rdF_map (f : S77 → S77) {l : List S77} {i : Nat} (hi : i < l.length) : rdF (l.map f) i = f (rdF l i) := by
  unfold rdF
  rw [List.getD_eq_getElem?_getD, List.getD_eq_getElem?_getD, List.getElem?_map, List.getElem?_eq_getElem hi]
  rfl
theorem crash_begins {F : List S77} {B : List S83} (hr : F.Pairwise (fun a b => a.f0 < b.f0)) (keep torn : Int) : ∃ j, j ≤ B.length ∧ begB (crashF F B keep torn) ((B.take j).foldl doF F) = true := by
  have hq := clamp_le keep B.length
  obtain ⟨q, hqe⟩ : ∃ q, clamp keep B.length = q := ⟨_, rfl⟩
  rw [hqe] at hq
  unfold crashF
  simp only [hqe]
  split
  · rename_i hs
    refine ⟨q + 1, by omega, ?_⟩
    have hr1 : ((B.take q).foldl doF F).Pairwise (fun a b => a.f0 < b.f0) := fold_rise hr
    have hx : rdB B q = ⟨2, (rdB B q).f1, (rdB B q).f2⟩ := by
      have := hs.2
      cases h : rdB B q with
      | mk a b c => rw [h] at this; simp at this; rw [this]
    have hq1 : q < B.length := hs.1
    have hgt : B[q]? = some (rdB B q) := by unfold rdB; rw [List.getD_eq_getElem?_getD, List.getElem?_eq_getElem hq1]; rfl
    have ht : (B.take (q + 1)).foldl doF F = doF ((B.take q).foldl doF F) ⟨2, (rdB B q).f1, (rdB B q).f2⟩ := by
      rw [← hx, List.take_add_one, hgt, Option.toList_some, List.foldl_append]
      rfl
    rw [ht, doF_map hr1, doF_map hr1]
    refine begB_of (by simp) (fun i hi => ?_)
    rw [List.length_map] at hi
    rw [rdF_map _ hi, rdF_map _ hi]
    exact begOne_add _ _ _ _
  · exact ⟨q, hq, begB_refl _⟩
def anyB (X F : List S77) (B : List S83) (i : Nat) : Bool := (List.range i).any (fun j => begB X ((B.take j).foldl doF F))
theorem anyB_zero (X F : List S77) (B : List S83) : anyB X F B 0 = false := rfl
theorem anyB_succ (X F : List S77) (B : List S83) (i : Nat) : anyB X F B (i + 1) = (anyB X F B i || begB X ((B.take i).foldl doF F)) := by
  unfold anyB
  rw [List.range_succ, List.any_append]
  simp
theorem anyB_all {F : List S77} {B : List S83} (hr : F.Pairwise (fun a b => a.f0 < b.f0)) (keep torn : Int) : anyB (crashF F B keep torn) F B (B.length + 1) = true := by
  obtain ⟨j, hj, h⟩ := crash_begins (B := B) hr keep torn
  unfold anyB
  rw [List.any_eq_true]
  exact ⟨j, List.mem_range.2 (by omega), h⟩
/-! the walk -/
theorem DiskAt.lt_of {B0 : Nat} {W : World} {p bm n : Nat} {bv : Value} {F : List S77} {B : List S83} (h : DiskAt B0 W p bm n bv F B) {k : Nat} (hk : DS p bm bv k) : k < W.heap.size := by
  obtain ⟨_, _, _, _, h5, h6, h7⟩ := h.ne
  rcases hk with rfl | rfl | hk
  · exact h6
  · exact h7
  · exact (h5 k hk).2.2
theorem two_dd {B0 : Nat} {W W' : World} {p bm n p2 bm2 n2 : Nat} {bv bvn bv2 : Value} {F F2 : List S77} {B B2 : List S83} (hd : DiskAt B0 W p bm n bv F B) (he : DiskAt B0 W p2 bm2 n2 bv2 F2 B2) (ap : ∀ k, DS p bm bv k → DS p2 bm2 bv2 k → False)
    (hk : Kpt (DS p bm bv) W W') (ho : ∀ k, bvn.ownBlock = some k → bv.ownBlock = some k ∨ W.heap.size ≤ k) : DiskAt B0 W' p2 bm2 n2 bv2 F2 B2 ∧ (∀ k, DS p bm bvn k → DS p2 bm2 bv2 k → False) := by
  refine ⟨he.kept hk (hd.byt hk) (fun k h1 h2 => ap k h2 h1), fun k h1 h2 => ?_⟩
  rcases h1 with h1 | h1 | h1
  · exact ap k (.inl h1) h2
  · exact ap k (.inr (.inl h1)) h2
  · rcases ho k h1 with h | h
    · exact ap k (.inr (.inr h)) h2
    · have := he.lt_of h2; omega
theorem Ro77.Rd {B0 base n c : Nat} {W : World} {A : Option Addr} {xs : List S77} (h : Ro77 B0 W base (.slice A n c) xs) : Rd77 B0 W A xs := by
  obtain ⟨A', c', e, _, hr⟩ := OwnRow.reads h
  injection e with e1 e2 e3
  subst e1
  exact hr
/-- A row made behind a disk's last change outlasts a crash of it. -/
theorem Ro77.past {B0 base : Nat} {W W' : World} {v : Value} {xs : List S77} {S : Nat → Prop} (h : Ro77 B0 W base v xs) (hb : Byt B0 W W') (hk : Kpt S W W') (hS : ∀ k, S k → k < base) : Ro77 B0 W' base v xs :=
  Ro77.moved h hb (fun k e => hk.block k ((OwnRow.block h e).1.lt) (fun hs => by have := hS k hs; have := (OwnRow.block h e).2; omega))
theorem Ro83.past {B0 base : Nat} {W W' : World} {v : Value} {xs : List S83} {S : Nat → Prop} (h : Ro83 B0 W base v xs) (hb : Byt B0 W W') (hk : Kpt S W W') (hS : ∀ k, S k → k < base) : Ro83 B0 W' base v xs :=
  Ro83.moved h hb (fun k e => hk.block k ((OwnRow.block h e).1.lt) (fun hs => by have := hS k hs; have := (OwnRow.block h e).2; omega))
set_option maxHeartbeats 8000000 in
set_option maxRecDepth 100000 in
theorem crashes_calls (A0 : Option Addr) (c0 : Nat) (l : List S55) (keep torn : Int) (w : World) (hr : Kd.C k55 w A0 l.length l) (hc : l.length ≤ c0) (hn : l.length < 9223372036854775807) :
    Calls Try.prog 5 #[.slice A0 l.length c0, .int .i64 keep, .int .i64 torn] w fun e w' => e = .returned (.bool true) ∧ Below w.heap.size w w' := by
  obtain ⟨kk, r, hkr, hf⟩ := large_ev l hn
  have HL := Aside0.mk (changeoverref18_Large.calls kk A0 c0 l r w hr hc hkr)
  have HR := Aside0.mk hr
  clear hr hkr
  go_enter Try.func5, Try.ntmps5
  go_wp2_with fail
  refine HL.out.mono ?_
  rintro e w1 ⟨rfl, ⟨m1, rfl⟩⟩
  cases r with
  | true =>
    go_wp2_with fail
    refine (awake18 _).mono ?_
    rintro e w2 ⟨rfl, hb2⟩
    have HB := Aside0.mk (below_then (pw_below_drewN (Below.refl w.heap.size w) m1) (Nat.le_refl _) hb2)
    clear hb2
    go_wp2
    go_ret
    exact ⟨rfl, HB.out⟩
  | false =>
    obtain ⟨hl, hd⟩ := hf rfl
    have HD := Aside0.mk hd
    clear hf hd
    go_wp2_with fail
    refine (new_any w.heap.size (w.drewN m1) (Nat.le_refl _)).mono ?_
    rintro e w2 ⟨p, bm, rfl, hd2, hp2, hbm2, hb2⟩
    have hb2' : Below w.heap.size w w2 := below_then (pw_below_drewN (Below.refl _ _) m1) (Nat.le_refl _) hb2
    have HD2 := Aside0.mk hd2
    have HB2 := Aside0.mk hb2'
    clear hd2 hb2 hb2' hp2 hbm2
    go_wp2_with fail
    refine (new_any w.heap.size w2 HB2.out.size).mono ?_
    rintro e w3 ⟨p2, bm2, rfl, hd3, hp3, hbm3, hb3⟩
    have HD3 := Aside0.mk (HD2.out.below hb3)
    have HE3 := Aside0.mk hd3
    have HB3 : Aside0 (Below w.heap.size w w3) := ⟨below_then HB2.out HB2.out.size hb3⟩
    have HAP : Aside0 (∀ k, DS p bm (.slice none 0 0) k → DS p2 bm2 (.slice none 0 0) k → False) := ⟨fun k h1 h2 => by
      have h3 := HD2.out.lt_of h1
      rcases h2 with h2 | h2 | h2
      · omega
      · omega
      · exact own_nil_slice h2⟩
    clear hd3 hb3 hp3 hbm3 HD2
    go_wp2_with fail
    go_loopw [9] (fun i wr => ∃ k : Nat, k ≤ l.length ∧ i = .int .i64 k ∧ Aside0 (∃ n bv n2 bv2 F B, DiskAt w.heap.size wr p bm n bv F B ∧ DiskAt w.heap.size wr p2 bm2 n2 bv2 F B ∧ (∀ j, DS p bm bv j → DS p2 bm2 bv2 j → False) ∧ GoodK k F B ∧ n ≤ 60 * k ∧ n2 ≤ 60 * k) ∧ Aside0 (Below w.heap.size w wr)) (fun i _ => l.length - (intOf i).toNat)
    case atStart => exact ⟨0, by omega, rfl, ⟨⟨0, _, 0, _, [], [], HD3.out, HE3.out, HAP.out, GoodK.nil, by omega, by omega⟩⟩, HB3⟩
    case round =>
      obtain ⟨k, hk, rfl, HI, HB⟩ := hrel
      obtain ⟨n, bv, n2, bv2, F, B, hdk, hek, hap, hgk, hnk, hnk2⟩ := HI.out
      have hk6 : k ≤ 60 := by omega
      have HSZ := Aside0.mk (hgk.sizes hk6 hnk)
      have HSZ2 := Aside0.mk (hgk.sizes hk6 hnk2)
      have HL6 := Aside0.mk (hgk.len6 hk6)
      have HDK := Aside0.mk hdk
      have HEK := Aside0.mk hek
      have HAPK := Aside0.mk hap
      have HGK := Aside0.mk hgk
      have hBk := (hgk.len6 hk6).2.2
      have hFk := (hgk.len6 hk6).2.1
      clear hdk hek hap hgk HI
      by_cases hlt : k < l.length
      · have q1 : (0 : Int) ≤ (k : Int) := by omega
        have q2 : (k : Int) < (l.length : Int) := by omega
        obtain ⟨ad, A3, c3, e0, X0, X1, X2, X3, hc3, hC3⟩ := at_T55 HR.out (k : Int) q1 q2
        subst e0
        simp only [Int.toNat_natCast] at X0 X1 X2 X3
        have x0 := (HB.out.cell (World.block_lt_of_cell? w _ X0)).trans X0
        have x1 := (HB.out.cell (World.block_lt_of_cell? w _ X1)).trans X1
        have x2 := (HB.out.cell (World.block_lt_of_cell? w _ X2)).trans X2
        have x3 := (HB.out.cell (World.block_lt_of_cell? w _ X3)).trans X3
        have hdl : (rd_T55 l (k : Int)).f3.length ≤ 100 := HD.out k hlt
        have hV : DatV w.heap.size w (.slice A3 (rd_T55 l (k : Int)).f3.length c3) (rd_T55 l (k : Int)).f3 := DatV.arg hC3 hc3 (C_lt hC3) (Nat.le_refl _)
        have hbyt0 : Byt w.heap.size w wr := ⟨HB.out.size, fun j hj _ => HB.out.block j hj⟩
        obtain ⟨u, hu⟩ : ∃ u, rd_T55 l (k : Int) = u := ⟨_, rfl⟩
        rw [hu] at X0 X1 X2 X3 x0 x1 x2 x3 hdl hV
        have HX := Aside0.mk X0
        have HX1 := Aside0.mk X1
        have HX2 := Aside0.mk X2
        have HX3' := Aside0.mk X3
        have HV := Aside0.mk hV
        have HS1 := Aside0.mk (step_any w.heap.size p bm n bv F B u _ wr HDK.out (hV.byt hbyt0) HSZ.out (HL6.out.1.le (by omega)) hdl)
        clear hC3 hc3 hV hbyt0 hu X0 X1 X2 X3
        go_wp2_with fail
        refine HS1.out.mono ?_
        rintro e w4 ⟨bv4, rfl, hd4, hk4, ho4⟩
        obtain ⟨he4, hap4⟩ := two_dd HDK.out HEK.out HAPK.out hk4 ho4
        have HB4 := Aside0.mk (hk4.below HB.out HB.out.size (fun j hj => HDK.out.lo_of hj))
        have HD4 := Aside0.mk hd4
        have HE4 := Aside0.mk he4
        have HAP4 := Aside0.mk hap4
        clear x0 x1 x2 x3 hd4 hk4 ho4 he4 hap4 HS1
        have x0 := (HB4.out.cell (World.block_lt_of_cell? w _ HX.out)).trans HX.out
        have x1 := (HB4.out.cell (World.block_lt_of_cell? w _ HX1.out)).trans HX1.out
        have x2 := (HB4.out.cell (World.block_lt_of_cell? w _ HX2.out)).trans HX2.out
        have x3 := (HB4.out.cell (World.block_lt_of_cell? w _ HX3'.out)).trans HX3'.out
        have hbyt4 : Byt w.heap.size w w4 := ⟨HB4.out.size, fun j hj _ => HB4.out.block j hj⟩
        have HS2 := Aside0.mk (step_any w.heap.size p2 bm2 n2 bv2 F B u _ w4 HE4.out (HV.out.byt hbyt4) HSZ2.out (HL6.out.1.le (by omega)) hdl)
        clear hbyt4
        go_wp2_with fail
        refine HS2.out.mono ?_
        rintro e w5 ⟨bv5, rfl, he5, hk5, ho5⟩
        obtain ⟨hd5, hap5⟩ := two_dd HE4.out HD4.out (fun j h1 h2 => HAP4.out j h2 h1) hk5 ho5
        have HB5 := Aside0.mk (hk5.below HB4.out HB4.out.size (fun j hj => HE4.out.lo_of hj))
        have HG5 := Aside0.mk (step_good HGK.out u hdl)
        have HD5 := Aside0.mk hd5
        have HE5 := Aside0.mk he5
        have HAP5 := Aside0.mk hap5
        clear x0 x1 x2 x3 hd5 he5 hk5 ho5 hap5 HS2
        go_wp2
        go_roundw
        case rel => exact ⟨k + 1, by omega, by go_num, ⟨⟨n + B.length, _, n2 + B.length, _, _, _, HD5.out, HE5.out, fun j h1 h2 => HAP5.out j h2 h1, HG5.out, by omega, by omega⟩⟩, HB5⟩
        case measure => simp [intOf]; omega
      · obtain rfl : k = l.length := by omega
        obtain ⟨X, hX⟩ : ∃ X, crashF F B keep torn = X := ⟨_, rfl⟩
        have HXE := Aside0.mk hX
        have HGX := Aside0.mk (hX ▸ crash_good HGK.out keep torn)
        have HAll := Aside0.mk (hX ▸ anyB_all (B := B) HGK.out.rise keep torn)
        clear hX
        have C1 := Aside0.mk (files_any w.heap.size p bm n bv F B wr HDK.out (by omega) (HL6.out.1.le (by omega)) HGK.out.nos)
        go_wp2_with fail
        refine C1.out.mono ?_
        rintro e w4 ⟨v4, rfl, hr4, hb4⟩
        obtain ⟨A4, c4, rfl, hc4⟩ := OwnRow.slice_ hr4
        have HR4 := Aside0.mk hr4
        have HB4 := Aside0.mk hb4
        have C2 := Aside0.mk (buffered_any w.heap.size p bm n bv F B w4 (HDK.out.below hb4) HSZ.out)
        clear hr4 hb4 C1
        go_wp2_with fail
        refine C2.out.mono ?_
        rintro e w5 ⟨v5, rfl, hr5, hb5⟩
        obtain ⟨A5, c5, rfl, hc5⟩ := OwnRow.slice_ hr5
        have HR5 := Aside0.mk hr5
        have HR45 := Aside0.mk (Ro77.below HR4.out hb5)
        have hb5' := below_then HB4.out HB4.out.size hb5
        have HB5 := Aside0.mk hb5'
        have HD5 := Aside0.mk (HDK.out.below hb5')
        have HE5 := Aside0.mk (HEK.out.below hb5')
        have C3 := Aside0.mk (crash_any w.heap.size p bm n bv F B keep torn w5 HD5.out HSZ.out (HL6.out.1.le (by omega)))
        have hsz45 := HB4.out.size
        clear hr5 hb5 hb5' C2
        go_wp2_with fail
        refine C3.out.mono ?_
        rintro e w6 ⟨rfl, hd6, hk6'⟩
        rw [HXE.out] at hd6
        have hs56 := hk6'.size
        obtain ⟨he6, hap6⟩ := two_dd (bvn := .slice none 0 0) HD5.out HE5.out HAPK.out hk6' (fun j h => (own_nil_slice h).elim)
        have HS6 : Aside0 (∀ j, DS p bm bv j → j < wr.heap.size) := ⟨fun j hj => HDK.out.lt_of hj⟩
        have HR46 := Aside0.mk (Ro77.past HR45.out (HD5.out.byt hk6') hk6' HS6.out)
        have HR56 := Aside0.mk (Ro83.past HR5.out (HD5.out.byt hk6') hk6' (fun j hj => Nat.lt_of_lt_of_le (HS6.out j hj) hsz45))
        have HB6 := Aside0.mk (hk6'.below (below_then HB.out HB.out.size HB5.out) (Nat.le_trans HB.out.size HB5.out.size) (fun j hj => HD5.out.lo_of hj))
        have HD6 := Aside0.mk hd6
        have HE6 := Aside0.mk he6
        have HAP6 := Aside0.mk hap6
        have C4 := Aside0.mk (crash_any w.heap.size p2 bm2 n2 bv2 F B 0 0 w6 he6 HSZ2.out (HL6.out.1.le (by omega)))
        clear hd6 hk6' he6 hap6 C3
        go_wp2_with fail
        refine C4.out.mono ?_
        rintro e w7 ⟨rfl, he7, hk7⟩
        rw [crash0 HGK.out.rise] at he7
        obtain ⟨hd7, hap7⟩ := two_dd (bvn := .slice none 0 0) HE6.out HD6.out (fun j h1 h2 => HAP6.out j h2 h1) hk7 (fun j h => (own_nil_slice h).elim)
        have hS7 : ∀ j, DS p2 bm2 bv2 j → j < wr.heap.size := fun j hj => HEK.out.lt_of hj
        have HR47 := Aside0.mk (Ro77.past HR46.out (HE6.out.byt hk7) hk7 hS7)
        have HR57 := Aside0.mk (Ro83.past HR56.out (HE6.out.byt hk7) hk7 (fun j hj => Nat.lt_of_lt_of_le (hS7 j hj) hsz45))
        have HB7 := Aside0.mk (hk7.below HB6.out HB6.out.size (fun j hj => HE6.out.lo_of hj))
        have HD7 := Aside0.mk hd7
        have HE7 := Aside0.mk he7
        obtain ⟨hlX, hnX, _⟩ := HGX.out.len6 hk6
        have hpw : p < wr.heap.size := HS6.out p (.inl rfl)
        obtain ⟨A5', c5', e5, hc5', hrd5⟩ := Ro83.rd (bm := p) HR57.out (fun j hj => by have := (OwnRow.block HR57.out hj).2; omega)
        injection e5 with e51 e52 e53
        subst e51
        subst e53
        have HRD5 := Aside0.mk hrd5
        have C27 : Aside0 (∀ W, Below w7.heap.size w7 W → Calls Try.prog 27 #[.pointer (some ⟨p, 0, none⟩)] W fun e w' => ∃ v, e = .returned v ∧ Ro77 w.heap.size w' W.heap.size v X ∧ Below W.heap.size W w') := ⟨fun W hW => files_any w.heap.size p bm (n + B.length) _ X [] W (HD7.out.below hW) (by omega) (hlX.le (by omega)) HGX.out.nos⟩
        have C27e : Aside0 (∀ W, Below w7.heap.size w7 W → Calls Try.prog 27 #[.pointer (some ⟨p2, 0, none⟩)] W fun e w' => ∃ v, e = .returned v ∧ Ro77 w.heap.size w' W.heap.size v F ∧ Below W.heap.size W w') := ⟨fun W hW => files_any w.heap.size p2 bm2 (n2 + B.length) _ F [] W (HE7.out.below hW) (by omega) (HL6.out.1.le (by omega)) HGK.out.nos⟩
        have C28 : Aside0 (∀ W, Below w7.heap.size w7 W → Calls Try.prog 28 #[.pointer (some ⟨p, 0, none⟩)] W fun e w' => ∃ v, e = .returned v ∧ Ro83 w.heap.size w' W.heap.size v [] ∧ Below W.heap.size W w') := ⟨fun W hW => buffered_any w.heap.size p bm (n + B.length) _ X [] W (HD7.out.below hW) ⟨by simp; omega, by simp, hlX.le (by omega), fun x hx => by simp at hx⟩⟩
        have hwr7 : w.heap.size ≤ w7.heap.size := HB7.out.size
        have hs67 := hk7.size
        have hbase7 : wr.heap.size ≤ w7.heap.size := by have := HB5.out.size; omega
        have hwwr := HB.out.size
        have hgl : ∀ j, ((B.take j).foldl doF F).length < 1000 := fun j => by have := fold_count (B.take j) F; simp only [List.length_take] at this; omega
        have HLF : Aside0 (∀ j, LenF ((B.take j).foldl doF F) 1000000) := ⟨fun j x hx => by
          have := lenF_fold (fun y hy => HGK.out.ok y (List.mem_of_mem_take hy)) HL6.out.1 x hx
          simp only [List.length_take] at this
          omega⟩
        have HLX := Aside0.mk hlX
        clear hd7 he7 hk7 hap7 C4 hrd5 hlX hS7
        go_wp2_with fail
        obtain ⟨wo, hwo⟩ : ∃ wo, wo = wr := ⟨_, rfl⟩
        subst hwo
        go_loopw [12, 13] (fun sm iv wt => ∃ j : Nat, j ≤ B.length + 1 ∧ iv = .int .i64 j ∧ sm = .bool (anyB X F B j) ∧ Aside0 (Below w7.heap.size w7 wt)) (fun _ iv _ => B.length + 1 - (intOf iv).toNat)
        case atStart => exact ⟨0, by omega, rfl, rfl, ⟨Below.refl _ _⟩⟩
        case round =>
          obtain ⟨j, hj, rfl, rfl, HBt⟩ := hrel
          by_cases hjl : j ≤ B.length
          · have q1 : (0 : Int) ≤ (j : Int) := by omega
            have q2 : (j : Int) ≤ (B.length : Int) := by omega
            have q3 : decide ((j : Int) ≤ (B.length : Int)) = true := decide_eq_true q2
            have hjc : j ≤ c5 := by omega
            have HAS := Aside0.mk (anyB_succ X F B j)
            cases ha : anyB X F B j with
            | true =>
              have HA1 : Aside0 (anyB X F B (j + 1) = true) := ⟨by rw [HAS.out, ha]; rfl⟩
              clear ha
              go_upto_region 16 with fail
              go_quiet (fail)
              all_goals
                go_wp2
                go_roundw
                case rel => exact ⟨j + 1, by omega, by go_num, by rw [HA1.out], by first | exact ⟨below_drew HBt.out⟩ | exact ⟨pw_below_drewN HBt.out _⟩⟩
                case measure => simp [intOf]; omega
            | false =>
              have HA1 : Aside0 (anyB X F B (j + 1) = begB X ((B.take j).foldl doF F)) := ⟨by rw [HAS.out, ha]; rfl⟩
              clear ha
              have hjt : (B.take j).length = j := by simp; omega
              have C31' : ∀ W, Below w7.heap.size w7 W → Calls Try.prog 31 #[.slice A4 F.length c4, .slice A5 (B.take j).length c5] W fun e w' => ∃ v', e = .returned v' ∧ Ro77 w.heap.size w' wo.heap.size v' ((B.take j).foldl doF F) ∧ Below W.heap.size W w' := fun W hW => all_any w.heap.size wo.heap.size p (.slice A4 F.length c4) F A5 c5 (B.take j) W hwwr (Nat.le_trans hbase7 hW.size) (Ro77.below HR47.out hW) ((HRD5.out.kept (Kpt.of_below hW) (.of_below hW)).take j hjl) (by omega) HGK.out.rise (fun x hx => HGK.out.ok x (List.mem_of_mem_take hx)) (HL6.out.1.le (by omega)) (by omega)
              rw [hjt] at C31'
              have C31 := Aside0.mk C31'
              clear C31' hjt
              obtain ⟨G, hG⟩ : ∃ G, (B.take j).foldl doF F = G := ⟨_, rfl⟩
              have HLG := Aside0.mk (HLF.out j)
              rw [hG] at C31 HA1 HLG
              clear hG
              have HBc : Aside0 (Below w7.heap.size w7 wr.drew) := ⟨below_drew HBt.out⟩
              go_upto_region 16 with fail
              go_region_law (first
                | (go_simp; go_at_call 27; (with_reducible refine (C27.out _ HBc.out).mono ?_); rintro e wa ⟨va, rfl, hra, hba⟩; obtain ⟨Aa, ca, rfl, hca⟩ := OwnRow.slice_ hra; have HRa := Aside0.mk hra; have HCa := Aside0.mk hca; have HBc := Aside0.mk (below_then HBc.out HBc.out.size hba); (first | (have HRg := Aside0.mk (Ro77.below HRg.out hba)) | skip); clear hra hba hca)
                | (go_simp; go_at_call 31; (with_reducible refine (C31.out _ HBc.out).mono ?_); rintro e wg ⟨vg, rfl, hrg, hbg⟩; obtain ⟨Ag, cg, rfl, hcg⟩ := OwnRow.slice_ hrg; have HRg := Aside0.mk hrg; have HCg := Aside0.mk hcg; have HBc := Aside0.mk (below_then HBc.out HBc.out.size hbg); (first | (have HRa := Aside0.mk (Ro77.below HRa.out hbg)) | skip); clear hrg hbg hcg)
                | (go_simp; go_at_call 30; (with_reducible refine (begins_any w.heap.size _ _ _ _ X G _ HRa.out.Rd HCa.out HRg.out.Rd HCg.out (HLX.out.le (by decide)) HLG.out (Nat.lt_of_le_of_lt hnX (by decide))).mono ?_); rintro e wh ⟨rfl, hbh⟩; have HBc := Aside0.mk (below_then HBc.out HBc.out.size hbh); clear hbh)
                | fail)
              all_goals
                go_wp2
                go_roundw
                case rel => exact ⟨j + 1, by omega, by go_num, by rw [HA1.out], HBc⟩
                case measure => simp [intOf]; omega
          · obtain rfl : j = B.length + 1 := by omega
            have q3 : decide (((B.length + 1 : Nat) : Int) ≤ (B.length : Int)) = false := decide_eq_false (by omega)
            have q4 : ¬ (((B.length + 1 : Nat) : Int) ≤ (B.length : Int)) := by omega
            rw [HAll.out]
            go_wp2_with fail
            refine (C28.out _ HBt.out).mono ?_
            rintro e wa ⟨va, rfl, hra, hba⟩
            obtain ⟨Aa, ca, rfl, hca⟩ := OwnRow.slice_ hra
            have HB8 := Aside0.mk (below_then HBt.out HBt.out.size hba)
            clear hra hba hca
            go_wp2_with fail
            refine (C27e.out _ HB8.out).mono ?_
            rintro e wb ⟨vb, rfl, hrb, hbb⟩
            obtain ⟨Ab, cb, rfl, hcb⟩ := OwnRow.slice_ hrb
            have HRb := Aside0.mk hrb
            have HB9 := Aside0.mk (below_then HB8.out HB8.out.size hbb)
            clear hrb hbb
            go_wp2_with fail
            refine (begins_any w.heap.size A4 Ab c4 cb F F wb (Ro77.below HR47.out HB9.out).Rd hc4 HRb.out.Rd hcb (HL6.out.1.le (by decide)) (HL6.out.1.le (by decide)) (by omega)).mono ?_
            rintro e wc ⟨rfl, hbc⟩
            rw [begB_refl]
            have HB10 := Aside0.mk (below_then HB9.out HB9.out.size hbc)
            clear hbc
            go_wp2_with fail
            refine (C27e.out _ HB10.out).mono ?_
            rintro e wd ⟨vd, rfl, hrd, hbd⟩
            obtain ⟨Ad, cd, rfl, hcd⟩ := OwnRow.slice_ hrd
            have HRd := Aside0.mk hrd
            have HB11 := Aside0.mk (below_then HB10.out HB10.out.size hbd)
            clear hrd hbd
            go_wp2_with fail
            refine (begins_any w.heap.size Ad A4 cd c4 F F wd HRd.out.Rd hcd (Ro77.below HR47.out HB11.out).Rd hc4 (HL6.out.1.le (by decide)) (HL6.out.1.le (by decide)) (by omega)).mono ?_
            rintro e we ⟨rfl, hbe⟩
            rw [begB_refl]
            have HB12 := Aside0.mk (below_then HB11.out HB11.out.size hbe)
            clear hbe
            go_wp2_with fail
            refine (awake18 _).mono ?_
            rintro e wf ⟨rfl, hbf⟩
            have HB13 := Aside0.mk (below_then HB7.out hwr7 (below_then HB12.out HB12.out.size hbf))
            clear hbf
            go_wp2
            go_ret
            exact ⟨rfl, HB13.out⟩
end Go.Proofs.Ytncmkcggkgahnaa.PDsk
