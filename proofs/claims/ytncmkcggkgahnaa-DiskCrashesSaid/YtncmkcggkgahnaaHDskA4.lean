-- By the session: contracts proved by hand.
import Derived.Test.YtncmkcggkgahnaaHDskA3
import Derived.Deep.RegionLaw
import Derived.Deep.RegionLawGrows
import Derived.Deep.RegionWith
import Derived.Deep.RegionHeld3
import Derived.Deep.RegionHeldLaw
import Derived.Deep.DeepCutAuto
import Derived.Deep.CutBlock
import Derived.Deep.LoopGhost
import Derived.RegionTactic
import Derived.ChangeAlike
import Derived.StillTailTactics
import Derived.Shelf.Abstract
import Derived.Maps.Own
import Derived.Maps.OwnOps
import Derived.Maps.OwnSet
import Derived.Maps.Views
import Derived.Lib.Hide
import Derived.Lib.SliceRun
import Derived.Laws.BitsAllLaws
namespace Go.Proofs.Ytncmkcggkgahnaa.PDsk
open Go.Maps
open Go.RowKit Go.Shelf Go.Proofs.YtncmkcggkgahnaaW.PrintWords Go.Proofs.YtncmkcggkgahnaaW.PrintLast Go.Proofs.YtncmkcggkgahnaaW.PrintMore
set_option linter.unusedVariables false
set_option linter.unusedSimpArgs false
/-! disk.do: function 47 -/
theorem zero28 (w : World) : (zeroValue 28).run Try.prog w = .ok (.slice none 0 0) w := by kernel_rfl
def lookF (F : List S77) (i : Int) : Option (List Int) := (F.find? (fun x => decide (x.f0 = i))).map S77.f1
def doF (F : List S77) (x : S83) : List S77 :=
  if x.f0 = 1 then (match lookF F x.f1 with | some _ => F | none => putF F x.f1 [])
  else if x.f0 = 2 then (match lookF F x.f1 with | some d => putF F x.f1 (d ++ x.f2) | none => F)
  else if x.f0 = 3 then delF F x.f1 else F
theorem lookF_some {F : List S77} {i : Int} {d : List Int} (h : lookF F i = some d) : (⟨i, d⟩ : S77) ∈ F := by
  unfold lookF at h
  obtain ⟨x, hx, rfl⟩ := Option.map_eq_some_iff.1 h
  have h1 := List.mem_of_find?_eq_some hx
  have h2 := List.find?_some hx
  have h3 : x.f0 = i := by simpa using h2
  subst h3
  exact h1
theorem lookF_none {F : List S77} {i : Int} (h : lookF F i = none) : ∀ x ∈ F, x.f0 ≠ i := by
  unfold lookF at h
  have := Option.map_eq_none_iff.1 h
  intro x hx e
  have := List.find?_eq_none.1 this x hx
  simp [e] at this
theorem MapIs.has_look {B0 : Nat} {W : World} {D : DataW Value} {F : List S77} (h : MapIs B0 W D F) (i : Int) : Maps.has D (.int .i64 i) = (lookF F i).isSome := by
  cases hl : lookF F i with
  | some d => exact (h.has i).2 ⟨_, lookF_some hl, rfl⟩
  | none =>
    refine Bool.eq_false_iff.mpr fun hh => ?_
    obtain ⟨x, h1, h2⟩ := (h.has i).1 hh
    exact lookF_none hl x h1 h2
/-- A row of what is to be done, which is read. -/
structure Rd83 (B0 : Nat) (W : World) (bm : Nat) (A : Option Addr) (B : List S83) : Prop where
  row : ReadsRow (E83 B0 W) 3 W A B.length B
  away : ∀ ad, A = some ad → 0 < B.length → ad.block < W.heap.size ∧ ad.block ≠ bm
theorem Rd83.kept {B0 : Nat} {W W' : World} {bm : Nat} {A : Option Addr} {B : List S83} (h : Rd83 B0 W bm A B) (hk : Kpt (fun k => k = bm) W W') (hb : Byt B0 W W') : Rd83 B0 W' bm A B := by
  refine ⟨⟨h.row.1, h.row.2.1, fun hn => ?_⟩, fun ad e hn => ⟨Nat.lt_of_lt_of_le (h.away ad e hn).1 hk.size, (h.away ad e hn).2⟩⟩
  obtain ⟨ad, e, hc⟩ := h.row.2.2 hn
  refine ⟨ad, e, fun j p hj => ?_⟩
  obtain ⟨c, h1, h2, h3⟩ := hc j p hj
  refine ⟨c, h1, h2.byt hb, fun i u hu => ?_⟩
  rw [← h3 i u hu]
  refine World.cell?_of_block ?_
  have e2 : (ad.add (j * 3 + i)).block = ad.block := add_block _ _
  rw [e2]
  exact hk.block _ (h.away ad e hn).1 (h.away ad e hn).2
/-- The map of files in memory. -/
def FilesAt (B0 : Nat) (W : World) (bm n : Nat) (F : List S77) : Prop := ∃ D, W.ownsMap Try.prog 3 RV bm n D ∧ MapIs B0 W D F
theorem FilesAt.kept {B0 : Nat} {S : Nat → Prop} {W W' : World} {bm n : Nat} {F : List S77} (h : FilesAt B0 W bm n F) (hk : Kpt S W W') (hb : Byt B0 W W') (hS : ¬ S bm) : FilesAt B0 W' bm n F := by
  obtain ⟨D, h1, h2⟩ := h
  exact ⟨D, hk.owns h1 hS, h2.byt hb⟩
theorem FilesAt.below {B0 : Nat} {W W' : World} {bm n : Nat} {F : List S77} (h : FilesAt B0 W bm n F) (hb : Below W.heap.size W W') : FilesAt B0 W' bm n F := h.kept (S := fun _ => False) (.of_below hb) (.of_below hb) (fun h => h)
theorem FilesAt.notTyp {B0 : Nat} {W : World} {bm n : Nat} {F : List S77} (h : FilesAt B0 W bm n F) (t : Nat) : ¬ Typ W t bm := by
  obtain ⟨D, ⟨es, c, h1, _⟩, _⟩ := h
  rintro ⟨c', h2⟩
  rw [h1] at h2; cases h2
theorem FilesAt.notB5 {B0 : Nat} {W : World} {bm n : Nat} {F : List S77} (h : FilesAt B0 W bm n F) : ¬ B5 W bm := by
  obtain ⟨D, ⟨es, c, h1, _⟩, _⟩ := h
  rintro ⟨c', fz, h2⟩
  rw [h1] at h2; cases h2
theorem FilesAt.byt {B0 : Nat} {W W' : World} {bm n : Nat} {F : List S77} (h : FilesAt B0 W bm n F) (hB : B0 ≤ bm) (hk : Kpt (fun k => k = bm) W W') : Byt B0 W W' := .of_kpt hk (fun k e => by subst e; exact ⟨hB, h.notB5⟩)
theorem FilesAt.lt {B0 : Nat} {W : World} {bm n : Nat} {F : List S77} (h : FilesAt B0 W bm n F) : bm < W.heap.size := by obtain ⟨D, h1, _⟩ := h; exact h1.lt
set_option maxRecDepth 100000 in
theorem files_look {B0 : Nat} {W : World} {bm n : Nat} {F : List S77} (h : FilesAt B0 W bm n F) (i : Int) (hwf : (Lit.int .i64 i).wf = true) :
    ∃ v0, (Instr.lookup 78 (.map (some bm)) (.int .i64 i) true).run Try.prog W = .ok (.tuple #[v0, .bool (lookF F i).isSome]) W ∧ DatV B0 W v0 ((lookF F i).getD []) := by
  obtain ⟨D, hown, hm⟩ := h
  obtain ⟨v0, ps, hrun, hv0⟩ := hown.look_ok law3 Try.underlying78 (zero28 W) (zd := .held (.slice none 0 0)) rfl (keyOf_int_mk Try.underlying3 hwf)
  rw [hm.has_look i] at hrun
  refine ⟨v0, hrun, ?_⟩
  have e : DataW.held v0 = D.atKey (.int .i64 i) (.held (.slice none 0 0)) := congrArg Prod.fst (Option.some.inj hv0)
  cases hl : lookF F i with
  | some d =>
    obtain ⟨v, h1, h2⟩ := hm.look _ (lookF_some hl)
    rw [h2] at e
    injection e with e
    subst e
    exact h1
  | none =>
    have hh : Maps.has D (.int .i64 i) = false := by rw [hm.has_look i, hl]; rfl
    rw [atKey_of_not_has hh] at e
    injection e with e
    subst e
    exact DatV.nil _ _
set_option maxRecDepth 100000 in
theorem files_put {B0 : Nat} {W : World} {bm n : Nat} {F : List S77} (h : FilesAt B0 W bm n F) (hB : B0 ≤ bm) (hn : n < 1000000) (i : Int) (hwf : (Lit.int .i64 i).wf = true) {v : Value} {xs : List Int} (hv : DatV B0 W v xs) :
    ∃ W', (Instr.mapUpdate 78 (.map (some bm)) (.int .i64 i) v).run Try.prog W = .ok () W' ∧ FilesAt B0 W' bm (n + 1) (putF F i xs) ∧ Kpt (fun k => k = bm) W W' := by
  obtain ⟨D, hown, hm⟩ := id h
  obtain ⟨W', hrun, hown', hg⟩ := hown.update law3 Try.underlying78 (by unfold maxLen; omega) (val := v) (keyOf_int_mk Try.underlying3 hwf) rfl
  have hk : Kpt (fun k => k = bm) W W' := .of_grown hg (fun k e => by injection e with e; exact e.symm)
  exact ⟨W', hrun, ⟨_, hown', (hm.put i hv).byt (h.byt hB hk)⟩, hk⟩
theorem FilesAt.mono {B0 : Nat} {W : World} {bm n n' : Nat} {F : List S77} (h : FilesAt B0 W bm n F) (hn : n ≤ n') : FilesAt B0 W bm n' F := by obtain ⟨D, h1, h2⟩ := h; exact ⟨D, h1.mono hn, h2⟩
def OpOk (x : S83) : Prop := (x.f0 = 1 ∨ x.f0 = 2 ∨ x.f0 = 3) ∧ 1 ≤ x.f1 ∧ x.f1 ≤ 4294967296 ∧ x.f2.length ≤ 100
def rdB (B : List S83) (k : Nat) : S83 := B.getD k z83
theorem Rd83.at_ {B0 : Nat} {W : World} {bm : Nat} {A : Option Addr} {B : List S83} (h : Rd83 B0 W bm A B) (k : Nat) (hk : k < B.length) : ∃ ad v, A = some ad ∧ W.cell? (ad.add (k * 3)) = some (.int .i64 (rdB B k).f0) ∧ W.cell? ⟨(ad.add (k * 3)).block, (ad.add (k * 3)).off + 1, none⟩ = some (.int .i64 (rdB B k).f1) ∧
    W.cell? ⟨(ad.add (k * 3)).block, (ad.add (k * 3)).off + 2, none⟩ = some v ∧ DatV B0 W v (rdB B k).f2 := by
  obtain ⟨ad, e, hc⟩ := h.row.2.2 (by omega)
  obtain ⟨c, h1, ⟨v, rfl, hv⟩, h3⟩ := hc k (rdB B k) (by simp [rdB, List.getD_eq_getElem?_getD, List.getElem?_eq_getElem hk])
  exact ⟨ad, v, e, h3 0 _ rfl, by rw [← add_field _ _ 1 (by omega)]; exact h3 1 _ rfl, by rw [← add_field _ _ 2 (by omega)]; exact h3 2 _ rfl, hv⟩
def LenF (F : List S77) (L : Nat) : Prop := ∀ x, x ∈ F → x.f1.length ≤ L
theorem mem_putF {F : List S77} {i : Int} {xs : List Int} {x : S77} (h : x ∈ putF F i xs) : x = ⟨i, xs⟩ ∨ x ∈ F := by
  unfold putF at h
  rcases List.mem_append.1 h with h | h
  · exact .inr (List.mem_filter.1 h).1
  · rcases List.mem_cons.1 h with h | h
    · exact .inl h
    · exact .inr (List.mem_filter.1 h).1
theorem lenF_do {F : List S77} {L : Nat} {x : S83} (h : LenF F L) (hx : OpOk x) : LenF (doF F x) (L + 100) := by
  have h' : LenF F (L + 100) := fun y hy => Nat.le_trans (h y hy) (by omega)
  have hp : ∀ xs : List Int, xs.length ≤ L + 100 → LenF (putF F x.f1 xs) (L + 100) := fun xs hl y hy => by
    rcases mem_putF hy with rfl | hy
    · exact hl
    · exact h' y hy
  unfold doF
  split
  · split
    · exact h'
    · exact hp [] (by simp)
  · split
    · split
      · rename_i d hl
        refine hp _ ?_
        have h1 : d.length ≤ L := h _ (lookF_some hl)
        have h2 := hx.2.2.2
        simp
        omega
      · exact h'
    · split
      · exact fun y hy => h' y (List.mem_filter.1 hy).1
      · exact h'
theorem lenF_fold : ∀ {B : List S83} {F : List S77} {L : Nat}, (∀ x, x ∈ B → OpOk x) → LenF F L → LenF (B.foldl doF F) (L + 100 * B.length)
  | [], F, L, _, h => by simpa using h
  | x :: B, F, L, hb, h => by
    have := lenF_fold (B := B) (fun y hy => hb y (List.mem_cons_of_mem _ hy)) (lenF_do h (hb x (List.mem_cons_self ..)))
    rw [List.foldl_cons]
    intro y hy
    have := this y hy
    simp only [List.length_cons]
    omega
set_option maxHeartbeats 4000000 in
set_option maxRecDepth 100000 in
theorem do_any (B0 : Nat) (bm n : Nat) (F : List S77) (A : Option Addr) (c : Nat) (B : List S83) (w : World) (hF : FilesAt B0 w bm n F) (hB0 : B0 ≤ bm) (hR : Rd83 B0 w bm A B) (hc : B.length ≤ c) (hn : n + B.length < 1000000)
    (L : Nat) (hL : L ≤ 100000) (hd : LenF F L) (hb : ∀ x ∈ B, OpOk x) (hl : B.length < 1000) :
    Calls Try.prog 47 #[.map (some bm), .slice A B.length c] w fun e w' => e = .returned (.tuple #[]) ∧ FilesAt B0 w' bm (n + B.length) (B.foldl doF F) ∧ Kpt (fun k => k = bm) w w' := by
  have HF := Aside0.mk hF
  have HR := Aside0.mk hR
  clear hF hR
  go_enter Try.func47, Try.ntmps47
  go_wp2
  go_loopw [10] (fun i wr => ∃ k : Nat, k ≤ B.length ∧ i = .int .i64 k ∧ Aside0 (FilesAt B0 wr bm (n + k) ((B.take k).foldl doF F)) ∧ Aside0 (Rd83 B0 wr bm A B) ∧ Aside0 (Kpt (fun k => k = bm) w wr)) (fun i _ => B.length - (intOf i).toNat)
  case atStart => exact ⟨0, by omega, rfl, HF, HR, ⟨Kpt.refl _ _⟩⟩
  case round =>
    clear HF HR
    obtain ⟨k, hk, rfl, HF, HR, HK⟩ := hrel
    by_cases hlt : k < B.length
    · have q1 : (0 : Int) ≤ (k : Int) := by omega
      have q2 : (k : Int) < (B.length : Int) := by omega
      obtain ⟨ad, v, e0, x0, x1, x2, hv⟩ := HR.out.at_ k hlt
      subst e0
      obtain ⟨x, hx⟩ : ∃ x, rdB B k = x := ⟨_, rfl⟩
      rw [hx] at x0 x1 hv
      have HX := Aside0.mk hx
      obtain ⟨A2, c2, rfl, hc2, hC2⟩ := hv.len
      have HV := Aside0.mk hv
      have HC2 := Aside0.mk hC2
      clear hx hv hC2
      have hok : OpOk x := hb x (by rw [← HX.out]; unfold rdB; rw [List.getD_eq_getElem?_getD, List.getElem?_eq_getElem hlt]; exact List.getElem_mem hlt)
      obtain ⟨hk3, hk1, hk2, hkl⟩ := hok
      obtain ⟨kd, hkd⟩ : ∃ q, x.f0 = q := ⟨_, rfl⟩
      rw [hkd] at x0 hk3
      have HKD := Aside0.mk hkd
      clear hkd
      have hwf : (Lit.int .i64 x.f1).wf = true := WalkArith.wf_i64 (by omega)
      have hbx : Below wr.heap.size wr (wr.alloc (Obj.cells #[.int .i64 kd, .int .i64 x.f1, .slice A2 x.f2.length c2] 83)) := below_alloc (Below.refl _ _) _
      obtain ⟨Fk, hFk⟩ : ∃ Fk, (B.take k).foldl doF F = Fk := ⟨_, rfl⟩
      have HFk := Aside0.mk hFk
      rw [hFk] at HF
      clear hFk
      have HF1 := Aside0.mk (HF.out.below hbx)
      have HV1 := Aside0.mk (HV.out.byt (.of_below (B0 := B0) hbx))
      have HBX := Aside0.mk hbx
      obtain ⟨v0, hrun, hv0⟩ := files_look HF1.out x.f1 hwf
      have HV0 := Aside0.mk hv0
      have hfz : (wr.alloc (Obj.cells #[.int .i64 kd, .int .i64 x.f1, .slice A2 x.f2.length c2] 83)).frozen? ⟨wr.heap.size, 0, none⟩ = false := blk_frozen (heap_alloc_new wr _) 0
      clear hv0 hbx
      have HNX := Aside0.mk (show (B.take (k + 1)).foldl doF F = doF Fk x by
        rw [List.take_add_one, List.getElem?_eq_getElem hlt, Option.toList_some, List.foldl_append, HFk.out, ← HX.out]
        simp [rdB, List.getD_eq_getElem?_getD, List.getElem?_eq_getElem hlt])
      cases hlk : lookF Fk x.f1 with
      | none =>
        rw [hlk] at hrun HV0
        have HLK := Aside0.mk hlk
        clear hlk
        rcases hk3 with rfl | rfl | rfl
        · obtain ⟨w2, hrun2, hF2, hk2'⟩ := files_put HF1.out hB0 (by omega) x.f1 hwf (DatV.nil B0 _)
          have HF2 := Aside0.mk hF2
          have HK1 : Aside0 (Kpt (fun k => k = bm) wr w2) := ⟨(Kpt.of_below HBX.out).trans hk2'⟩
          clear hF2 hk2'
          go_wp2
          go_roundw
          case rel => exact ⟨k + 1, by omega, by go_num, ⟨by rw [HNX.out, show doF Fk x = putF Fk x.f1 [] by unfold doF; rw [if_pos HKD.out, HLK.out]]; exact HF2.out⟩, ⟨HR.out.kept HK1.out (HF.out.byt hB0 HK1.out)⟩, ⟨HK.out.trans HK1.out⟩⟩
          case measure => simp [intOf]; omega
        · have HDF := Aside0.mk (show doF Fk x = Fk by unfold doF; rw [HKD.out, HLK.out]; simp)
          have HK1 : Aside0 (Kpt (fun k => k = bm) wr (wr.alloc (Obj.cells #[.int .i64 2, .int .i64 x.f1, .slice A2 x.f2.length c2] 83))) := ⟨.of_below HBX.out⟩
          go_wp2
          go_roundw
          case rel => exact ⟨k + 1, by omega, by go_num, ⟨by rw [HNX.out, HDF.out]; exact (HF1.out.mono (by omega))⟩, ⟨HR.out.kept HK1.out (HF.out.byt hB0 HK1.out)⟩, ⟨HK.out.trans HK1.out⟩⟩
          case measure => simp [intOf]; omega
        · have HDF := Aside0.mk (show doF Fk x = delF Fk x.f1 by unfold doF; rw [HKD.out]; simp)
          obtain ⟨D, hown, hmi⟩ := HF1.out
          have HMI := Aside0.mk hmi
          clear hmi
          go_wp2_with (first | (at_delete; refine wpList_delete_own _ rfl _ _ 78 3 rfl 28 law3 Try.underlying78 RV bm (n + k) D rfl hown _ _ rfl (keyOf_int_mk Try.underlying3 hwf) ?_; intro w2 hown2 hturn2))
          have HK2 : Aside0 (Kpt (fun k => k = bm) (wr.alloc (Obj.cells #[.int .i64 3, .int .i64 x.f1, .slice A2 x.f2.length c2] 83)) w2) := ⟨.of_grown hturn2.grown (fun k e => by injection e with e; exact e.symm)⟩
          have HK1 : Aside0 (Kpt (fun k => k = bm) wr w2) := ⟨(Kpt.of_below HBX.out).trans HK2.out⟩
          have HF2 : Aside0 (FilesAt B0 w2 bm (n + k) (delF Fk x.f1)) := ⟨⟨_, hown2, (HMI.out.del x.f1).byt (HF1.out.byt hB0 HK2.out)⟩⟩
          go_roundw
          case rel => exact ⟨k + 1, by omega, by go_num, ⟨by rw [HNX.out, HDF.out]; exact (HF2.out.mono (by omega))⟩, ⟨HR.out.kept HK1.out (HF.out.byt hB0 HK1.out)⟩, ⟨HK.out.trans HK1.out⟩⟩
          case measure => simp [intOf]; omega
      | some d =>
        rw [hlk] at hrun HV0
        have HLK := Aside0.mk hlk
        clear hlk
        rcases hk3 with rfl | rfl | rfl
        · have HDF := Aside0.mk (show doF Fk x = Fk by unfold doF; rw [if_pos HKD.out, HLK.out])
          have HK1 : Aside0 (Kpt (fun k => k = bm) wr (wr.alloc (Obj.cells #[.int .i64 1, .int .i64 x.f1, .slice A2 x.f2.length c2] 83))) := ⟨.of_below HBX.out⟩
          go_wp2
          go_roundw
          case rel => exact ⟨k + 1, by omega, by go_num, ⟨by rw [HNX.out, HDF.out]; exact (HF1.out.mono (by omega))⟩, ⟨HR.out.kept HK1.out (HF.out.byt hB0 HK1.out)⟩, ⟨HK.out.trans HK1.out⟩⟩
          case measure => simp [intOf]; omega
        · have HDF := Aside0.mk (show doF Fk x = putF Fk x.f1 (d ++ x.f2) by unfold doF; rw [HKD.out, HLK.out]; simp)
          obtain ⟨A3, c3, rfl, hc3, hC3⟩ := HV0.out.len
          have hdl : d.length < 1000000 := by have := lenF_fold (fun y hy => hb y (List.mem_of_mem_take hy)) hd _ (by rw [HFk.out]; exact lookF_some HLK.out); simp at this; omega
          go_wp2_with fail
          obtain ⟨W1, hW1⟩ : ∃ W1, wr.alloc (Obj.cells #[.int .i64 2, .int .i64 x.f1, .slice A2 x.f2.length c2] 83) = W1 := ⟨_, rfl⟩
          have hbk : W1.heap[wr.heap.size]? = some (.cells #[.int .i64 2, .int .i64 x.f1, .slice A2 x.f2.length c2] 83 (0, 0)) := hW1 ▸ heap_alloc_new wr _
          rw [hW1] at HF1 HV1 HBX HV0 hC3 hfz ⊢
          have b1 : W1.cell? ⟨wr.heap.size, 1, none⟩ = some (.int .i64 x.f1) := blk_cell hbk 1
          have b2 : W1.cell? ⟨wr.heap.size, 2, none⟩ = some (.slice A2 x.f2.length c2) := blk_cell hbk 2
          have HC3 := Aside0.mk hC3
          have hbl : wr.heap.size ≠ bm := by have := HF.out.lt; omega
          clear hrun hW1 hbk hC3 x0 x1
          go_region_held_law (fun w' : World => w'.cell? ⟨wr.heap.size, 1, none⟩ = some (.int .i64 x.f1) ∧ w'.cell? ⟨wr.heap.size, 2, none⟩ = some (.slice A2 x.f2.length c2))
            (first | exact ⟨b1, b2⟩ | exact ⟨pw_cell_below (below_alloc (Below.refl _ W1) _) b1, pw_cell_below (below_alloc (Below.refl _ W1) _) b2⟩ | exact ⟨pw_cell_below HB2.out b1, pw_cell_below HB2.out b2⟩ | exact ⟨HK3.out.cell (pw_cell_below HB2.out b1) hbl, HK3.out.cell (pw_cell_below HB2.out b2) hbl⟩)
            (first
              | (go_at_call 54; (with_reducible refine (concat_two _ W1.heap.size 28 A3 A2 c3 c2 d x.f2 ?_ ?_ ?_ (by omega) (by omega)).mono ?_); (focus (exact heap_alloc_new W1.drew _)); (focus (exact Kd.C_alloc (Kd.C_drew HC3.out) _)); (focus (exact Kd.C_alloc (Kd.C_drew (Kd.C_below HC2.out HBX.out)) _)); rintro e w2 ⟨v2, rfl, hr2, hb2⟩; obtain ⟨A4, c4, rfl⟩ := own_slice hr2; have HB2 : Aside0 (Below W1.heap.size W1 w2) := ⟨below_then (below_alloc (below_drew (Below.refl _ _)) _) (by rw [World.size_alloc]; exact Nat.le_succ _) hb2⟩; have HD2 := Aside0.mk (DatV.of_own (B0 := B0) hr2); clear hb2 hr2; obtain ⟨w3, hrun3, hF3, hk3⟩ := files_put (HF1.out.below HB2.out) hB0 (by omega) x.f1 hwf HD2.out; have HF3 := Aside0.mk hF3; have HK3 := Aside0.mk hk3; rw [List.length_append] at hrun3; clear hF3 hk3)
              | fail)
          have HK1 : Aside0 (Kpt (fun k => k = bm) wr w3) := ⟨(Kpt.of_below HBX.out).trans ((Kpt.of_below HB2.out).trans HK3.out)⟩
          clear b1 b2 hrun3 hfz
          go_wp2
          go_roundw
          case rel => exact ⟨k + 1, by omega, by go_num, ⟨by rw [HNX.out, HDF.out]; exact HF3.out⟩, ⟨HR.out.kept HK1.out (HF.out.byt hB0 HK1.out)⟩, ⟨HK.out.trans HK1.out⟩⟩
          case measure => simp [intOf]; omega
        · have HDF := Aside0.mk (show doF Fk x = delF Fk x.f1 by unfold doF; rw [HKD.out]; simp)
          obtain ⟨D, hown, hmi⟩ := HF1.out
          have HMI := Aside0.mk hmi
          clear hmi
          go_wp2_with (first | (at_delete; refine wpList_delete_own _ rfl _ _ 78 3 rfl 28 law3 Try.underlying78 RV bm (n + k) D rfl hown _ _ rfl (keyOf_int_mk Try.underlying3 hwf) ?_; intro w2 hown2 hturn2))
          have HK2 : Aside0 (Kpt (fun k => k = bm) (wr.alloc (Obj.cells #[.int .i64 3, .int .i64 x.f1, .slice A2 x.f2.length c2] 83)) w2) := ⟨.of_grown hturn2.grown (fun k e => by injection e with e; exact e.symm)⟩
          have HK1 : Aside0 (Kpt (fun k => k = bm) wr w2) := ⟨(Kpt.of_below HBX.out).trans HK2.out⟩
          have HF2 : Aside0 (FilesAt B0 w2 bm (n + k) (delF Fk x.f1)) := ⟨⟨_, hown2, (HMI.out.del x.f1).byt (HF1.out.byt hB0 HK2.out)⟩⟩
          go_roundw
          case rel => exact ⟨k + 1, by omega, by go_num, ⟨by rw [HNX.out, HDF.out]; exact (HF2.out.mono (by omega))⟩, ⟨HR.out.kept HK1.out (HF.out.byt hB0 HK1.out)⟩, ⟨HK.out.trans HK1.out⟩⟩
          case measure => simp [intOf]; omega
    · obtain rfl : k = B.length := by omega
      go_wp2
      go_end0
      refine ⟨rfl, ?_, HK.out⟩
      have := HF.out
      rwa [List.take_length] at this
end Go.Proofs.Ytncmkcggkgahnaa.PDsk
