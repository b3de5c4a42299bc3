-- By the session: contracts proved by hand.
import Derived.Test.YtncmkcggkgahnaaHDskA14
import Derived.RangeFuncBox
import Derived.RangeFuncWrites
import Derived.RangeFuncLeaves
import Derived.RangeFuncCalls
import Derived.Shelf.Abstract
import Derived.WalkKit
import Derived.OwnWalkIn
import Derived.TacticsInMore
import Derived.LoopNIn
import Derived.LoopIn
import Derived.OrdersIn
import Derived.RegionIn
import Derived.Deep.RegionHeld
import Derived.Deep.RegionHeldLaw
import Derived.Deep.RegionLaw
import Derived.Maps.AppendAt
import Derived.Maps.Own
import Derived.Maps.OwnOps
import Derived.Maps.OwnSet
import Derived.Maps.Views
import Derived.Lib.SliceRun
import Derived.Lib.SlBytesConst
namespace Go.Proofs.Ytncmkcggkgahnaa.PDsk
open Go.Maps
open Go.RowKit Go.Shelf Go.Sort Go.Proofs.YtncmkcggkgahnaaW.PrintWords Go.Proofs.YtncmkcggkgahnaaW.PrintLast Go.Proofs.YtncmkcggkgahnaaW.PrintMore
set_option linter.unusedVariables false
set_option linter.unusedSimpArgs false
/-! the ref's All: function 31 -/
theorem doF_count (F : List S77) (x : S83) : (doF F x).length ≤ F.length + 1 := by
  have hp : ∀ xs : List Int, (putF F x.f1 xs).length ≤ F.length + 1 := fun xs => by
    unfold putF
    have h1 : ∀ F : List S77, (F.filter (fun y => decide (y.f0 < x.f1))).length + (F.filter (fun y => decide (x.f1 < y.f0))).length ≤ F.length := by
      intro F
      induction F with
      | nil => simp
      | cons a F ih =>
        simp only [List.filter_cons, List.length_cons]
        split <;> split <;> simp_all <;> omega
    have := h1 F
    simp only [List.length_append, List.length_cons, List.length_nil]
    omega
  have hd : (delF F x.f1).length ≤ F.length + 1 := by
    unfold delF
    exact Nat.le_trans (List.length_filter_le _ _) (Nat.le_succ _)
  unfold doF
  repeat (first | exact hp _ | exact hd | exact Nat.le_succ _ | split)
theorem fold_count : ∀ (B : List S83) (F : List S77), (B.foldl doF F).length ≤ F.length + B.length
  | [], F => by simp
  | x :: B, F => by
    have h1 := fold_count B (doF F x)
    have h2 := doF_count F x
    simp only [List.foldl_cons, List.length_cons]
    omega
set_option maxHeartbeats 4000000 in
set_option maxRecDepth 100000 in
theorem all_any (B0 base bm : Nat) (v : Value) (l : List S77) (A' : Option Addr) (c' : Nat) (B : List S83) (w : World) (hB0 : B0 ≤ base) (hb : base ≤ w.heap.size) (h : Ro77 B0 w base v l) (hr : Rd83 B0 w bm A' B) (hc' : B.length ≤ c') (hri : l.Pairwise (fun a b => a.f0 < b.f0)) (hok : ∀ x, x ∈ B → OpOk x) (hL : LenF l 100000) (hll : l.length + B.length < 1000) :
    Calls Try.prog 31 #[v, .slice A' B.length c'] w fun e w' => ∃ v', e = .returned v' ∧ Ro77 B0 w' base v' (B.foldl doF l) ∧ Below w.heap.size w w' := by
  have HR := Aside0.mk hr
  have H := Aside0.mk h
  have HRI := Aside0.mk hri
  clear hr h hri
  go_enter Try.func31, Try.ntmps31
  go_wp2
  go_loopw [0, 5] (fun v i wr => ∃ k : Nat, k ≤ B.length ∧ i = .int .i64 k ∧ Aside0 (Ro77 B0 wr base v ((B.take k).foldl doF l)) ∧ Aside0 (Below w.heap.size w wr)) (fun _ i _ => B.length - (intOf i).toNat)
  case atStart => exact ⟨0, by omega, rfl, H, ⟨Below.refl _ _⟩⟩
  case round =>
    obtain ⟨k, hk, rfl, HO, HB⟩ := hrel
    by_cases hlt : k < B.length
    · have q1 : (0 : Int) ≤ (k : Int) := by omega
      have q2 : (k : Int) < (B.length : Int) := by omega
      obtain ⟨ad, v, e, x0, x1, x2, hv⟩ := (HR.out.kept (Kpt.of_below HB.out) (.of_below HB.out)).at_ k hlt
      subst e
      have hmem : rdB B k ∈ B := by unfold rdB; rw [List.getD_eq_getElem?_getD, List.getElem?_eq_getElem hlt]; exact List.getElem_mem hlt
      have hx := hok _ hmem
      have HTK := Aside0.mk (show B.take (k + 1) = B.take k ++ [rdB B k] by rw [List.take_add_one, List.getElem?_eq_getElem hlt]; simp [rdB, List.getD_eq_getElem?_getD, List.getElem?_eq_getElem hlt])
      obtain ⟨A2, c2, rfl, hc2, hC2⟩ := hv.len
      have hrk : ((B.take k).foldl doF l).Pairwise (fun a b => a.f0 < b.f0) := fold_rise HRI.out
      have hlk : ((B.take k).foldl doF l).length < 1000 := by have := fold_count (B.take k) l; simp only [List.length_take] at this; omega
      have hLk : LenF ((B.take k).foldl doF l) 1000000 := fun y hy => by
        have := lenF_fold (fun z hz => hok z (List.mem_of_mem_take hz)) hL y hy
        simp only [List.length_take] at this
        omega
      obtain ⟨A1, c1, rfl, hc1, hr1⟩ := OwnRow.reads HO.out
      have hsz : B0 ≤ wr.heap.size := Nat.le_trans hB0 (Nat.le_trans hb HB.out.size)
      have HC := Aside0.mk (done_any B0 A1 c1 _ (rdB B k) _ wr hsz hr1 hc1 hv hrk hlk hLk hx)
      have HDO := Aside0.mk (doneL_do hrk hx.1)
      have HX := Aside0.mk hx
      obtain ⟨x, hxx⟩ : ∃ x, rdB B k = x := ⟨_, rfl⟩
      obtain ⟨lk, hlk'⟩ : ∃ lk, (B.take k).foldl doF l = lk := ⟨_, rfl⟩
      rw [hxx] at x0 x1 x2 HTK HC HDO hc2
      rw [hlk'] at HC HDO HO hc1
      have HLK := Aside0.mk hlk'
      clear hv hC2 hrk hlk hLk hr1 hmem hxx hlk' hx
      rw [HLK.out]
      go_wp2_with (first | (go_at_call 48; (with_reducible refine HC.out.mono ?_); rintro e w2 ⟨v2, rfl, hr2, hb2⟩; have HR2 := Aside0.mk hr2; have HB2 := Aside0.mk hb2; clear hr2 hb2))
      refine ⟨⟨k + 1, by omega, by go_num, ⟨?_⟩, ⟨below_step HB.out HB2.out⟩⟩, ?_⟩
      · rw [HTK.out, List.foldl_append, HLK.out]
        have := HR2.out
        rw [HDO.out] at this
        exact OwnRow.lower this (Nat.le_trans hb HB.out.size)
      · simp [intOf]; omega
    · obtain rfl : k = B.length := by omega
      have := HO.out
      rw [List.take_length] at this
      have HF := Aside0.mk this
      clear this
      go_wp2
      go_ret
      exact ⟨_, rfl, HF.out, HB.out⟩
end Go.Proofs.Ytncmkcggkgahnaa.PDsk
