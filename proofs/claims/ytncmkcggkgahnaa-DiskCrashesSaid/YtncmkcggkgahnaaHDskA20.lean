-- By the session: contracts proved by hand.
import Derived.Test.YtncmkcggkgahnaaHDskA19
import Derived.Test.YtncmkcggkgahnaaPDskx9
import Derived.RangeFuncBox
import Derived.RangeFuncWrites
import Derived.RangeFuncLeaves
import Derived.RangeFuncCalls
import Derived.Shelf.Abstract
import Derived.WalkKit
import Derived.OwnWalkIn
import Derived.TacticsInMore
import Derived.LoopNIn
import Derived.LoopIn
import Derived.OrdersIn
import Derived.RegionIn
import Derived.Deep.RegionHeld
import Derived.Deep.RegionHeldLaw
import Derived.Deep.RegionLaw
import Derived.Maps.AppendAt
import Derived.Maps.Own
import Derived.Maps.OwnOps
import Derived.Maps.OwnSet
import Derived.Maps.Views
import Derived.Lib.SliceRun
import Derived.Lib.SlBytesConst
namespace Go.Proofs.Ytncmkcggkgahnaa.PDsk
open Go.Maps
open Go.RowKit Go.Shelf Go.Sort Go.Proofs.YtncmkcggkgahnaaW.PrintWords Go.Proofs.YtncmkcggkgahnaaW.PrintLast Go.Proofs.YtncmkcggkgahnaaW.PrintMore
set_option linter.unusedVariables false
set_option linter.unusedSimpArgs false
/-! plain facts for the laws DiskDoes and DiskCrashes -/
theorem bsame_loop (l : List Int) (hn : l.length < 9223372036854775807) : ∀ (d i : Nat), i + d = l.length → Ev (fun k => changeoverref01_Same.l0 k l l i) true := by
  intro d
  induction d with
  | zero => intro i hi; exact Ev.step (f := fun _ => some true) (fun k => by simp only [changeoverref01_Same.l0]; rw [if_neg (by omega)]) (Ev.now _)
  | succ d ih =>
    intro i hi
    have h1 : (i : Int) < (l.length : Int) := by omega
    have h2 : (0 : Int) ≤ (i : Int) := by omega
    refine Ev.step (fun k => ?_) (ih (i + 1) (by omega))
    rw [← wr1 (by omega)]
    simp [changeoverref01_Same.l0, h1]
theorem bsame_ev (l : List Int) (hn : l.length < 9223372036854775807) : Ev (fun k => changeoverref01_Same.f k l l) true :=
  Ev.congr (fun k => by simp [changeoverref01_Same.f]) (bsame_loop l hn l.length 0 (by omega))
theorem fsame_loop (l : List S77) (hn : l.length < 9223372036854775807) (hd : LenF l 1000000) : ∀ (d i : Nat), i + d = l.length → Ev (fun k => changeoverref18_Same.l0 k l l i) true := by
  intro d
  induction d with
  | zero => intro i hi; exact Ev.step (f := fun _ => some true) (fun k => by simp only [changeoverref18_Same.l0]; rw [if_neg (by omega)]) (Ev.now _)
  | succ d ih =>
    intro i hi
    have h1 : (i : Int) < (l.length : Int) := by omega
    have h2 : (0 : Int) ≤ (i : Int) := by omega
    have hl : (rd_T77 l i).f1.length ≤ 1000000 := hd _ (rdF_mem (by omega))
    refine Ev.step (f := fun k => (changeoverref01_Same.f k ((rd_T77 l i).f1) ((rd_T77 l i).f1)).bind fun t => if t = true then changeoverref18_Same.l0 k l l (wrap64 ((i : Int) + 1)) else some false) (fun k => ?_) (Ev.bind (bsame_ev _ (by omega)) ?_)
    · simp [changeoverref18_Same.l0, h1]
    · rw [wr1 (by omega)]
      exact Ev.congr (fun k => if_pos rfl) (ih (i + 1) (by omega))
theorem fsame_ev (l : List S77) (hn : l.length < 9223372036854775807) (hd : LenF l 1000000) : Ev (fun k => changeoverref18_Same.f k l l) true :=
  Ev.congr (fun k => by simp [changeoverref18_Same.f]) (fsame_loop l hn hd l.length 0 (by omega))
theorem osame_loop (l : List S83) (hn : l.length < 9223372036854775807) (hd : ∀ x, x ∈ l → OpOk x) : ∀ (d i : Nat), i + d = l.length → Ev (fun k => changeoverref18_Ops.l0 k l l i) true := by
  intro d
  induction d with
  | zero => intro i hi; exact Ev.step (f := fun _ => some true) (fun k => by simp only [changeoverref18_Ops.l0]; rw [if_neg (by omega)]) (Ev.now _)
  | succ d ih =>
    intro i hi
    have h1 : (i : Int) < (l.length : Int) := by omega
    have h2 : (0 : Int) ≤ (i : Int) := by omega
    have hm : rd_T83 l i ∈ l := by
      show l.getD (i : Int).toNat z83 ∈ l
      rw [Int.toNat_natCast, List.getD_eq_getElem?_getD, List.getElem?_eq_getElem (by omega)]
      exact List.getElem_mem (by omega)
    have hl : (rd_T83 l i).f2.length ≤ 100 := (hd _ hm).2.2.2
    refine Ev.step (f := fun k => (changeoverref01_Same.f k ((rd_T83 l i).f2) ((rd_T83 l i).f2)).bind fun t => if t = true then changeoverref18_Ops.l0 k l l (wrap64 ((i : Int) + 1)) else some false) (fun k => ?_) (Ev.bind (bsame_ev _ (by omega)) ?_)
    · simp [changeoverref18_Ops.l0, h1]
    · rw [wr1 (by omega)]
      exact Ev.congr (fun k => if_pos rfl) (ih (i + 1) (by omega))
theorem osame_ev (l : List S83) (hn : l.length < 9223372036854775807) (hd : ∀ x, x ∈ l → OpOk x) : Ev (fun k => changeoverref18_Ops.f k l l) true :=
  Ev.congr (fun k => by simp [changeoverref18_Ops.f]) (osame_loop l hn hd l.length 0 (by omega))
/-- What is so behind k steps. -/
structure GoodK (k : Nat) (F : List S77) (B : List S83) : Prop where
  len : ∃ L, LenF F L ∧ L + 100 * B.length ≤ 100 * k
  cnt : F.length + B.length ≤ k
  ok : ∀ x, x ∈ B → OpOk x
  nos : NosF F
  rise : F.Pairwise (fun a b => a.f0 < b.f0)
theorem GoodK.nil : GoodK 0 [] [] := ⟨⟨0, fun x hx => by simp at hx, by simp⟩, by simp, fun x hx => by simp at hx, fun x hx => by simp at hx, List.Pairwise.nil⟩
theorem GoodK.mono {k : Nat} {F : List S77} {B : List S83} (h : GoodK k F B) : GoodK (k + 1) F B := by
  obtain ⟨L, h1, h2⟩ := h.len
  exact ⟨⟨L, h1, by omega⟩, by have := h.cnt; omega, h.ok, h.nos, h.rise⟩
theorem GoodK.fold {k : Nat} {F : List S77} {B : List S83} (h : GoodK k F B) : GoodK k (B.foldl doF F) [] := by
  obtain ⟨L, h1, h2⟩ := h.len
  exact ⟨⟨_, lenF_fold h.ok h1, by simp; omega⟩, by have := fold_count B F; have := h.cnt; simp; omega, fun x hx => by simp at hx, nosF_fold h.ok h.nos, fold_rise h.rise⟩
theorem GoodK.put {k : Nat} {F : List S77} {B : List S83} (h : GoodK k F B) {kind no : Int} {xs : List Int} (hk : kind = 1 ∨ kind = 2 ∨ kind = 3) (hx : xs.length ≤ 100) : GoodK (k + 1) F (bufPut B kind no xs) := by
  unfold bufPut
  split
  · rename_i hp
    obtain ⟨L, h1, h2⟩ := h.len
    have hp' : 1 ≤ no ∧ no ≤ 4294967296 := by unfold putOk at hp; simpa using hp
    refine ⟨⟨L, h1, by simp; omega⟩, by have := h.cnt; simp; omega, fun x hm => ?_, h.nos, h.rise⟩
    rcases List.mem_append.1 hm with hm | hm
    · exact h.ok x hm
    · obtain rfl := List.mem_singleton.1 hm
      exact ⟨hk, hp'.1, hp'.2, hx⟩
  · exact h.mono
theorem crash_good {k : Nat} {F : List S77} {B : List S83} (h : GoodK k F B) (keep torn : Int) : GoodK k (crashF F B keep torn) [] := by
  obtain ⟨L, h1, h2⟩ := h.len
  have hq := clamp_le keep B.length
  obtain ⟨q, hqe⟩ : ∃ q, clamp keep B.length = q := ⟨_, rfl⟩
  rw [hqe] at hq
  have hok : ∀ x, x ∈ B.take q → OpOk x := fun x hx => h.ok x (List.mem_of_mem_take hx)
  have hl := lenF_fold hok h1
  have hc := fold_count (B.take q) F
  have hle : (B.take q).length = q := by simp; omega
  rw [hle] at hl hc
  have hcn := h.cnt
  unfold crashF
  simp only [hqe]
  split
  · rename_i hs
    have hm : rdB B q ∈ B := by unfold rdB; rw [List.getD_eq_getElem?_getD, List.getElem?_eq_getElem hs.1]; exact List.getElem_mem hs.1
    have hx := h.ok _ hm
    have hx' : OpOk ⟨2, (rdB B q).f1, (rdB B q).f2.take (clamp torn (rdB B q).f2.length)⟩ := ⟨.inr (.inl rfl), hx.2.1, hx.2.2.1, by have := hx.2.2.2; show (List.take _ _).length ≤ 100; simp; omega⟩
    refine ⟨⟨_, lenF_do hl hx', by simp; omega⟩, ?_, fun x hx => by simp at hx, nosF_do (nosF_fold hok h.nos) hx', doF_rise (fold_rise h.rise)⟩
    have := doF_count ((B.take q).foldl doF F) ⟨2, (rdB B q).f1, (rdB B q).f2.take (clamp torn (rdB B q).f2.length)⟩
    simp
    omega
  · exact ⟨⟨_, hl, by simp; omega⟩, by simp; omega, fun x hx => by simp at hx, nosF_fold hok h.nos, fold_rise h.rise⟩
theorem step_good {k : Nat} {F : List S77} {B : List S83} (h : GoodK k F B) (s : S55) (hd : s.f3.length ≤ 100) : GoodK (k + 1) (stepF F B s) (stepB B s) := by
  by_cases e1 : s.f0 = 1
  · have hf : stepF F B s = F := by unfold stepF; rw [e1]; simp
    have hb : stepB B s = bufPut B 1 s.f1 [] := by unfold stepB; rw [e1]; simp
    rw [hf, hb]; exact h.put (.inl rfl) (by simp)
  by_cases e2 : s.f0 = 2
  · have hf : stepF F B s = F := by unfold stepF; rw [e2]; simp
    have hb : stepB B s = bufPut B 2 s.f1 s.f3 := by unfold stepB; rw [e2]; simp
    rw [hf, hb]; exact h.put (.inr (.inl rfl)) hd
  by_cases e3 : s.f0 = 3
  · have hf : stepF F B s = F := by unfold stepF; rw [e3]; simp
    have hb : stepB B s = bufPut B 3 s.f1 [] := by unfold stepB; rw [e3]; simp
    rw [hf, hb]; exact h.put (.inr (.inr rfl)) (by simp)
  by_cases e4 : s.f0 = 4
  · have hf : stepF F B s = B.foldl doF F := by unfold stepF; rw [e4]; simp
    have hb : stepB B s = [] := by unfold stepB; rw [e4]; simp
    rw [hf, hb]; exact h.fold.mono
  by_cases e5 : s.f0 = 5
  · have hf : stepF F B s = crashF F B s.f1 s.f2 := by unfold stepF; rw [e5]; simp
    have hb : stepB B s = [] := by unfold stepB; rw [e5]; simp
    rw [hf, hb]; exact (crash_good h _ _).mono
  have hf : stepF F B s = F := by unfold stepF; rw [if_neg e4, if_neg e5]
  have hb : stepB B s = B := by unfold stepB; rw [if_neg e1, if_neg e2, if_neg e3, if_neg (by omega)]
  rw [hf, hb]; exact h.mono
theorem GoodK.len6 {k : Nat} {F : List S77} {B : List S83} (h : GoodK k F B) (hk : k ≤ 60) : LenF F 6000 ∧ F.length ≤ 60 ∧ B.length ≤ 60 := by
  obtain ⟨L, h1, h2⟩ := h.len
  have := h.cnt
  exact ⟨fun x hx => by have := h1 x hx; omega, by omega, by omega⟩
theorem LenF.le {F : List S77} {L M : Nat} (h : LenF F L) (hm : L ≤ M) : LenF F M := fun x hx => Nat.le_trans (h x hx) hm
theorem GoodK.sizes {k n : Nat} {F : List S77} {B : List S83} (h : GoodK k F B) (hk : k ≤ 60) (hn : n ≤ 60 * k) : Sizes n F B := by
  obtain ⟨h1, h2, h3⟩ := h.len6 hk
  exact ⟨by omega, by omega, h1.le (by omega), h.ok⟩
theorem refdo_any {k : Nat} (B0 p : Nat) (fv bv : Value) (F : List S77) (B : List S83) (s : S55) (v : Value) (w : World) (h : RefAt B0 w p fv bv F B) (hv : DatV B0 w v s.f3) (hg : GoodK k F B) (hk : k ≤ 60) :
    Calls Try.prog 32 #[.pointer (some ⟨p, 0, none⟩), .agg #[.int .i64 s.f0, .int .i64 s.f1, .int .i64 s.f2, v]] w (RefPost B0 p bv (stepF F B s) (stepB B s) w) := by
  obtain ⟨h1, h2, h3⟩ := hg.len6 hk
  by_cases e4 : s.f0 = 4
  · exact refdo_sync B0 p fv bv F B s v w h hv e4 hg.rise hg.ok (h1.le (by omega)) (by omega)
  by_cases e5 : s.f0 = 5
  · exact refdo_crash B0 p fv bv F B s v w h hv e5 hg.rise hg.ok (h1.le (by omega)) (by omega)
  by_cases e : s.f0 = 1 ∨ s.f0 = 2 ∨ s.f0 = 3
  · cases hp : putOk s.f1 with
    | true => exact refdo_put B0 p fv bv F B s v w h hv (by omega) e hp
    | false => exact refdo_none B0 p fv bv F B s v w h hv (fun _ => hp) e4 e5
  · exact refdo_none B0 p fv bv F B s v w h hv (fun h => absurd h e) e4 e5
end Go.Proofs.Ytncmkcggkgahnaa.PDsk
