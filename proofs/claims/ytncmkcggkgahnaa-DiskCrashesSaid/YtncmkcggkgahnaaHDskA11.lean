-- By the session: contracts proved by hand.
import Derived.Test.YtncmkcggkgahnaaHDskA10
import Derived.Test.YtncmkcggkgahnaaPDskx1
import Derived.RangeFuncBox
import Derived.RangeFuncWrites
import Derived.RangeFuncLeaves
import Derived.RangeFuncCalls
import Derived.Shelf.Abstract
import Derived.WalkKit
import Derived.OwnWalkIn
import Derived.TacticsInMore
import Derived.LoopNIn
import Derived.LoopIn
import Derived.OrdersIn
import Derived.RegionIn
import Derived.Deep.RegionHeld
import Derived.Deep.RegionHeldLaw
import Derived.Deep.RegionLaw
import Derived.Maps.AppendAt
import Derived.Maps.Own
import Derived.Maps.OwnOps
import Derived.Maps.OwnSet
import Derived.Maps.Views
import Derived.Lib.SliceRun
import Derived.Lib.SlBytesConst
namespace Go.Proofs.Ytncmkcggkgahnaa.PDsk
open Go.Maps
open Go.RowKit Go.Shelf Go.Sort Go.Proofs.YtncmkcggkgahnaaW.PrintWords Go.Proofs.YtncmkcggkgahnaaW.PrintLast Go.Proofs.YtncmkcggkgahnaaW.PrintMore
set_option linter.unusedVariables false
set_option linter.unusedSimpArgs false
/-! a disk that is nil; awake; the law DiskNobody: functions 26, 24, 7 -/
set_option maxHeartbeats 2000000 in
set_option maxRecDepth 100000 in
theorem step_nil (s : S55) (A : Option Addr) (n c : Nat) (w : World) : Calls Try.prog 26 #[.pointer none, .agg #[.int .i64 s.f0, .int .i64 s.f1, .int .i64 s.f2, .slice A n c]] w fun e w' => e = .returned (.tuple #[]) ∧ Below w.heap.size w w' := by
  have hbx : Below w.heap.size w (w.alloc (.cells #[.int .i64 s.f0, .int .i64 s.f1, .int .i64 s.f2, .slice A n c] 55)) := below_alloc (Below.refl _ _) _
  have H1 := Aside0.mk (fun W => make_nil s.f1 W)
  have H2 := Aside0.mk (fun W => add_nil s.f1 A n c W)
  have H3 := Aside0.mk (fun W => drop_nil s.f1 W)
  have H4 := Aside0.mk (fun W => sync_nil W)
  have H5 := Aside0.mk (fun W => crash_nil s.f1 s.f2 W)
  have HBX := Aside0.mk hbx
  clear hbx
  have hs := below_alloc (Below.refl w.heap.size w)
  obtain ⟨kd, hkd⟩ : ∃ q, s.f0 = q := ⟨_, rfl⟩
  rw [hkd] at HBX ⊢
  clear hkd hs
  by_cases e1 : kd = 1
  · subst e1
    go_enter Try.func26, Try.ntmps26
    go_wp2_with fail
    refine (H1.out _).mono ?_
    rintro e w1 ⟨rfl, hb⟩
    have HH := Aside0.mk (below_then HBX.out HBX.out.size hb)
    clear hb
    go_wp2
    go_end0
    exact ⟨rfl, HH.out⟩
  by_cases e2 : kd = 2
  · subst e2
    go_enter Try.func26, Try.ntmps26
    go_wp2_with fail
    refine (H2.out _).mono ?_
    rintro e w1 ⟨rfl, hb⟩
    have HH := Aside0.mk (below_then HBX.out HBX.out.size hb)
    clear hb
    go_wp2
    go_end0
    exact ⟨rfl, HH.out⟩
  by_cases e3 : kd = 3
  · subst e3
    go_enter Try.func26, Try.ntmps26
    go_wp2_with fail
    refine (H3.out _).mono ?_
    rintro e w1 ⟨rfl, hb⟩
    have HH := Aside0.mk (below_then HBX.out HBX.out.size hb)
    clear hb
    go_wp2
    go_end0
    exact ⟨rfl, HH.out⟩
  by_cases e4 : kd = 4
  · subst e4
    go_enter Try.func26, Try.ntmps26
    go_wp2_with fail
    refine (H4.out _).mono ?_
    rintro e w1 ⟨rfl, hb⟩
    have HH := Aside0.mk (below_then HBX.out HBX.out.size hb)
    clear hb
    go_wp2
    go_end0
    exact ⟨rfl, HH.out⟩
  by_cases e5 : kd = 5
  · subst e5
    go_enter Try.func26, Try.ntmps26
    go_wp2_with fail
    refine (H5.out _).mono ?_
    rintro e w1 ⟨rfl, hb⟩
    have HH := Aside0.mk (below_then HBX.out HBX.out.size hb)
    clear hb
    go_wp2
    go_end0
    exact ⟨rfl, HH.out⟩
  clear H1 H2 H3 H4 H5
  have d1 : (kd == 1) = false := by simpa using e1
  have d2 : (kd == 2) = false := by simpa using e2
  have d3 : (kd == 3) = false := by simpa using e3
  have d4 : (kd == 4) = false := by simpa using e4
  have d5 : (kd == 5) = false := by simpa using e5
  go_enter Try.func26, Try.ntmps26
  go_wp2
  go_end0
  exact ⟨rfl, HBX.out⟩
theorem DiskAt.lo_of {B0 : Nat} {W : World} {p bm n : Nat} {bv : Value} {F : List S77} {B : List S83} (h : DiskAt B0 W p bm n bv F B) {k : Nat} (hk : DS p bm bv k) : B0 ≤ k := by
  rcases hk with rfl | rfl | hk
  · exact h.lo.1
  · exact h.lo.2
  · exact (h.ne.2.2.2.2.1 k hk).2.1
theorem dat_marked (B0 : Nat) (W : World) (a b c : Int) : DatV B0 (W.alloc (.cells #[.int .u8 a, .int .u8 b, .int .u8 c] 5 (3, 4))) (.slice (some ⟨W.heap.size, 0, none⟩) 3 3) [a, b, c] := by
  have hg : (W.alloc (.cells #[.int .u8 a, .int .u8 b, .int .u8 c] 5 (3, 4))).heap[W.heap.size]? = some (.cells #[.int .u8 a, .int .u8 b, .int .u8 c] 5 (3, 4)) := heap_alloc_new W _
  refine ⟨_, 3, rfl, Nat.le_refl _, Kd.C_of_reads (enc := Value.int .u8) (d := (0 : Int)) ⟨rfl, by simp, fun _ => ⟨_, rfl, fun j hj => ?_⟩⟩, fun ad e _ => ?_⟩
  · rw [add_plain]
    have : ∀ j, (W.alloc (.cells #[.int .u8 a, .int .u8 b, .int .u8 c] 5 (3, 4))).cell? ⟨W.heap.size, j, none⟩ = (#[Value.int .u8 a, .int .u8 b, .int .u8 c])[j]? := fun j => by unfold World.cell?; rw [hg]; rfl
    rw [this]
    simp at hj
    obtain rfl | rfl | rfl : j = 0 ∨ j = 1 ∨ j = 2 := by omega
    all_goals rfl
  · injection e with e
    subst e
    exact ⟨blk_lt hg, .inr ⟨_, _, hg⟩⟩
theorem sizes_nil : Sizes 0 [] [] := ⟨by simp, by simp, fun x hx => by simp at hx, fun x hx => by simp at hx⟩
set_option maxHeartbeats 4000000 in
set_option maxRecDepth 100000 in
theorem awake18 (w : World) : Calls Try.prog 24 #[] w fun e w' => e = .returned (.bool true) ∧ Below w.heap.size w w' := by
  have b1 : bufPut [] 1 1 [] = [⟨1, 1, []⟩] := rfl
  have b2 : bufPut [⟨1, 1, []⟩] 2 1 [97, 98, 99] = [⟨1, 1, []⟩, ⟨2, 1, [97, 98, 99]⟩] := rfl
  have b3 : crashF [] [⟨1, 1, []⟩, ⟨2, 1, [97, 98, 99]⟩] 1 2 = [⟨1, [97, 98]⟩] := rfl
  have HB1 := Aside0.mk b1
  have HB2 := Aside0.mk b2
  have HB3 := Aside0.mk b3
  clear b1 b2 b3
  go_enter Try.func24, Try.ntmps24
  go_wp2_with fail
  refine (new_any w.heap.size w (Nat.le_refl _)).mono ?_
  rintro e w1 ⟨p, bm, rfl, hd1, hp, hbm, hb1⟩
  have HD1 := Aside0.mk hd1
  have HBl1 := Aside0.mk hb1
  clear hd1 hb1
  go_wp2_with fail
  refine (make_any w.heap.size p bm 0 _ [] [] 1 w1 HD1.out (by simp)).mono ?_
  rintro e w2 ⟨bv2, rfl, hd2, hk2, ho2⟩
  rw [HB1.out] at hd2
  have HD2 := Aside0.mk hd2
  have HBl2 := Aside0.mk (hk2.below HBl1.out HBl1.out.size (fun k hk => HD1.out.lo_of hk))
  clear hd2 hk2 ho2 HBl1
  have hcv : (convert 28 28 (.slice (some ⟨w2.heap.size, 0, none⟩) 3 3)).run Try.prog (w2.alloc (.cells #[.int .u8 97, .int .u8 98, .int .u8 99] 5)) = .ok (.slice (some ⟨w2.heap.size, 0, none⟩) 3 3) (w2.alloc (.cells #[.int .u8 97, .int .u8 98, .int .u8 99] 5 (3, 4))) := Lib.run_convert_bytes_const w2 28 5 _ 3 3 Try.underlying28 Try.underlying5
  go_wp2_with fail
  clear hcv
  have hlit := dat_marked w.heap.size w2 97 98 99
  have hbl : Below w2.heap.size w2 (w2.alloc (.cells #[.int .u8 97, .int .u8 98, .int .u8 99] 5 (3, 4))) := below_alloc (Below.refl _ _) _
  have HD2' := Aside0.mk (HD2.out.below hbl)
  have HBl2' := Aside0.mk (below_then HBl2.out HBl2.out.size hbl)
  refine (add_any w.heap.size p bm 0 _ [] _ 1 _ [97, 98, 99] _ HD2'.out hlit (by simp) (by simp)).mono ?_
  rintro e w3 ⟨bv3, rfl, hd3, hk3, ho3⟩
  rw [HB2.out] at hd3
  have HD3 := Aside0.mk hd3
  have HBl3 := Aside0.mk (hk3.below HBl2'.out HBl2'.out.size (fun k hk => HD2'.out.lo_of hk))
  clear hd3 hk3 ho3 hlit hbl HBl2 HD2
  have hsz : Sizes 0 [] [⟨1, 1, []⟩, ⟨2, 1, [97, 98, 99]⟩] := ⟨by simp, by simp, fun x hx => by simp at hx, fun x hx => by
    rcases List.mem_cons.1 hx with rfl | hx
    · exact ⟨.inl rfl, by decide, by decide, by simp⟩
    · obtain rfl := List.mem_singleton.1 hx
      exact ⟨.inr (.inl rfl), by decide, by decide, by simp⟩⟩
  have HSZ := Aside0.mk hsz
  clear hsz
  go_wp2_with fail
  refine (crash_any w.heap.size p bm 0 _ [] _ 1 2 _ HD3.out HSZ.out (fun x hx => by simp at hx)).mono ?_
  rintro e w4 ⟨rfl, hd4, hk4⟩
  rw [HB3.out] at hd4
  have HD4 := Aside0.mk hd4
  have HBl4 := Aside0.mk (hk4.below HBl3.out HBl3.out.size (fun k hk => HD3.out.lo_of hk))
  clear hd4 hk4
  go_wp2_with fail
  refine (files_any w.heap.size p bm _ _ [⟨1, [97, 98]⟩] _ _ HD4.out (by simp) (fun x hx => by obtain rfl := List.mem_singleton.1 hx; simp) (fun x hx => by obtain rfl := List.mem_singleton.1 hx; exact ⟨by decide, by decide⟩)).mono ?_
  rintro e w5 ⟨v5, rfl, hr5, hb5⟩
  obtain ⟨A5, c5, rfl, hc5, hC5⟩ := Ro77.C hr5
  have HBl5 := Aside0.mk (below_then HBl4.out HBl4.out.size hb5)
  obtain ⟨ad, A6, c6, e6, x0, x1, hc6, hC6⟩ := at_T77 hC5 0 (by omega) (by simp)
  subst e6
  have hstr : (convert 28 9 (.slice A6 2 c6)).run Try.prog w5 = .ok (.string { data := #[97, 98] }) w5 := Kd.C_string (P := Try.prog) (src := 28) (dst := 9) (e := 5) (c := c6) Try.underlying28 Try.underlying5 Try.underlying9 hC6
  have x1' : w5.cell? ⟨ad.block, ad.off + 1, none⟩ = some (.slice A6 2 c6) := x1
  clear x0 x1 hC6
  clear hr5 hb5 hC5
  go_wp2
  go_ret
  exact ⟨rfl, HBl5.out⟩
/-! Large -/
theorem wr1 {i : Nat} (h : i < 9223372036854775807) : wrap64 ((i : Int) + 1) = ((i + 1 : Nat) : Int) := by unfold wrap64; omega
theorem _root_.Go.Proofs.YtncmkcggkgahnaaW.PrintWords.Ev.to {α : Type} {g : Nat → Option α} {r r' : α} (h : Ev g r) (e : r = r') : Ev g r' := e ▸ h
theorem large_loop (l : List S55) (hn : l.length < 9223372036854775807) : ∀ (d i : Nat), i + d = 60 → i ≤ l.length → ∃ r, Ev (fun k => changeoverref18_Large.l0 k l i) r ∧ (r = false → l.length ≤ 60 ∧ ∀ j : Nat, i ≤ j → j < l.length → (rd_T55 l j).f3.length ≤ 100) := by
  intro d
  induction d with
  | zero =>
    intro i hi hil
    refine ⟨decide ((l.length : Int) > 60), ?_, fun h => ?_⟩
    · by_cases hlt : (i : Int) < (l.length : Int)
      · refine Ev.step (fun k => by simp only [changeoverref18_Large.l0]; rw [if_pos hlt]) ?_
        refine Ev.step (f := fun _ => some _) (fun k => by simp only [changeoverref18_Large.j1]; rw [if_neg (by simp; omega)]) (Ev.now _)
      · refine Ev.step (fun k => by simp only [changeoverref18_Large.l0]; rw [if_neg hlt]) ?_
        exact Ev.step (f := fun _ => some _) (fun k => by simp only [changeoverref18_Large.j1]; rw [if_neg (by simp)]) (Ev.now _)
    · have : ¬ ((l.length : Int) > 60) := by simpa using h
      exact ⟨by omega, fun j h1 h2 => by omega⟩
  | succ d ih =>
    intro i hi hil
    by_cases hlt : (i : Int) < (l.length : Int)
    · by_cases hb : (((rd_T55 l i).f3).length : Int) > 100
      · refine ⟨true, ?_, fun h => by cases h⟩
        refine Ev.step (fun k => by simp only [changeoverref18_Large.l0]; rw [if_pos hlt]) ?_
        exact Ev.step (f := fun _ => some true) (fun k => by simp only [changeoverref18_Large.j1]; rw [if_pos (by simp; omega), if_pos (Int.natCast_nonneg i), if_pos hlt, if_pos hb]) (Ev.now _)
      · obtain ⟨r, hr, hf⟩ := ih (i + 1) (by omega) (by omega)
        refine ⟨r, ?_, fun h => ?_⟩
        · refine Ev.step (fun k => by simp only [changeoverref18_Large.l0]; rw [if_pos hlt]) ?_
          exact Ev.step (fun k => by simp only [changeoverref18_Large.j1]; rw [if_pos (by simp; omega), if_pos (Int.natCast_nonneg i), if_pos hlt, if_neg hb, wr1 (by omega)]) hr
        · obtain ⟨h1, h2⟩ := hf h
          refine ⟨h1, fun j h3 h4 => ?_⟩
          rcases Nat.eq_or_lt_of_le h3 with e | e
          · subst e; omega
          · exact h2 j e h4
    · refine ⟨decide ((l.length : Int) > 60), ?_, fun h => ⟨by omega, fun j h1 h2 => by omega⟩⟩
      refine Ev.step (fun k => by simp only [changeoverref18_Large.l0]; rw [if_neg hlt]) ?_
      exact Ev.step (f := fun _ => some _) (fun k => by simp only [changeoverref18_Large.j1]; rw [if_neg (by simp)]) (Ev.now _)
theorem large_ev (l : List S55) (hn : l.length < 9223372036854775807) : ∃ k r, changeoverref18_Large.f k l = some r ∧ (r = false → l.length ≤ 60 ∧ ∀ j : Nat, j < l.length → (rd_T55 l j).f3.length ≤ 100) := by
  obtain ⟨r, hr, hf⟩ := large_loop l hn 60 0 (by omega) (by omega)
  obtain ⟨k, hk⟩ := hr.rounds
  exact ⟨k, r, hk, fun h => ⟨(hf h).1, fun j hj => (hf h).2 j (by omega) hj⟩⟩
end Go.Proofs.Ytncmkcggkgahnaa.PDsk
