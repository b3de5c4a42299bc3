-- By the session: contracts proved by hand.
import Derived.Test.YtalpnhgkhhmmlaaHTalA8
import Derived.Test.YtalpnhgkhhmmlaaTPlain1
import Derived.Deep.RegionWith
import Derived.Deep.RegionHeld3
import Derived.Deep.DeepCutAuto
import Derived.Deep.CutBlock
import Derived.Deep.LoopGhost
import Derived.RegionTactic
import Derived.ChangeAlike
import Derived.StillTailTactics
import Derived.Shelf.SlMaps.DeleteFunc
import Derived.Shelf.Abstract
import Derived.Maps.Own
import Derived.Maps.OwnOps
import Derived.Maps.OwnSet
import Derived.Maps.Views
import Derived.Lib.Hide
import Derived.Laws.BitsAllLaws
namespace Go.Proofs.Ytalpnhgkhhmmlaa.PTal
open Go.Maps
open Go.RowKit Go.Shelf Go.Proofs.YtalpnhgkhhmmlaaW.PrintWords Go.Proofs.YtalpnhgkhhmmlaaW.PrintLast Go.Proofs.YtalpnhgkhhmmlaaW.PrintMore
set_option linter.unusedVariables false
set_option linter.unusedSimpArgs false
/-! the law TallyVotes: function 7 -/
theorem info55v : (Try.prog.info? 55).map (fun i => (i.zero, i.size, i.bytes)) = some (some (.agg #[.int .i64 0, .int .i64 0, .int .i64 0, .int .i64 0, .bool false]), k55.sz, 40) := by kernel_rfl
theorem votes_large (A0 : Option Addr) (c0 : Nat) (l : List S55) (i : Int) (A2 : Option Addr) (c2 : Nat) (x2 : List Int) (w : World) (h : l.length > 60 ∨ x2.length > 60) :
    Calls Try.prog 7 #[.slice A0 l.length c0, .int .i64 i, .slice A2 x2.length c2] w fun e w' => e = .returned (.bool true) ∧ Below w.heap.size w w' := by
  have HA := Aside0.mk (fun W => awake34 W)
  by_cases h0 : l.length > 60
  · have g0 : (60 : Int) < (l.length : Int) := by omega
    clear h
    go_enter Try.func7, Try.ntmps7
    go_wp2_with fail
    refine (HA.out _).mono ?_
    rintro e w1 ⟨rfl, hb⟩
    have HB := Aside0.mk hb
    clear hb
    go_wp2
    go_ret
    exact ⟨rfl, HB.out⟩
  have g0 : ¬ ((60 : Int) < (l.length : Int)) := by omega
  have g1 : (60 : Int) < (x2.length : Int) := by omega
  clear h
  go_enter Try.func7, Try.ntmps7
  go_wp2_with fail
  refine (HA.out _).mono ?_
  rintro e w1 ⟨rfl, hb⟩
  have HB := Aside0.mk hb
  clear hb
  go_wp2
  go_ret
  exact ⟨rfl, HB.out⟩
theorem GV.open {got : List S55} {low : Int} {V : Int → Nat} (h : GV got low V) (x : Int) : V x ≠ 0 ↔ ∃ j : Nat, j < got.length ∧ (rd_T55 got j).f1 = x ∧ low < x := by
  constructor
  · intro h0
    obtain ⟨y, hy⟩ := Nat.exists_testBit_of_ne_zero h0
    rw [Nat.testBit_eq_decide_div_mod_eq, decide_eq_true_iff] at hy
    obtain ⟨h1, j, h2, h3, _⟩ := (h.bit x y).1 hy
    exact ⟨j, h2, h3, h1⟩
  · rintro ⟨j, h1, h2, h3⟩ h0
    have hn := h.node j h1
    have := (h.bit x (rd_T55 got j).f2.toNat).2 ⟨h3, j, h1, h2, by omega⟩
    rw [h0] at this
    simp at this
set_option maxHeartbeats 4000000 in
set_option maxRecDepth 100000 in
theorem votes_main (A0 : Option Addr) (c0 : Nat) (l : List S55) (ix : Int) (A2 : Option Addr) (c2 : Nat) (ms : List Int) (w : World) (h0 : ¬ l.length > 60) (h2 : ¬ ms.length > 60) (hwf : (Lit.int .i64 ix).wf = true)
    (hr0 : Kd.C k55 w A0 l.length l) (hc0 : l.length ≤ c0) (hr2 : Kd.C (Kd.int .i64) w A2 ms.length ms) (hc2 : ms.length ≤ c2) :
    Calls Try.prog 7 #[.slice A0 l.length c0, .int .i64 ix, .slice A2 ms.length c2] w fun e w' => e = .returned (.bool true) ∧ Below w.heap.size w w' := by
  have g0 : ¬ ((60 : Int) < (l.length : Int)) := by omega
  have g2 : ¬ ((60 : Int) < (ms.length : Int)) := by omega
  have HR0 := Aside0.mk hr0
  have HR2 := Aside0.mk hr2
  clear hr0 hr2
  go_enter Try.func7, Try.ntmps7
  go_wp2_with fail
  refine (new_any 2 1 _).mono ?_
  rintro e W1 ⟨p, bm, rfl, hT1, hp1, hb1, hp2, hb2, hB1⟩
  have hx1 : W1.heap[w.heap.size]? = some (.cells #[.int .i64 2, .int .i64 1] 46 (0, 0)) := (hB1.block _ (by simp)).trans (heap_alloc_new w _)
  have HX := Aside0.mk hx1
  have HT := Aside0.mk hT1
  have HB := Aside0.mk (below_then (below_alloc (Below.refl w.heap.size w) (Obj.cells #[Value.int IntKind.i64 2, Value.int IntKind.i64 1] 46)) (by simp) hB1)
  rw [World.size_alloc] at hp1 hb1
  have HN : Aside0 (w.heap.size < p ∧ w.heap.size < bm ∧ p < W1.heap.size ∧ bm < W1.heap.size) := ⟨by omega, by omega, hp2, hb2⟩
  clear hT1 hB1 hx1 hp1 hb1 hp2 hb2
  go_wp2_with fail
  go_loopw [9, 10, 11] (fun v lo i wr => ∃ (k : Nat) (got : List S55) (low : Int) (V : Int → Nat) (D : DataW Unit), i = .int .i64 k ∧ k ≤ l.length ∧ lo = .int .i64 low ∧ got.length ≤ k ∧ Aside0 (GV got low V) ∧ Aside0 (VRep D V) ∧ Aside0 (TallyAt wr p bm k 2 1 low D) ∧ Aside0 (Kd.N k55 55 wr w.heap.size (fun k => k ≠ p ∧ k ≠ bm ∧ k ≠ w.heap.size) v got) ∧ Aside0 (Below w.heap.size w wr) ∧ Aside0 (wr.heap[w.heap.size]? = some (.cells #[.int .i64 2, .int .i64 1] 46 (0, 0))) ∧ Aside0 (p < wr.heap.size ∧ bm < wr.heap.size)) (fun _ _ i _ => l.length - (intOf i).toNat)
  case atStart => exact ⟨0, [], 0, _, _, rfl, by omega, rfl, by simp, ⟨GV.start⟩, ⟨VRep.empty⟩, HT, ⟨Kd.N_nil _ _ _ _ _⟩, HB, HX, ⟨HN.out.2.2⟩⟩
  case round =>
    have HN0 : Aside0 (w.heap.size < p ∧ w.heap.size < bm) := ⟨HN.out.1, HN.out.2.1⟩
    clear HT HB HX HN
    obtain ⟨k, got, low, V, D, rfl, hk, rfl, hgk, HG, HV, HT, HO, HB, HX, HP⟩ := hrel
    obtain ⟨Ag, cg, rfl, hcg, hCg⟩ := Kd.N_reads HO.out
    have HCG := Aside0.mk hCg
    have HCC := Aside0.mk hcg
    clear hCg hcg
    by_cases hlt : k < l.length
    · have q1 : (0 : Int) ≤ (k : Int) := by omega
      have q2 : (k : Int) < (l.length : Int) := by omega
      obtain ⟨ad, e0, x0, x1, x2, x3, x4⟩ := at_T55 HR0.out (k : Int) q1 q2
      subst e0
      simp only [Int.toNat_natCast] at x0 x1 x2 x3 x4
      have hadl : (ad.add (k * 5)).block < w.heap.size := by have := World.block_lt_of_cell? w _ x0; exact this
      replace x0 := (HB.out.cell (World.block_lt_of_cell? w _ x0)).trans x0
      replace x1 := (HB.out.cell (World.block_lt_of_cell? w _ x1)).trans x1
      replace x2 := (HB.out.cell (World.block_lt_of_cell? w _ x2)).trans x2
      replace x3 := (HB.out.cell (World.block_lt_of_cell? w _ x3)).trans x3
      replace x4 := (HB.out.cell (World.block_lt_of_cell? w _ x4)).trans x4
      have y0 : wr.cell? ⟨w.heap.size, 0, none⟩ = some (.int .i64 2) := blk_cell HX.out 0
      have y1 : wr.cell? ⟨w.heap.size, 1, none⟩ = some (.int .i64 1) := blk_cell HX.out 1
      obtain ⟨u, hu⟩ : ∃ u, rd_T55 l (k : Int) = u := ⟨_, rfl⟩
      rw [hu] at x0 x1 x2 x3 x4
      clear hu
      by_cases hd : u.f3 = true
      · rw [hd] at x4
        go_wp2_with fail
        refine (drop_any p bm k 2 1 low u.f1 D _ HT.out).mono ?_
        rintro e W2 ⟨rfl, hT2, hk2⟩
        have hS : ∀ q, q < w.heap.size ∨ q = w.heap.size → ¬ (q = p ∨ q = bm) := fun q hq => by have := HN0.out; omega
        have z2 : W2.cell? ⟨(ad.add (k * 5)).block, (ad.add (k * 5)).off + 2, none⟩ = some (.int .i64 u.f1) := hk2.cell x2 (hS _ (.inl hadl))
        have HT2 := Aside0.mk hT2
        have HX2 := Aside0.mk (hk2.blk HX.out (hS _ (.inr rfl)))
        have HB2 := Aside0.mk (hk2.below HB.out HB.out.size (fun q hq => by have := HN0.out; omega))
        have HO2 := Aside0.mk (Kd.N_step HO.out (fun q hq hlt => hk2.block q hlt (fun h => by rcases h with h | h; exact hq.1 h; exact hq.2.1 h)))
        have HP2 : Aside0 (p < W2.heap.size ∧ bm < W2.heap.size) := ⟨Nat.lt_of_lt_of_le HP.out.1 hk2.size, Nat.lt_of_lt_of_le HP.out.2 hk2.size⟩
        have HMX := Aside0.mk (show mx low u.f1 = max low u.f1 from (show (if low < u.f1 then u.f1 else low) = max low u.f1 by split <;> omega))
        clear hT2 hk2 x0 x1 x2 x3 x4 y0 y1 hS
        go_wp2
        go_roundw
        case rel => exact ⟨k + 1, got, max low u.f1, _, _, by go_num, by omega, rfl, by omega, ⟨by rw [← HMX.out]; exact HG.out.drop u.f1⟩, ⟨HV.out.drop u.f1⟩, ⟨by rw [← HMX.out]; exact ⟨HT2.out.hp, HT2.out.hm.mono (by omega)⟩⟩, HO2, HB2, HX2, HP2⟩
        case measure => simp [intOf]; omega
      · have hd' : u.f3 = false := Bool.eq_false_iff.mpr hd
        rw [hd'] at x4
        clear hd
        obtain ⟨kc, hkc⟩ := (counts_ev got low V HG.out 2 1 u.f0.f0 u.f0.f1 u.f1 u.f2 false (by omega)).rounds
        obtain ⟨C, hC⟩ : ∃ C, cnt 2 1 low V u.f0.f0 u.f0.f1 u.f1 u.f2 = C := ⟨_, rfl⟩
        rw [hC] at hkc
        have HKC := Aside0.mk hkc
        have HCN := Aside0.mk hC
        clear hC hkc
        go_wp2_with fail
        go_region_held3 (fun w' => w'.cell? ⟨w.heap.size, 0, none⟩ = some (.int .i64 2) ∧ w'.cell? ⟨w.heap.size, 1, none⟩ = some (.int .i64 1) ∧ w'.cell? (ad.add (k * 5)) = some (.int .i64 u.f0.f0) ∧ w'.cell? ⟨(ad.add (k * 5)).block, (ad.add (k * 5)).off + 1, none⟩ = some (.int .i64 u.f0.f1) ∧ w'.cell? ⟨(ad.add (k * 5)).block, (ad.add (k * 5)).off + 2, none⟩ = some (.int .i64 u.f1) ∧ w'.cell? ⟨(ad.add (k * 5)).block, (ad.add (k * 5)).off + 3, none⟩ = some (.int .i64 u.f2) ∧ w'.cell? ⟨(ad.add (k * 5)).block, (ad.add (k * 5)).off + 4, none⟩ = some (.bool false))
          (first | exact ⟨y0, y1, x0, x1, x2, x3, x4⟩ | exact ⟨pw_cell_below HB1.out y0, pw_cell_below HB1.out y1, pw_cell_below HB1.out x0, pw_cell_below HB1.out x1, pw_cell_below HB1.out x2, pw_cell_below HB1.out x3, pw_cell_below HB1.out x4⟩)
          (first | (go_at_call 28; (with_reducible refine (changeoverref34_Counts.calls kc 2 1 Ag cg got low u.f0.f0 u.f0.f1 u.f1 u.f2 false C _ ?_ HCC.out HKC.out).mono ?_); (focus (exact Kd.C_drew HCG.out)); rintro e w1 ⟨rfl, hb1⟩; have HB1 := Aside0.mk (below_then (below_drew (Below.refl wr.heap.size wr)) (Nat.le_refl _) hb1); clear hb1))
        have hne : ¬ (ad.add (k * 5)).block = bm := by have := HN0.out; omega
        have v0 := pw_cell_below HB1.out x0
        have v1 := pw_cell_below HB1.out x1
        have v2 := pw_cell_below HB1.out x2
        have v3 := pw_cell_below HB1.out x3
        have v4 := pw_cell_below HB1.out x4
        have HT1 := Aside0.mk (HT.out.below HB1.out)
        have HX1 := Aside0.mk ((HB1.out.block _ (blk_lt HX.out)).trans HX.out)
        have HO1 := Aside0.mk (Kd.N_below HO.out HB1.out)
        have HBB := Aside0.mk (below_then HB.out HB.out.size HB1.out)
        have HP1 : Aside0 (p < w1.heap.size ∧ bm < w1.heap.size) := ⟨Nat.lt_of_lt_of_le HP.out.1 HB1.out.size, Nat.lt_of_lt_of_le HP.out.2 HB1.out.size⟩
        clear x0 x1 x2 x3 x4 y0 y1 HT HX HO HB HP
        go_wp2_with fail
        go_region_held3 (fun w' => w'.cell? (ad.add (k * 5)) = some (.int .i64 u.f0.f0) ∧ w'.cell? ⟨(ad.add (k * 5)).block, (ad.add (k * 5)).off + 1, none⟩ = some (.int .i64 u.f0.f1) ∧ w'.cell? ⟨(ad.add (k * 5)).block, (ad.add (k * 5)).off + 2, none⟩ = some (.int .i64 u.f1) ∧ w'.cell? ⟨(ad.add (k * 5)).block, (ad.add (k * 5)).off + 3, none⟩ = some (.int .i64 u.f2))
          (first | exact ⟨v0, v1, v2, v3⟩ | exact ⟨HK2.out.cell v0 hne, HK2.out.cell v1 hne, HK2.out.cell v2 hne, HK2.out.cell v3 hne⟩)
          (first | (go_at_call 24; (with_reducible refine (vote_any p bm k 2 1 low u.f0.f0 u.f0.f1 u.f1 u.f2 D V _ ?_ HV.out ?_).mono ?_); (focus (exact HT1.out.below (below_drew (Below.refl _ _)))); (focus omega); rintro e w2 ⟨D2, rfl, hT2, hV2, hk2⟩; rw [HCN.out] at hV2 ⊢; have HT2 := Aside0.mk hT2; have HV2 := Aside0.mk hV2; have HK2 := Aside0.mk ((Kpt.drewN (fun k => k = bm) w1 1).trans hk2); clear hT2 hV2 hk2))
        have hbml := HN0.out
        have v0' := HK2.out.cell v0 hne
        have v1' := HK2.out.cell v1 hne
        have v2' := HK2.out.cell v2 hne
        have v3' := HK2.out.cell v3 hne
        have v4' := HK2.out.cell v4 hne
        have HX2 := Aside0.mk (HK2.out.blk HX1.out (by omega))
        have HO2 := Aside0.mk (Kd.N_step HO1.out (fun q hq hlt => HK2.out.block q hlt hq.2.1))
        have HB2 := Aside0.mk (HK2.out.below HBB.out HBB.out.size (fun q hq => by subst hq; omega))
        have HP2 : Aside0 (p < w2.heap.size ∧ bm < w2.heap.size) := ⟨Nat.lt_of_lt_of_le HP1.out.1 HK2.out.size, Nat.lt_of_lt_of_le HP1.out.2 HK2.out.size⟩
        clear v0 v1 v2 v3 v4 HX1 HO1 HBB HP1 HT1 HK2
        cases C with
        | false =>
          go_wp2_with fail
          go_roundw
          case rel => exact ⟨k + 1, got, low, V, D2, by go_num, by omega, rfl, by omega, HG, ⟨by simpa using HV2.out⟩, HT2, HO2, HB2, HX2, HP2⟩
          case measure => simp [intOf]; omega
        | true =>
          obtain ⟨cy1, cy2, cy3⟩ := cnt_yes HCN.out
          have HG2 := Aside0.mk (HG.out.put u cy1 cy2 cy3)
          have HFK : Aside0 (∀ W', k55.K W' u [.int .i64 u.f0.f0, .int .i64 u.f0.f1, .int .i64 u.f1, .int .i64 u.f2, .bool false]) := ⟨fun W' => by have := k55_mk W' u; rwa [hd'] at this⟩
          clear cy1 cy2 cy3
          go_wp2_with (first
            | (at_builtin; refine Kd.N_append k55 (w0 := w) w.heap.size rfl (.tmp 80) (.tmp 85) 53 55 _ 40 rfl Try.underlying53 info55v rfl (by decide) (by decide) (.slice Ag got.length cg) got u [.int .i64 u.f0.f0, .int .i64 u.f0.f1, .int .i64 u.f1, .int .i64 u.f2, .bool false] (fun k => k ≠ p ∧ k ≠ bm ∧ k ≠ w.heap.size) (fun _ => False) (by first | rfl | (simp [Act.eval, Act.put]; done)) (by first | rfl | (simp [Act.eval, Act.put]; done)) (fun W' _ => HFK.out W') (fun _ hk => hk.elim) (fun k hk => by have := HP2.out; omega) HO2.out HB2.out HB2.out.size (by omega) ?_; intro v5 w5 hr5 hb5 hg5 hat5; have HO5 := Aside0.mk hr5; have HB5 := Aside0.mk hb5; have HG5 := Aside0.mk hg5; clear hr5 hb5 hg5 hat5)
            | fail)
          have hown : ∀ q, some q = (Value.slice Ag got.length cg).ownBlock → q ≠ p ∧ q ≠ bm ∧ q ≠ w.heap.size := fun q hq => HO2.out.1 q hq.symm
          have HK5 := Aside0.mk (Kpt.of_grown (S := fun q => some q = (Value.slice Ag got.length cg).ownBlock) HG5.out (fun q hq => hq.symm))
          refine ⟨⟨k + 1, got ++ [u], low, _, D2, by go_num, by omega, rfl, by simp; omega, ⟨HG2.out⟩, ⟨by simpa using HV2.out⟩, ⟨HT2.out.kept HK5.out (fun h => (hown _ h).1 rfl) (fun h => (hown _ h).2.1 rfl)⟩, HO5, HB5, ⟨HK5.out.blk HX2.out (fun h => (hown _ h).2.2 rfl)⟩, ⟨Nat.lt_of_lt_of_le HP2.out.1 HK5.out.size, Nat.lt_of_lt_of_le HP2.out.2 HK5.out.size⟩⟩, ?_⟩
          simp [intOf]; omega
    · obtain rfl : k = l.length := by omega
      have hlg : got.length < 1000000 := by omega
      have hbm := HN0.out
      obtain ⟨kn, hkn⟩ := (nodes_ev got low ix V HG.out hlg).rounds
      obtain ⟨N, hN⟩ : ∃ N, nodesOf (V ix) 10 = N := ⟨_, rfl⟩
      have hNl : N.length ≤ 10 := by rw [← hN]; exact nodesOf_len _ _
      rw [hN] at hkn
      have HNN := Aside0.mk hN
      have HKN := Aside0.mk hkn
      clear hN hkn
      go_wp2_with fail
      refine (changeoverref34_Nodes.calls kn Ag cg got low ix N _ HCG.out HCC.out HKN.out).mono ?_
      rintro e w1 ⟨v1, rfl, hr1, hb1⟩
      obtain ⟨A1, c1, rfl, hc1, hC1⟩ := Kd.R_reads hr1
      have HC1 := Aside0.mk hC1
      have HCC1 := Aside0.mk hc1
      have HCG1 := Aside0.mk (Kd.C_below HCG.out hb1)
      have HT1 := Aside0.mk (HT.out.below hb1)
      have HX1 := Aside0.mk ((hb1.block _ (blk_lt HX.out)).trans HX.out)
      have HB1 := Aside0.mk (below_then HB.out HB.out.size hb1)
      clear hr1 hC1 hc1 hb1 HCG HT HX HB HO HP
      go_wp2_with fail
      refine (drop_nil ix _).mono ?_
      rintro e w2 ⟨rfl, hb2⟩
      have HC2 := Aside0.mk (Kd.C_below HC1.out hb2)
      have HCG2 := Aside0.mk (Kd.C_below HCG1.out hb2)
      have HT2 := Aside0.mk (HT1.out.below hb2)
      have HX2 := Aside0.mk ((hb2.block _ (blk_lt HX1.out)).trans HX1.out)
      have HB2 := Aside0.mk (below_then HB1.out HB1.out.size hb2)
      clear hb2 HC1 HCG1 HT1 HX1 HB1
      go_wp2_with fail
      have cN := nodes_any p bm _ 2 1 low ix D w2 HT2.out hwf (V ix) (HV.out.lt ix) (HV.out.look ix)
      rw [HNN.out] at cN
      refine cN.mono ?_
      clear cN
      rintro e w3 ⟨v3, rfl, hr3, hb3⟩
      obtain ⟨A3, c3, rfl, hc3, hC3⟩ := nodes_C hr3
      have HC3 := Aside0.mk hC3
      have HC2' := Aside0.mk (Kd.C_below HC2.out hb3)
      have HCG3 := Aside0.mk (Kd.C_below HCG2.out hb3)
      have HT3 := Aside0.mk (HT2.out.below hb3)
      have HX3 := Aside0.mk ((hb3.block _ (blk_lt HX2.out)).trans HX2.out)
      have HB3 := Aside0.mk (below_then HB2.out HB2.out.size hb3)
      clear hr3 hC3 hb3 HC2 HCG2 HT2 HX2 HB2
      obtain ⟨k1, hk1⟩ := ((ints_ev N N (by omega)).to (decide_eq_true rfl)).rounds
      have HK1 := Aside0.mk hk1
      clear hk1
      go_wp2_with fail
      refine (changeoverref01_Ints.calls k1 A3 c3 N A1 c1 N true _ HC3.out hc3 HC2'.out HCC1.out HK1.out).mono ?_
      rintro e w4 ⟨rfl, ⟨m4, rfl⟩⟩
      clear HC3 HK1
      go_wp2_with fail
      refine (open_any p bm _ 2 1 low D _ (HT3.out.below (pw_below_drewN (Below.refl _ _) m4)) (by omega)).mono ?_
      rintro e w5 ⟨v5, S, rfl, hr5, hS5, hso, hmem, hb5⟩
      obtain ⟨A5, c5, rfl, hc5, hC5⟩ := nodes_C hr5
      have hb5' : Below w3.heap.size w3 w5 := below_then (pw_below_drewN (Below.refl _ _) m4) (Nat.le_refl _) hb5
      have HC5 := Aside0.mk hC5
      have HS5 := Aside0.mk (And.intro hso hmem)
      have HN5 := Aside0.mk (Kd.C_below HC2'.out hb5')
      have HCG5 := Aside0.mk (Kd.C_below HCG3.out hb5')
      have HT5 := Aside0.mk (HT3.out.below hb5')
      have HX5 := Aside0.mk ((hb5'.block _ (blk_lt HX3.out)).trans HX3.out)
      have HB5 := Aside0.mk (below_then HB3.out HB3.out.size hb5')
      clear hr5 hC5 hb5 hb5' hso hmem HC2' HCG3 HT3 HX3 HB3
      go_wp2_with fail
      refine (refOpen Ag cg got low _ HCG5.out HCC.out hlg).mono ?_
      rintro e w6 ⟨v6, O, rfl, hr6, hO6, hOl, hb6⟩
      obtain rfl : S = O := pairwise_mem_eq HS5.out.1 hO6.1 (fun x => by rw [HS5.out.2, HV.out.has, hO6.2, decide_eq_true_iff]; exact HG.out.open x)
      obtain ⟨A6, c6, rfl, hc6, hC6⟩ := nodes_C hr6
      have HC6 := Aside0.mk hC6
      have HC5' := Aside0.mk (Kd.C_below HC5.out hb6)
      have HN6 := Aside0.mk (Kd.C_below HN5.out hb6)
      have HT6 := Aside0.mk (HT5.out.below hb6)
      have HX6 := Aside0.mk ((hb6.block _ (blk_lt HX5.out)).trans HX5.out)
      have HB6 := Aside0.mk (below_then HB5.out HB5.out.size hb6)
      clear hr6 hC6 hb6 hO6 HC5 HN5 HCG5 HT5 HX5 HB5
      obtain ⟨k2, hk2⟩ := ((ints_ev S S (by omega)).to (decide_eq_true rfl)).rounds
      have HK2 := Aside0.mk hk2
      clear hk2
      go_wp2_with fail
      refine (changeoverref01_Ints.calls k2 A5 c5 S A6 c6 S true _ HC5'.out hc5 HC6.out hc6 HK2.out).mono ?_
      rintro e w7 ⟨rfl, ⟨m7, rfl⟩⟩
      clear HC5' HC6 HK2
      go_wp2_with fail
      have hb7 : Below w6.heap.size w6 (w6.drewN m7) := pw_below_drewN (Below.refl _ _) m7
      have cW := won_any p bm _ 2 1 low ix D (w6.drewN m7) (HT6.out.below hb7) hwf (V ix) (HV.out.lt ix) (HV.out.look ix) A2 ms c2 (Kd.C_below HR2.out (below_then HB6.out HB6.out.size hb7)) hc2 (by omega)
      rw [HNN.out] at cW
      refine cW.mono ?_
      clear cW
      rintro e w8 ⟨rfl, hb8⟩
      have hb8' : Below w6.heap.size w6 w8 := below_then hb7 (Nat.le_refl _) hb8
      have HN8 := Aside0.mk (Kd.C_below HN6.out hb8')
      have HX8 := Aside0.mk ((hb8'.block _ (blk_lt HX6.out)).trans HX6.out)
      have HB8 := Aside0.mk (below_then HB6.out HB6.out.size hb8')
      clear hb7 hb8 hb8' HN6 HX6 HB6 HT6
      obtain ⟨k3, hk3⟩ := (refmaj_ev ms N (by omega) (by omega)).rounds
      have HK3 := Aside0.mk hk3
      clear hk3
      go_wp2_with fail
      refine (changeoverref11_Majority.calls k3 A2 c2 ms A1 c1 N (majOf ms N) _ (Kd.C_below HR2.out HB8.out) hc2 HN8.out HCC1.out HK3.out).mono ?_
      rintro e w9 ⟨rfl, ⟨m9, rfl⟩⟩
      have hb9 : Below w8.heap.size w8 (w8.drewN m9) := pw_below_drewN (Below.refl _ _) m9
      have y0 : (w8.drewN m9).cell? ⟨w.heap.size, 0, none⟩ = some (.int .i64 2) := pw_cell_below hb9 (blk_cell HX8.out 0)
      have y1 : (w8.drewN m9).cell? ⟨w.heap.size, 1, none⟩ = some (.int .i64 1) := pw_cell_below hb9 (blk_cell HX8.out 1)
      have HB9 := Aside0.mk (below_then HB8.out HB8.out.size hb9)
      clear hb9 HN8 HX8 HB8 HK3
      obtain ⟨W9, hW9⟩ : ∃ W9, w8.drewN m9 = W9 := ⟨_, rfl⟩
      rw [hW9] at y0 y1 HB9 ⊢
      clear hW9
      obtain ⟨mj, hmj⟩ : ∃ b, majOf ms N = b := ⟨_, rfl⟩
      rw [hmj]
      clear hmj
      have beq9 : (mj == mj) = true := beq_self_eq_true mj
      go_wp2_with fail
      refine (vote_nil 2 1 ix 1 _).mono ?_
      rintro e wa ⟨rfl, hba⟩
      have HBa := Aside0.mk (below_then HB9.out HB9.out.size hba)
      clear hba y0 y1 HB9 beq9
      go_wp2_with fail
      refine (nodes_nil ix _).mono ?_
      rintro e wb ⟨rfl, hbb⟩
      have HBb := Aside0.mk (below_then HBa.out HBa.out.size hbb)
      clear hbb HBa
      go_wp2_with fail
      refine (won_nil ix A2 ms.length c2 _).mono ?_
      rintro e wc ⟨rfl, hbc⟩
      have HBc := Aside0.mk (below_then HBb.out HBb.out.size hbc)
      clear hbc HBb
      go_wp2_with fail
      refine (open_nil _).mono ?_
      rintro e wd ⟨rfl, hbd⟩
      have HBd := Aside0.mk (below_then HBc.out HBc.out.size hbd)
      clear hbd HBc
      go_wp2_with fail
      refine (awake34 _).mono ?_
      rintro e we ⟨rfl, hbe⟩
      have HBe := Aside0.mk (below_then HBd.out HBd.out.size hbe)
      clear hbe HBd
      go_wp2
      go_ret
      exact ⟨rfl, HBe.out⟩
end Go.Proofs.Ytalpnhgkhhmmlaa.PTal
