-- By the session: contracts proved by hand.
import Derived.Test.YtncmkcggkgahnaaHDskA20
import Derived.RangeFuncBox
import Derived.RangeFuncWrites
import Derived.RangeFuncLeaves
import Derived.RangeFuncCalls
import Derived.Shelf.Abstract
import Derived.WalkKit
import Derived.OwnWalkIn
import Derived.TacticsInMore
import Derived.LoopNIn
import Derived.LoopIn
import Derived.OrdersIn
import Derived.RegionIn
import Derived.Deep.RegionHeld
import Derived.Deep.RegionHeldLaw
import Derived.Deep.RegionLaw
import Derived.Maps.AppendAt
import Derived.Maps.Own
import Derived.Maps.OwnOps
import Derived.Maps.OwnSet
import Derived.Maps.Views
import Derived.Lib.SliceRun
import Derived.Lib.SlBytesConst
namespace Go.Proofs.Ytncmkcggkgahnaa.PDsk
open Go.Maps
open Go.RowKit Go.Shelf Go.Sort Go.Proofs.YtncmkcggkgahnaaW.PrintWords Go.Proofs.YtncmkcggkgahnaaW.PrintLast Go.Proofs.YtncmkcggkgahnaaW.PrintMore
set_option linter.unusedVariables false
set_option linter.unusedSimpArgs false
/-! the law DiskDoes: function 6 -/
theorem C_lt {A : Option Addr} {W : World} {xs : List Int} (h : (Kd.int .u8).C W A xs.length xs) : ∀ ad, A = some ad → 0 < xs.length → ad.block < W.heap.size := by
  intro ad e hn
  obtain ⟨ad', e', hc⟩ := h.2.2 hn
  rw [e] at e'
  injection e' with e'
  subst e'
  obtain ⟨p, hp⟩ : ∃ p, xs[0]? = some p := ⟨xs[0], List.getElem?_eq_getElem hn⟩
  obtain ⟨c, h1, h2, h3⟩ := hc 0 p hp
  have hz : (Value.int .u8 p) ∈ c ∨ c = [] := by
    cases c with
    | nil => exact .inr rfl
    | cons a c => exact .inl (by
        have := h2
        simp only [Kd.int] at this
        rw [this]
        exact List.mem_cons_self ..)
  rcases hz with hz | hz
  · obtain ⟨i, hi, hi2⟩ := List.getElem_of_mem hz
    have := h3 i (Value.int .u8 p) (by rw [List.getElem?_eq_getElem hi, hi2])
    have := World.block_lt_of_cell? W _ this
    rw [add_block] at this
    exact this
  · have h1' : c.length = 1 := h1
    rw [hz] at h1'
    simp at h1'
theorem heap_same {W : World} {k : Nat} {o o' : Obj} (h : W.heap[k]? = some o) (h' : W.heap[k]? = some o') : o = o' := by rw [h] at h'; injection h'
theorem types_ne {W : World} {k t t' : Nat} {c c' : Array Value} (h : W.heap[k]? = some (.cells c t (0, 0))) (h' : W.heap[k]? = some (.cells c' t' (0, 0))) (hne : t ≠ t') : False := by
  have := heap_same h h'
  injection this with _ e
  exact hne e
theorem two_apart {B0 : Nat} {W : World} {p bm n p' : Nat} {bv fv' bv' : Value} {F F' : List S77} {B B' : List S83} (hd : DiskAt B0 W p bm n bv F B) (hx : RefAt B0 W p' fv' bv' F' B') (ap : ∀ k, bv.ownBlock = some k → bv'.ownBlock = some k → False) :
    (¬ DS p bm bv p') ∧ (∀ k, fv'.ownBlock = some k → ¬ DS p bm bv k) ∧ (∀ k, bv'.ownBlock = some k → ¬ DS p bm bv k) := by
  obtain ⟨D, hm, _⟩ := hd.hm
  obtain ⟨es, cm, hb, _⟩ := id hm
  have hbv : ∀ k, bv.ownBlock = some k → ∃ c, W.heap[k]? = some (.cells c 83 (0, 0)) := fun k hk => (OwnRow.block hd.row hk).1
  refine ⟨?_, fun k hk => ?_, fun k hk => ?_⟩
  · rintro (h | h | h)
    · subst h; exact types_ne hx.hp hd.hp (by decide)
    · subst h; have := heap_same hx.hp hb; cases this
    · obtain ⟨c, h1⟩ := hbv _ h; exact types_ne hx.hp h1 (by decide)
  · obtain ⟨_, _, c, hc⟩ := hx.ne.1 k hk
    rintro (h | h | h)
    · subst h; exact types_ne hc hd.hp (by decide)
    · subst h; have := heap_same hc hb; cases this
    · obtain ⟨c, h1⟩ := hbv _ h; exact types_ne hc h1 (by decide)
  · obtain ⟨_, _, _, c, hc⟩ := hx.ne.2.1 k hk
    rintro (h | h | h)
    · subst h; exact types_ne hc hd.hp (by decide)
    · subst h; have := heap_same hc hb; cases this
    · exact ap k h hk
theorem two_d {B0 : Nat} {W W' : World} {p bm n p' : Nat} {bv bvn fv' bv' : Value} {F F' : List S77} {B B' : List S83} (hd : DiskAt B0 W p bm n bv F B) (hx : RefAt B0 W p' fv' bv' F' B') (ap : ∀ k, bv.ownBlock = some k → bv'.ownBlock = some k → False)
    (hk : Kpt (DS p bm bv) W W') (ho : ∀ k, bvn.ownBlock = some k → bv.ownBlock = some k ∨ W.heap.size ≤ k) : RefAt B0 W' p' fv' bv' F' B' ∧ (∀ k, bvn.ownBlock = some k → bv'.ownBlock = some k → False) := by
  obtain ⟨a1, a2, a3⟩ := two_apart hd hx ap
  refine ⟨hx.kept hk (hd.byt hk) a1 a2 a3, fun k h1 h2 => ?_⟩
  rcases ho k h1 with h | h
  · exact ap k h h2
  · have := (hx.ne.2.1 k h2).2.1; omega
theorem two_x {B0 : Nat} {W W' : World} {p bm n p' : Nat} {bv fv' bv' bvn : Value} {F F' : List S77} {B B' : List S83} (hd : DiskAt B0 W p bm n bv F B) (hx : RefAt B0 W p' fv' bv' F' B') (ap : ∀ k, bv.ownBlock = some k → bv'.ownBlock = some k → False)
    (hk : Kpt (RS p' bv') W W') (ho : ∀ k, bvn.ownBlock = some k → bv'.ownBlock = some k ∨ W.heap.size ≤ k) : DiskAt B0 W' p bm n bv F B ∧ (∀ k, bv.ownBlock = some k → bvn.ownBlock = some k → False) := by
  obtain ⟨a1, a2, a3⟩ := two_apart hd hx ap
  refine ⟨hd.kept hk (hx.byt hk) (fun k h1 h2 => ?_), fun k h1 h2 => ?_⟩
  · rcases h2 with h2 | h2
    · subst h2; exact a1 h1
    · exact a3 k h2 h1
  · rcases ho k h2 with h | h
    · exact ap k h1 h
    · have := (hd.ne.2.2.2.2.1 k h1).2.2; omega
theorem RefAt.lo_of {B0 : Nat} {W : World} {p : Nat} {fv bv : Value} {F : List S77} {B : List S83} (h : RefAt B0 W p fv bv F B) {k : Nat} (hk : RS p bv k) : B0 ≤ k := by
  rcases hk with rfl | hk
  · exact h.lo
  · exact (h.ne.2.1 k hk).2.2.1
theorem Ro77.Cs {B0 base n c : Nat} {W : World} {A : Option Addr} {xs : List S77} (h : Ro77 B0 W base (.slice A n c) xs) : k77.C W A xs.length xs := by
  obtain ⟨A', c', e, _, hr⟩ := OwnRow.reads h
  injection e with e1 e2 e3
  subst e1
  exact Rd77.C hr
theorem Ro83.Cs {B0 base n c : Nat} {W : World} {A : Option Addr} {xs : List S83} (h : Ro83 B0 W base (.slice A n c) xs) : k83.C W A xs.length xs := by
  obtain ⟨A', c', e, _, hC⟩ := Ro83.C h
  injection e with e1 e2 e3
  subst e1
  exact hC
set_option maxHeartbeats 4000000 in
set_option maxRecDepth 100000 in
theorem does_calls (A0 : Option Addr) (c0 : Nat) (l : List S55) (w : World) (hr : Kd.C k55 w A0 l.length l) (hc : l.length ≤ c0) (hn : l.length < 9223372036854775807) :
    Calls Try.prog 6 #[.slice A0 l.length c0] w fun e w' => e = .returned (.bool true) ∧ Below w.heap.size w w' := by
  obtain ⟨kk, r, hkr, hf⟩ := large_ev l hn
  have HL := Aside0.mk (changeoverref18_Large.calls kk A0 c0 l r w hr hc hkr)
  have HR := Aside0.mk hr
  clear hr hkr
  go_enter Try.func6, Try.ntmps6
  go_wp2_with fail
  refine HL.out.mono ?_
  rintro e w1 ⟨rfl, ⟨m1, rfl⟩⟩
  cases r with
  | true =>
    go_wp2_with fail
    refine (awake18 _).mono ?_
    rintro e w2 ⟨rfl, hb2⟩
    have HB := Aside0.mk (below_then (pw_below_drewN (Below.refl w.heap.size w) m1) (Nat.le_refl _) hb2)
    clear hb2
    go_wp2
    go_ret
    exact ⟨rfl, HB.out⟩
  | false =>
    obtain ⟨hl, hd⟩ := hf rfl
    have HD := Aside0.mk hd
    clear hf hd
    go_wp2_with fail
    refine (new_any w.heap.size (w.drewN m1) (Nat.le_refl _)).mono ?_
    rintro e w2 ⟨p, bm, rfl, hd2, hp2, hbm2, hb2⟩
    have hb2' : Below w.heap.size w w2 := below_then (pw_below_drewN (Below.refl _ _) m1) (Nat.le_refl _) hb2
    obtain ⟨w3, hw3⟩ : ∃ w3, w2.alloc (Obj.cells #[.slice none 0 0, .slice none 0 0] 66) = w3 := ⟨_, rfl⟩
    have hb3 : Below w2.heap.size w2 w3 := hw3 ▸ below_alloc (Below.refl _ _) _
    have hg3 : w3.heap[w2.heap.size]? = some (.cells #[.slice none 0 0, .slice none 0 0] 66 (0, 0)) := hw3 ▸ heap_alloc_new w2 _
    have HD3 := Aside0.mk (hd2.below hb3)
    have HX3 : Aside0 (RefAt w.heap.size w3 w2.heap.size (.slice none 0 0) (.slice none 0 0) [] []) := ⟨⟨hg3, OwnRow.none_ _ _ _ _ _, OwnRow.none_ _ _ _ _ _, hb2'.size⟩⟩
    have HB3 : Aside0 (Below w.heap.size w w3) := ⟨below_then hb2' hb2'.size hb3⟩
    clear hd2 hb2 hb2' hb3 hg3 hp2 hbm2
    go_wp2_with fail
    try rw [hw3]
    obtain ⟨p', hp'⟩ : ∃ p', w2.heap.size = p' := ⟨_, rfl⟩
    rw [hp'] at HX3 ⊢
    clear hw3 hp'
    go_loopw [5] (fun i wr => ∃ k : Nat, k ≤ l.length ∧ i = .int .i64 k ∧ Aside0 (∃ n bv fv' bv' F B, DiskAt w.heap.size wr p bm n bv F B ∧ RefAt w.heap.size wr p' fv' bv' F B ∧ (∀ j, bv.ownBlock = some j → bv'.ownBlock = some j → False) ∧ GoodK k F B ∧ n ≤ 60 * k) ∧ Aside0 (Below w.heap.size w wr)) (fun i _ => l.length - (intOf i).toNat)
    case atStart => exact ⟨0, by omega, rfl, ⟨⟨0, _, _, _, [], [], HD3.out, HX3.out, fun j h => (own_nil_slice h).elim, GoodK.nil, by omega⟩⟩, HB3⟩
    case round =>
      obtain ⟨k, hk, rfl, HI, HB⟩ := hrel
      by_cases hlt : k < l.length
      · have q1 : (0 : Int) ≤ (k : Int) := by omega
        have q2 : (k : Int) < (l.length : Int) := by omega
        obtain ⟨n, bv, fv', bv', F, B, hdk, hxk, hap, hgk, hnk⟩ := HI.out
        obtain ⟨ad, A3, c3, e0, X0, X1, X2, X3, hc3, hC3⟩ := at_T55 HR.out (k : Int) q1 q2
        subst e0
        simp only [Int.toNat_natCast] at X0 X1 X2 X3
        have x0 := (HB.out.cell (World.block_lt_of_cell? w _ X0)).trans X0
        have x1 := (HB.out.cell (World.block_lt_of_cell? w _ X1)).trans X1
        have x2 := (HB.out.cell (World.block_lt_of_cell? w _ X2)).trans X2
        have x3 := (HB.out.cell (World.block_lt_of_cell? w _ X3)).trans X3
        have hdl : (rd_T55 l (k : Int)).f3.length ≤ 100 := HD.out k hlt
        have hV : DatV w.heap.size w (.slice A3 (rd_T55 l (k : Int)).f3.length c3) (rd_T55 l (k : Int)).f3 := DatV.arg hC3 hc3 (C_lt hC3) (Nat.le_refl _)
        have hbyt0 : Byt w.heap.size w wr := ⟨HB.out.size, fun j hj _ => HB.out.block j hj⟩
        obtain ⟨u, hu⟩ : ∃ u, rd_T55 l (k : Int) = u := ⟨_, rfl⟩
        rw [hu] at X0 X1 X2 X3 x0 x1 x2 x3 hdl hV
        have HX := Aside0.mk X0
        have HX1 := Aside0.mk X1
        have HX2 := Aside0.mk X2
        have HX3' := Aside0.mk X3
        have HV := Aside0.mk hV
        have hk6 : k ≤ 60 := by omega
        have hsz := hgk.sizes hk6 hnk
        have hl6 := (hgk.len6 hk6).1
        have HS1 := Aside0.mk (step_any w.heap.size p bm n bv F B u _ wr hdk (hV.byt hbyt0) hsz (hl6.le (by omega)) hdl)
        have HDK := Aside0.mk hdk
        have HXK := Aside0.mk hxk
        have HAP := Aside0.mk hap
        have HGK := Aside0.mk hgk
        have hBl := hsz.2.1
        have hBk := (hgk.len6 hk6).2.2
        clear hdk hxk hap hgk hC3 hc3 hV hbyt0 hu X0 X1 X2 X3 hsz hl6 HI
        go_wp2_with fail
        refine HS1.out.mono ?_
        rintro e w4 ⟨bv4, rfl, hd4, hk4, ho4⟩
        obtain ⟨hx4, hap4⟩ := two_d HDK.out HXK.out HAP.out hk4 ho4
        have HB4 := Aside0.mk (hk4.below HB.out HB.out.size (fun j hj => HDK.out.lo_of hj))
        have HD4 := Aside0.mk hd4
        have HX4 := Aside0.mk hx4
        have HAP4 := Aside0.mk hap4
        clear x0 x1 x2 x3 hd4 hk4 ho4 hx4 hap4 HS1 HDK HXK HAP
        have x0 := (HB4.out.cell (World.block_lt_of_cell? w _ HX.out)).trans HX.out
        have x1 := (HB4.out.cell (World.block_lt_of_cell? w _ HX1.out)).trans HX1.out
        have x2 := (HB4.out.cell (World.block_lt_of_cell? w _ HX2.out)).trans HX2.out
        have x3 := (HB4.out.cell (World.block_lt_of_cell? w _ HX3'.out)).trans HX3'.out
        have hbyt4 : Byt w.heap.size w w4 := ⟨HB4.out.size, fun j hj _ => HB4.out.block j hj⟩
        have HS2 := Aside0.mk (refdo_any w.heap.size p' fv' bv' F B u _ w4 HX4.out (HV.out.byt hbyt4) HGK.out hk6)
        clear hbyt4
        go_wp2_with fail
        refine HS2.out.mono ?_
        rintro e w5 ⟨fv5, bv5, rfl, hx5, hk5, ho5⟩
        obtain ⟨hd5, hap5⟩ := two_x HD4.out HX4.out HAP4.out hk5 ho5
        have HB5 := Aside0.mk (hk5.below HB4.out HB4.out.size (fun j hj => HX4.out.lo_of hj))
        have HG5 := Aside0.mk (step_good HGK.out u hdl)
        obtain ⟨F5, hF5⟩ : ∃ F5, stepF F B u = F5 := ⟨_, rfl⟩
        obtain ⟨B5, hB5⟩ : ∃ B5, stepB B u = B5 := ⟨_, rfl⟩
        rw [hF5, hB5] at hd5 hx5 HG5
        obtain ⟨n5, hn5⟩ : ∃ n5, n + B.length = n5 := ⟨_, rfl⟩
        rw [hn5] at hd5
        have hn5k : n5 ≤ 60 * (k + 1) := by omega
        have hk7 : k + 1 ≤ 60 := by omega
        obtain ⟨hl5, hF6, hB6⟩ := HG5.out.len6 hk7
        have hsz5 := HG5.out.sizes hk7 hn5k
        have hfl := lenF_fold HG5.out.ok hl5
        have hfc := fold_count B5 F5
        obtain ⟨kf, hkf⟩ := (fsame_ev F5 (by omega) (hl5.le (by omega))).rounds
        obtain ⟨ko, hko⟩ := (osame_ev B5 (by omega) HG5.out.ok).rounds
        obtain ⟨kg, hkg⟩ := (fsame_ev (B5.foldl doF F5) (by omega) (hfl.le (by omega))).rounds
        obtain ⟨Af, cf, hfv, hcf⟩ := OwnRow.slice_ hx5.f
        obtain ⟨Ab, cb, hbv, hcb, hrb⟩ := Ro83.rd (bm := p') hx5.row (fun j hj => (hx5.ne.2.1 j hj).1)
        subst hfv
        subst hbv
        have y0 : w5.cell? ⟨p', 0, none⟩ = some (.slice Af F5.length cf) := blk_cell hx5.hp 0
        have y1 : w5.cell? ⟨p', 1, none⟩ = some (.slice Ab B5.length cb) := blk_cell hx5.hp 1
        have C27 : Aside0 (∀ W, Below w5.heap.size w5 W → Calls Try.prog 27 #[.pointer (some ⟨p, 0, none⟩)] W fun e w' => ∃ v, e = .returned v ∧ Ro77 w.heap.size w' W.heap.size v F5 ∧ Below W.heap.size W w') := ⟨fun W hW => files_any w.heap.size p bm n5 bv4 F5 B5 W (hd5.below hW) (by omega) (hl5.le (by omega)) HG5.out.nos⟩
        have C28 : Aside0 (∀ W, Below w5.heap.size w5 W → Calls Try.prog 28 #[.pointer (some ⟨p, 0, none⟩)] W fun e w' => ∃ v, e = .returned v ∧ Ro83 w.heap.size w' W.heap.size v B5 ∧ Below W.heap.size W w') := ⟨fun W hW => buffered_any w.heap.size p bm n5 bv4 F5 B5 W (hd5.below hW) hsz5⟩
        have C35 : Aside0 (∀ W, Below w5.heap.size w5 W → Calls Try.prog 35 #[.pointer (some ⟨p, 0, none⟩)] W fun e w' => ∃ v, e = .returned v ∧ Ro77 w.heap.size w' W.heap.size v (B5.foldl doF F5) ∧ Below W.heap.size W w') := ⟨fun W hW => view_any w.heap.size p bm n5 bv4 F5 B5 W (hd5.below hW) hsz5 (hl5.le (by omega)) HG5.out.nos⟩
        have C31 : Aside0 (∀ W, Below w5.heap.size w5 W → Calls Try.prog 31 #[.slice Af F5.length cf, .slice Ab B5.length cb] W fun e w' => ∃ v', e = .returned v' ∧ Ro77 w.heap.size w' w.heap.size v' (B5.foldl doF F5) ∧ Below W.heap.size W w') := ⟨fun W hW => all_any w.heap.size w.heap.size p' (.slice Af F5.length cf) F5 Ab cb B5 W (Nat.le_refl _) (Nat.le_trans HB5.out.size hW.size) (Ro77.below hx5.f hW) (hrb.kept (Kpt.of_below hW) (.of_below hW)) hcb HG5.out.rise HG5.out.ok (hl5.le (by omega)) (by omega)⟩
        have C33 : Aside0 (∀ W A c base, Below w5.heap.size w5 W → F5.length ≤ c → Ro77 w.heap.size W base (.slice A F5.length c) F5 → Calls Try.prog 33 #[.slice A F5.length c, .slice Af F5.length cf] W fun e w' => e = .returned (.bool true) ∧ Drawn0 W w') := ⟨fun W A c base hW hc h => changeoverref18_Same.calls kf A c F5 Af cf F5 true W h.Cs hc (Ro77.Cs (Ro77.below hx5.f hW)) hcf hkf⟩
        have C34 : Aside0 (∀ W A c base, Below w5.heap.size w5 W → B5.length ≤ c → Ro83 w.heap.size W base (.slice A B5.length c) B5 → Calls Try.prog 34 #[.slice A B5.length c, .slice Ab B5.length cb] W fun e w' => e = .returned (.bool true) ∧ Below W.heap.size W w') := ⟨fun W A c base hW hc h => changeoverref18_Ops.calls ko A c B5 Ab cb B5 true W h.Cs hc (Ro83.Cs (Ro83.below hx5.row hW)) hcb hko⟩
        have C33' : Aside0 (∀ W A c A' c' base base', (B5.foldl doF F5).length ≤ c → (B5.foldl doF F5).length ≤ c' → Ro77 w.heap.size W base (.slice A (B5.foldl doF F5).length c) (B5.foldl doF F5) → Ro77 w.heap.size W base' (.slice A' (B5.foldl doF F5).length c') (B5.foldl doF F5) → Calls Try.prog 33 #[.slice A (B5.foldl doF F5).length c, .slice A' (B5.foldl doF F5).length c'] W fun e w' => e = .returned (.bool true) ∧ Drawn0 W w') := ⟨fun W A c A' c' base base' h1 h2 h3 h4 => changeoverref18_Same.calls kg A c _ A' c' _ true W h3.Cs h1 h4.Cs h2 hkg⟩
        have HD5 := Aside0.mk hd5
        have HX5 := Aside0.mk hx5
        have HAP5 := Aside0.mk hap5
        obtain ⟨G, hG⟩ : ∃ G, B5.foldl doF F5 = G := ⟨_, rfl⟩
        rw [hG] at C35 C31 C33'
        have HBc : Aside0 (Below w5.heap.size w5 w5.drew) := ⟨below_drew (Below.refl _ _)⟩
        clear x0 x1 x2 x3 hd5 hx5 hap5 hk5 ho5 HS2 HX4 HD4 HAP4 hfl hfc hkf hko hkg hrb hsz5 hl5 hG hF5 hB5 hdl HGK HX HX1 HX2 HX3' HV
        go_upto_region 9 with fail
        go_region_held3 (fun w' : World => w'.cell? ⟨p', 0, none⟩ = some (.slice Af F5.length cf) ∧ w'.cell? ⟨p', 1, none⟩ = some (.slice Ab B5.length cb)) (first | exact ⟨y0, y1⟩ | exact ⟨pw_cell_below HBc.out y0, pw_cell_below HBc.out y1⟩)
          (first
            | (go_at_call 27; (with_reducible refine (C27.out _ HBc.out).mono ?_); rintro e wa ⟨va, rfl, hra, hba⟩; obtain ⟨Aa, ca, rfl, hca⟩ := OwnRow.slice_ hra; have HRa := Aside0.mk hra; have HCa := Aside0.mk hca; have HBc := Aside0.mk (below_then HBc.out HBc.out.size hba); clear hra hba hca)
            | (go_at_call 28; (with_reducible refine (C28.out _ HBc.out).mono ?_); rintro e wb ⟨vb, rfl, hrb, hbb⟩; obtain ⟨Ab', cb', rfl, hcb'⟩ := OwnRow.slice_ hrb; have HRb := Aside0.mk hrb; have HCb := Aside0.mk hcb'; have HBc := Aside0.mk (below_then HBc.out HBc.out.size hbb); clear hrb hbb hcb')
            | (go_at_call 34; (with_reducible refine (C34.out _ _ _ _ HBc.out HCb.out HRb.out).mono ?_); rintro e wc ⟨rfl, hbc⟩; have HBc := Aside0.mk (below_then HBc.out HBc.out.size hbc); clear hbc)
            | (go_at_call 35; (with_reducible refine (C35.out _ HBc.out).mono ?_); rintro e we ⟨ve, rfl, hre, hbe⟩; obtain ⟨Ae, ce, rfl, hce⟩ := OwnRow.slice_ hre; have HRe := Aside0.mk hre; have HCe := Aside0.mk hce; have HBc := Aside0.mk (below_then HBc.out HBc.out.size hbe); (first | (have HRg := Aside0.mk (Ro77.below HRg.out hbe)) | skip); clear hre hbe hce)
            | (go_at_call 31; (with_reducible refine (C31.out _ HBc.out).mono ?_); rintro e wg ⟨vg, rfl, hrg, hbg⟩; obtain ⟨Ag, cg, rfl, hcg⟩ := OwnRow.slice_ hrg; have HRg := Aside0.mk hrg; have HCg := Aside0.mk hcg; have HBc := Aside0.mk (below_then HBc.out HBc.out.size hbg); (first | (have HRe := Aside0.mk (Ro77.below HRe.out hbg)) | skip); clear hrg hbg hcg)
            | (go_at_call 33; (with_reducible refine (C33'.out _ _ _ _ _ _ _ HCe.out HCg.out HRe.out HRg.out).mono ?_); rintro e wh ⟨rfl, mh, rfl⟩; have HBc := Aside0.mk (pw_below_drewN HBc.out mh))
            | (go_at_call 33; (with_reducible refine (C33.out _ _ _ _ HBc.out HCa.out HRa.out).mono ?_); rintro e wh ⟨rfl, mh, rfl⟩; have HBc := Aside0.mk (pw_below_drewN HBc.out mh)))
        all_goals
          clear y0 y1
          go_wp2
          go_roundw
          case rel => exact ⟨k + 1, by omega, by go_num, ⟨⟨n5, _, _, _, F5, B5, HD5.out.below HBc.out, HX5.out.below HBc.out, HAP5.out, HG5.out, hn5k⟩⟩, ⟨below_then HB5.out HB5.out.size HBc.out⟩⟩
          case measure => simp [intOf]; omega
      · obtain rfl : k = l.length := by omega
        clear HI
        go_wp2_with fail
        refine (awake18 _).mono ?_
        rintro e w5 ⟨rfl, hb5⟩
        have HB5 := Aside0.mk (below_then HB.out HB.out.size hb5)
        clear hb5
        go_wp2
        go_ret
        exact ⟨rfl, HB5.out⟩
end Go.Proofs.Ytncmkcggkgahnaa.PDsk
