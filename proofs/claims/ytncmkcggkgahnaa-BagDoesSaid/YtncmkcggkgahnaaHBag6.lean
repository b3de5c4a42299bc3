-- By the session: contracts proved by hand.
import Derived.Test.YtncmkcggkgahnaaHBag4
import Derived.Test.YtncmkcggkgahnaaHBag5
namespace Go.Proofs.Ytncmkcggkgahnaa.PBag
open Go.RowKit Go.Proofs.YtncmkcggkgahnaaW.PrintWords Go.Proofs.YtncmkcggkgahnaaW.PrintLast Go.Proofs.YtncmkcggkgahnaaW.PrintMore
set_option linter.unusedVariables false
set_option linter.unusedSimpArgs false
theorem results_cell_tmp {P : Program} {fn : Func} {p t : Tmp} {ty : TypeId} (h : fn.results = #[.cell p ty, .tmp t]) (tmps : Array Value) (w : World) (g : Nat) (tt : TypeId) (cs : Array Value) (fr : Nat × Nat) (d : TypeDesc)
    (hp : tmps.getD p undef = .pointer (some ⟨g, 0, none⟩)) (hg : w.heap[g]? = some (.cells cs tt fr))
    (hu : P.underlying ty = some d) (hd : (match d with | .struct _ | .array _ _ => true | _ => false) = true) (hi : (P.info? ty).map (·.size) = some cs.size) :
    (results fn tmps).run P w = .ok (.tuple #[.agg cs, tmps.getD t undef]) w := by
  have hp' : tmps[p]?.getD undef = .pointer (some ⟨g, 0, none⟩) := by simpa using hp
  simp [results, h, hp', asAddr, run_loadVar_row w g tt ty cs fr d hg hu hd hi]
theorem results_tmp_cell_tmp {P : Program} {fn : Func} {s p t : Tmp} {ty : TypeId} (h : fn.results = #[.tmp s, .cell p ty, .tmp t]) (tmps : Array Value) (w : World) (g : Nat) (tt : TypeId) (cs : Array Value) (fr : Nat × Nat) (d : TypeDesc)
    (hp : tmps.getD p undef = .pointer (some ⟨g, 0, none⟩)) (hg : w.heap[g]? = some (.cells cs tt fr))
    (hu : P.underlying ty = some d) (hd : (match d with | .struct _ | .array _ _ => true | _ => false) = true) (hi : (P.info? ty).map (·.size) = some cs.size) :
    (results fn tmps).run P w = .ok (.tuple #[tmps.getD s undef, .agg cs, tmps.getD t undef]) w := by
  have hp' : tmps[p]?.getD undef = .pointer (some ⟨g, 0, none⟩) := by simpa using hp
  simp [results, h, hp', asAddr, run_loadVar_row w g tt ty cs fr d hg hu hd hi]
theorem bag_end2 {b base : Nat} {P : Nat → Prop} {L : List S30} {w W : World} {v : Value} (hsz : w.heap.size ≤ W.heap.size) (hb : W.heap[b]? = some (.cells #[v] 70 (0, 0))) (hr : Kd.R k30 30 W base P v L)
    (hfr : ∀ k, k < w.heap.size → ¬ P k → k ≠ b → W.heap[k]? = w.heap[k]?) (hbl : Below base w W) (hbase : base ≤ b) (hnP : ¬ P b) (hP : ∀ k, P k → base ≤ k ∧ k < w.heap.size) : BagStep w W base b P L :=
  ⟨⟨P, ⟨hbase, hnP, fun k hk => ⟨(hP k hk).1, Nat.lt_of_lt_of_le (hP k hk).2 hsz⟩, v, hb, hr⟩, fun k hk => .inl hk⟩, ⟨hsz, fun k hk hn => hfr k hk (fun h => hn (.inr h)) (fun h => hn (.inl h))⟩, hbl⟩
theorem size30 : (Try.prog.info? 30).map (·.size) = some 3 := by kernel_rfl
/-! Take -/
def rdP (l : List S30) (i : Nat) : S30 := l.getD i z30
theorem rdP_T30 (l : List S30) (i : Nat) : rd_T30 l (i : Int) = rdP l i := by simp [rd_T30, rdP]
def takeL (l : List S30) (n : Int) : List S30 := if 0 ≤ n ∧ n < (l.length : Int) then l.take n.toNat ++ l.drop (n.toNat + 1) else l
set_option maxHeartbeats 8000000 in
set_option maxRecDepth 100000 in
theorem bag_Take_yes (b base : Nat) (P : Nat → Prop) (l : List S30) (i : Nat) (w : World) (h : BagAt w base b P l) (hi : i < l.length) (hlt : l.length < 3518437208882) :
    Calls Try.prog 19 #[.pointer (some ⟨b, 0, none⟩), .int .i64 (i : Int)] w fun e w' => ∃ A2 c2, e = .returned (.tuple #[.agg #[.int .i64 (rdP l i).f0, .int .i64 (rdP l i).f1, .slice A2 (rdP l i).f2.length c2], .bool true]) ∧
      (rdP l i).f2.length ≤ c2 ∧ Kd.C (Kd.int .u8) w' A2 (rdP l i).f2.length (rdP l i).f2 ∧ BagStep w w' base b P (l.take i ++ l.drop (i + 1)) := by
  have HBA := Aside0.mk h
  have hbl := h.lt
  obtain ⟨hbase, hnP, hPb, v, hcell, hR⟩ := h
  obtain ⟨g, cb, rfl, hgb, hgl, _⟩ := Kd.R_form hR (by omega)
  have hPg : P g := hR.1 g (by simp [Value.ownBlock])
  have hne : g ≠ b := fun e => hnP (e ▸ hPg)
  obtain ⟨cs, hcs, hM, hcc, _⟩ := Kd.R_elem hR z30 (i : Int) (by omega) (by omega)
  obtain ⟨v2, rfl, hR2⟩ := k30_openM hM
  obtain ⟨A2, c2, rfl⟩ := Kd.R_slice hR2
  have e0 : ((l.getD (i : Int).toNat z30) : S30) = rdP l i := by simp [rdP]
  rw [e0] at hcc hR2
  have hx : w.cell? ⟨b, 0, none⟩ = some (.slice (some ⟨g, 0, none⟩) l.length cb) := blk_cell hcell 0
  have hx0 : w.cell? ⟨g, i * 3, none⟩ = some (Value.int .i64 (rdP l i).f0) := hcc 0 _ rfl
  have hx1 : w.cell? ⟨g, i * 3 + 1, none⟩ = some (Value.int .i64 (rdP l i).f1) := hcc 1 _ rfl
  have hx2 : w.cell? ⟨g, i * 3 + 2, none⟩ = some (Value.slice A2 (rdP l i).f2.length c2) := hcc 2 _ rfl
  have HRB := Aside0.mk hR
  have HR2 := Aside0.mk hR2
  have HP := Aside0.mk hPb
  have HK := Aside0.mk hcell
  have HBW : base ≤ w.heap.size := Nat.le_trans hbase (Nat.le_of_lt hbl)
  have HB1 := Aside0.mk (below_alloc (Below.refl w.heap.size w) (Obj.cells #[Value.int .i64 0, Value.int .i64 0, Value.slice none 0 0] 30))
  have y0 := pw_cell_below HB1.out hx
  have y1 := pw_cell_below HB1.out hx0
  have y2 := pw_cell_below HB1.out hx1
  have y3 := pw_cell_below HB1.out hx2
  have hib : decide (0 ≤ (i : Int) ∧ (i : Int) < (l.length : Int)) = true := decide_eq_true (by omega)
  have hlti : (i : Int) < (l.length : Int) := by omega
  have hw1 : IntKind.i64.wrap ((i : Int) + 1) = ((i + 1 : Nat) : Int) := by rw [IntKind.wrap_i64]; omega
  clear hR hPb hcell hM hcc hR2 hcs
  go_enter Try.func19, Try.ntmps19
  go_wp2_with fail
  refine (bag_is b base P l _ _ (HBA.out.below HB1.out)).mono ?_
  rw [hib]
  rintro e w1 ⟨rfl, m1, rfl⟩
  go_wp2_with fail
  have HB2 := Aside0.mk (below_alloc (pw_below_drewN HB1.out m1) (Obj.cells #[Value.int .i64 (rdP l i).f0, Value.int .i64 (rdP l i).f1, Value.slice A2 (rdP l i).f2.length c2] 30))
  have hdel := packets_Delete.row base P (.slice (some ⟨g, 0, none⟩) l.length cb) l i (i + 1) _ (Kd.R_below HRB.out HB2.out) (by omega) (by omega) hlt
  rw [show (((i + 1 : Nat)) : Int) = (i : Int) + 1 from by simp] at hdel
  obtain ⟨L, hL⟩ : ∃ L, L = l.take i ++ l.drop (i + 1) := ⟨_, rfl⟩
  rw [← hL] at hdel
  have HL := Aside0.mk hL
  clear hL
  refine hdel.mono ?_
  clear hdel
  rintro e w3 ⟨v3, rfl, hr3, hg3⟩
  obtain ⟨A3, c3, hv3⟩ := Kd.R_slice hr3
  subst hv3
  have hsz2 : (((w.alloc (Obj.cells #[Value.int .i64 0, Value.int .i64 0, Value.slice none 0 0] 30)).drewN m1).alloc (Obj.cells #[Value.int .i64 (rdP l i).f0, Value.int .i64 (rdP l i).f1, Value.slice A2 (rdP l i).f2.length c2] 30)).heap.size = w.heap.size + 2 := by simp
  have far3 : ∀ k, k < w.heap.size + 2 → k ≠ g → w3.heap[k]? = (((w.alloc (Obj.cells #[Value.int .i64 0, Value.int .i64 0, Value.slice none 0 0] 30)).drewN m1).alloc (Obj.cells #[Value.int .i64 (rdP l i).f0, Value.int .i64 (rdP l i).f1, Value.slice A2 (rdP l i).f2.length c2] 30)).heap[k]? := fun k hk hn => hg3.block k (by rw [hsz2]; exact hk) (fun h => hn (by simpa [Value.ownBlock] using h))
  have hk4 : w3.heap[w.heap.size]? = some (.cells #[Value.int .i64 0, Value.int .i64 0, Value.slice none 0 0] 30 (0, 0)) := (far3 _ (by omega) (by omega)).trans (by
    have h1 := heap_alloc_new w (Obj.cells #[Value.int .i64 0, Value.int .i64 0, Value.slice none 0 0] 30)
    exact blk_alloc (blk_drewN h1 m1) _)
  have hk6 : w3.heap[w.heap.size + 1]? = some (.cells #[Value.int .i64 (rdP l i).f0, Value.int .i64 (rdP l i).f1, Value.slice A2 (rdP l i).f2.length c2] 30 (0, 0)) := (far3 _ (by omega) (by omega)).trans (by
    have h1 := heap_alloc_new ((w.alloc (Obj.cells #[Value.int .i64 0, Value.int .i64 0, Value.slice none 0 0] 30)).drewN m1) (Obj.cells #[Value.int .i64 (rdP l i).f0, Value.int .i64 (rdP l i).f1, Value.slice A2 (rdP l i).f2.length c2] 30)
    simpa using h1)
  have hkb : w3.heap[b]? = some (.cells #[.slice (some ⟨g, 0, none⟩) l.length cb] 70 (0, 0)) := (far3 b (by omega) (fun h => hne h.symm)).trans ((HB2.out.block b hbl).trans HK.out)
  have z0 : w3.cell? ⟨b, 0, none⟩ = some (.slice (some ⟨g, 0, none⟩) l.length cb) := blk_cell hkb 0
  have z1 : w3.frozen? ⟨b, 0, none⟩ = false := blk_frozen hkb _
  have hj6 : (w3.setCell ⟨b, 0, none⟩ (.slice A3 L.length c3)).heap[w.heap.size + 1]? = some (.cells #[Value.int .i64 (rdP l i).f0, Value.int .i64 (rdP l i).f1, Value.slice A2 (rdP l i).f2.length c2] 30 (0, 0)) := blk_far hk6 (p := ⟨b, 0, none⟩) (by simp; omega) _
  have hj4 : (w3.setCell ⟨b, 0, none⟩ (.slice A3 L.length c3)).heap[w.heap.size]? = some (.cells #[Value.int .i64 0, Value.int .i64 0, Value.slice none 0 0] 30 (0, 0)) := blk_far hk4 (p := ⟨b, 0, none⟩) (by simp; omega) _
  have x60 : (w3.setCell ⟨b, 0, none⟩ (.slice A3 L.length c3)).cell? ⟨w.heap.size + 1, 0, none⟩ = some (Value.int .i64 (rdP l i).f0) := blk_cell hj6 0
  have x61 : (w3.setCell ⟨b, 0, none⟩ (.slice A3 L.length c3)).cell? ⟨w.heap.size + 1, 1, none⟩ = some (Value.int .i64 (rdP l i).f1) := blk_cell hj6 1
  have x62 : (w3.setCell ⟨b, 0, none⟩ (.slice A3 L.length c3)).cell? ⟨w.heap.size + 1, 2, none⟩ = some (Value.slice A2 (rdP l i).f2.length c2) := blk_cell hj6 2
  have x40 : (w3.setCell ⟨b, 0, none⟩ (.slice A3 L.length c3)).cell? ⟨w.heap.size, 0, none⟩ = some (Value.int .i64 0) := blk_cell hj4 0
  have x41 : (w3.setCell ⟨b, 0, none⟩ (.slice A3 L.length c3)).cell? ⟨w.heap.size, 1, none⟩ = some (Value.int .i64 0) := blk_cell hj4 1
  have x42 : (w3.setCell ⟨b, 0, none⟩ (.slice A3 L.length c3)).cell? ⟨w.heap.size, 2, none⟩ = some (Value.slice none 0 0) := blk_cell hj4 2
  have x43 : (w3.setCell ⟨b, 0, none⟩ (.slice A3 L.length c3)).frozen? ⟨w.heap.size, 0, none⟩ = false := blk_frozen hj4 _
  have x44 : (w3.setCell ⟨b, 0, none⟩ (.slice A3 L.length c3)).frozen? ⟨w.heap.size, 1, none⟩ = false := blk_frozen hj4 _
  have x45 : (w3.setCell ⟨b, 0, none⟩ (.slice A3 L.length c3)).frozen? ⟨w.heap.size, 2, none⟩ = false := blk_frozen hj4 _
  have HR3 := Aside0.mk hr3
  have HG3 := Aside0.mk hg3
  have HJ4 := Aside0.mk hj4
  have HKB := Aside0.mk hkb
  clear hr3 hg3 far3 hj6 hj4 hk4 hk6 hkb
  go_wp2
  refine bodyPost_ret (results_cell_tmp rfl _ _ w.heap.size 30 #[.int .i64 (rdP l i).f0, .int .i64 (rdP l i).f1, .slice A2 (rdP l i).f2.length c2] (0, 0) _ rfl (blk_put (blk_put (blk_put HJ4.out 0 _ rfl) 1 _ rfl) 2 _ rfl) Try.underlying30 rfl size30) rfl ?_
  refine ⟨A2, c2, rfl, ?_, ?_, ?_⟩
  · exact (Kd.R_reads' HR2.out).2.1
  · refine (Kd.R_reads' (Kd.R_move HR2.out (fun k hk => ?_))).2.2
    have hkl := (HP.out k hk.1).2
    rw [Below.heap_setCell _ _ _ k (by simp; omega), Below.heap_setCell _ _ _ k (by simp; omega), Below.heap_setCell _ _ _ k (by simp; omega), Below.heap_setCell _ _ _ k (show k ≠ b from fun e => hnP (e ▸ hk.1)),
      HG3.out.block k (by rw [hsz2]; omega) (fun h => hk.2 (by simp [Value.ownBlock] at h; simp [Value.ownBlock, h]))]
    exact HB2.out.block k hkl
  · rw [← HL.out]
    refine bag_end2 ?_ (v := .slice A3 L.length c3) ?_ ?_ ?_ ?_ hbase hnP HP.out
    · have := HG3.out.size
      rw [hsz2] at this
      simp only [World.setCell, Array.size_modify]
      omega
    · exact blk_far (blk_far (blk_far (blk_put HKB.out 0 _ rfl) (p := ⟨w.heap.size, 0, none⟩) (by simp; omega) _) (p := ⟨w.heap.size, 1, none⟩) (by simp; omega) _) (p := ⟨w.heap.size, 2, none⟩) (by simp; omega) _
    · have hlt2 : ∀ k, P k → k ≠ w.heap.size := fun k hk => by have := (HP.out k hk).2; omega
      exact Kd.R_far (Kd.R_far (Kd.R_far (Kd.R_far HR3.out (p := ⟨b, 0, none⟩) (fun k hk e => hnP (by have e' : k = b := e; rw [← e']; exact hk)) _) (p := ⟨w.heap.size, 0, none⟩) (fun k hk => hlt2 k hk) _) (p := ⟨w.heap.size, 1, none⟩) (fun k hk => hlt2 k hk) _) (p := ⟨w.heap.size, 2, none⟩) (fun k hk => hlt2 k hk) _
    · intro k hk hn hkb
      rw [Below.heap_setCell _ _ _ k (by simp; omega), Below.heap_setCell _ _ _ k (by simp; omega), Below.heap_setCell _ _ _ k (by simp; omega), Below.heap_setCell _ _ _ k (show k ≠ b from hkb),
        HG3.out.block k (by rw [hsz2]; omega) (fun h => hn (by simp [Value.ownBlock] at h; rw [h]; exact hPg))]
      exact HB2.out.block k hk
    · have h3 : Below base w w3 := Below.grown (HB2.out.mono HBW) HG3.out (by rw [hsz2]; omega) (fun k hk => by simp [Value.ownBlock] at hk; omega)
      exact (((h3.setCell (p := ⟨b, 0, none⟩) hbase _).setCell (p := ⟨w.heap.size, 0, none⟩) HBW _).setCell (p := ⟨w.heap.size, 1, none⟩) HBW _).setCell (p := ⟨w.heap.size, 2, none⟩) HBW _

theorem takeL_yes {l : List S30} {i : Nat} (hi : i < l.length) : takeL l (i : Int) = l.take i ++ l.drop (i + 1) := by unfold takeL; rw [if_pos ⟨by omega, by omega⟩]; simp
theorem takeL_no {l : List S30} {n : Int} (h : ¬ (0 ≤ n ∧ n < (l.length : Int))) : takeL l n = l := by unfold takeL; rw [if_neg h]
/-- what Take tells -/
def takeP (l : List S30) (n : Int) : S30 := if 0 ≤ n ∧ n < (l.length : Int) then rdP l n.toNat else z30
set_option maxHeartbeats 8000000 in
set_option maxRecDepth 100000 in
theorem bag_Take (b base : Nat) (P : Nat → Prop) (l : List S30) (n : Int) (w : World) (h : BagAt w base b P l) (hlt : l.length < 3518437208882) :
    Calls Try.prog 19 #[.pointer (some ⟨b, 0, none⟩), .int .i64 n] w fun e w' => ∃ A2 c2, e = .returned (.tuple #[.agg #[.int .i64 (takeP l n).f0, .int .i64 (takeP l n).f1, .slice A2 (takeP l n).f2.length c2], .bool (decide (0 ≤ n ∧ n < (l.length : Int)))]) ∧
      (takeP l n).f2.length ≤ c2 ∧ Kd.C (Kd.int .u8) w' A2 (takeP l n).f2.length (takeP l n).f2 ∧ BagStep w w' base b P (takeL l n) := by
  by_cases hi : 0 ≤ n ∧ n < (l.length : Int)
  · obtain ⟨i, rfl⟩ := Int.eq_ofNat_of_zero_le hi.1
    have hil : i < l.length := by omega
    have e1 : takeP l (i : Int) = rdP l i := by unfold takeP; rw [if_pos hi]; simp
    rw [takeL_yes hil, e1, decide_eq_true hi]
    exact bag_Take_yes b base P l i w h hil hlt
  · have hib : decide (0 ≤ n ∧ n < (l.length : Int)) = false := decide_eq_false hi
    have e1 : takeP l n = z30 := by unfold takeP; rw [if_neg hi]
    rw [takeL_no hi, e1, hib]
    have HBA := Aside0.mk h
    have HB1 := Aside0.mk (below_alloc (Below.refl w.heap.size w) (Obj.cells #[Value.int .i64 0, Value.int .i64 0, Value.slice none 0 0] 30))
    have hk4 := heap_alloc_new w (Obj.cells #[Value.int .i64 0, Value.int .i64 0, Value.slice none 0 0] 30)
    have HK4 := Aside0.mk hk4
    have HBW : base ≤ w.heap.size := Nat.le_trans h.1 (Nat.le_of_lt h.lt)
    clear h e1 hi hk4
    go_enter Try.func19, Try.ntmps19
    go_wp2_with fail
    refine (bag_is b base P l _ _ (HBA.out.below HB1.out)).mono ?_
    rw [hib]
    rintro e w1 ⟨rfl, m1, rfl⟩
    go_wp2
    refine bodyPost_ret (results_cell_tmp rfl _ _ w.heap.size 30 #[.int .i64 0, .int .i64 0, .slice none 0 0] (0, 0) _ rfl (blk_put (blk_put (blk_put (blk_drewN HK4.out m1) 0 _ rfl) 1 _ rfl) 2 _ rfl) Try.underlying30 rfl size30) rfl ?_
    have hb := pw_below_drewN HB1.out m1
    have hb2 : Below w.heap.size w ((((w.alloc (Obj.cells #[Value.int .i64 0, Value.int .i64 0, Value.slice none 0 0] 30)).drewN m1).setCell ⟨w.heap.size, 0, none⟩ (.int .i64 0)).setCell ⟨w.heap.size, 1, none⟩ (.int .i64 0) |>.setCell ⟨w.heap.size, 2, none⟩ (.slice none 0 0)) := ((hb.setCell (p := ⟨w.heap.size, 0, none⟩) (Nat.le_refl _) _).setCell (p := ⟨w.heap.size, 1, none⟩) (Nat.le_refl _) _).setCell (p := ⟨w.heap.size, 2, none⟩) (Nat.le_refl _) _
    exact ⟨none, 0, rfl, Nat.le_refl _, Kd.C_nil _ _, BagStep.quiet HBA.out hb2⟩
theorem bag_Take_nil (n : Int) (w : World) : Calls Try.prog 19 #[.pointer none, .int .i64 n] w fun e w' => e = .returned (.tuple #[.agg #[.int .i64 0, .int .i64 0, .slice none 0 0], .bool false]) ∧ Below w.heap.size w w' := by
  have HB1 := Aside0.mk (below_alloc (Below.refl w.heap.size w) (Obj.cells #[Value.int .i64 0, Value.int .i64 0, Value.slice none 0 0] 30))
  have HK4 := Aside0.mk (heap_alloc_new w (Obj.cells #[Value.int .i64 0, Value.int .i64 0, Value.slice none 0 0] 30))
  go_enter Try.func19, Try.ntmps19
  go_wp2_with fail
  refine (bag_is_nil _ _).mono ?_
  rintro e w1 ⟨rfl, m1, rfl⟩
  go_wp2
  refine bodyPost_ret (results_cell_tmp rfl _ _ w.heap.size 30 #[.int .i64 0, .int .i64 0, .slice none 0 0] (0, 0) _ rfl (blk_put (blk_put (blk_put (blk_drewN HK4.out m1) 0 _ rfl) 1 _ rfl) 2 _ rfl) Try.underlying30 rfl size30) rfl ?_
  have hb := pw_below_drewN HB1.out m1
  exact ⟨rfl, ((hb.setCell (p := ⟨w.heap.size, 0, none⟩) (Nat.le_refl _) _).setCell (p := ⟨w.heap.size, 1, none⟩) (Nat.le_refl _) _).setCell (p := ⟨w.heap.size, 2, none⟩) (Nat.le_refl _) _⟩
end Go.Proofs.Ytncmkcggkgahnaa.PBag
