-- By the session: contracts proved by hand.
import Derived.Test.YtncmkcggkgahnaaHBag2
namespace Go.Proofs.Ytncmkcggkgahnaa.PBag
open Go.RowKit Go.Proofs.YtncmkcggkgahnaaW.PrintWords Go.Proofs.YtncmkcggkgahnaaW.PrintLast Go.Proofs.YtncmkcggkgahnaaW.PrintMore
set_option linter.unusedVariables false
set_option linter.unusedSimpArgs false
theorem below_after {b : Nat} {w w1 w2 : World} (h : Below b w w1) (hb : b ≤ w.heap.size) (h2 : Below w1.heap.size w1 w2) : Below b w w2 := below_then h (Nat.le_trans hb h.size) h2
/-! Put, where it is done -/
theorem info30p : (Try.prog.info? 30).map (fun i => (i.zero, i.size, i.bytes)) = some (some (.agg #[(.int .i64 0), (.int .i64 0), (.slice none 0 0)]), k30.sz, 40) := by kernel_rfl
theorem drew_below {b : Nat} {w W : World} (h : Below b w W) : Below b w W.drew := ⟨h.os, h.tape, h.output, h.size, h.block⟩
theorem bag_put_end {n b base : Nat} {P : Nat → Prop} {l : List S30} {w w3 w4 : World} {A4 : Option Addr} {c4 : Nat} {v v0 : Value} (hb3 : Below w.heap.size w w3) (hg4 : w3.grownBy w4 v.ownBlock) (hb4 : Below base w w4) (hbk : w4.heap[b]? = some (.cells #[v0] 70 (0, 0)))
    (hr4 : Kd.R k30 30 w4 base (fun k => P k ∨ w.heap.size ≤ k) (.slice A4 l.length c4) l) (hbase : base ≤ b) (hnP : ¬ P b) (hbl : b < w.heap.size) (hP : ∀ k, P k → base ≤ k ∧ k < w.heap.size) (hown : ∀ k, v.ownBlock = some k → P k) (hn : n = l.length) :
    BagStep w (w4.setCell ⟨b, 0, none⟩ (.slice A4 n c4)) base b P l := by
  subst hn
  have HBW : base ≤ w.heap.size := Nat.le_trans hbase (Nat.le_of_lt hbl)
  refine ⟨⟨fun k => (P k ∨ w.heap.size ≤ k) ∧ k < w4.heap.size, ⟨hbase, fun h => ?_, fun k hk => ⟨?_, ?_⟩, .slice A4 l.length c4, ?_, ?_⟩, fun k hk => hk.1⟩, ?_, ?_⟩
  · rcases h.1 with h | h
    · exact hnP h
    · omega
  · rcases hk.1 with h | h
    · exact (hP k h).1
    · exact Nat.le_trans HBW h
  · simpa using hk.2
  · exact blk_put hbk 0 _ rfl
  · refine Kd.R_far (p := ⟨b, 0, none⟩) (Kd.R_mono (Kd.R_bound hr4) (fun k hk => ⟨hk.1, hk.2.2.1⟩)) (fun k hk => ?_) _
    intro e
    have e' : k = b := e
    rw [e'] at hk
    rcases hk.1 with h | h
    · exact hnP h
    · omega
  · refine Kept.setCell ⟨Nat.le_trans hb3.size hg4.size, fun k hk hn => ?_⟩ (.inl (.inl rfl)) _
    rw [hg4.block k (Nat.lt_of_lt_of_le hk hb3.size) (fun h => hn (.inr (hown k h.symm)))]
    exact hb3.block k hk
  · exact Below.setCell hb4 hbase _
set_option maxHeartbeats 8000000 in
set_option maxRecDepth 100000 in
theorem bag_Put_yes (b base : Nat) (P : Nat → Prop) (l : List S30) (p : S30) (A : Option Addr) (c : Nat) (w : World) (h : BagAt w base b P l) (hr : Kd.C (Kd.int .u8) w A p.f2.length p.f2) (hc : p.f2.length ≤ c) (hl : p.f2.length < 140737488355328)
    (hf : 1 ≤ p.f0 ∧ p.f0 ≤ 9) (ht : 1 ≤ p.f1 ∧ p.f1 ≤ 9) (he : ¬ p.f0 = p.f1) (hfull : l.length < 512) :
    Calls Try.prog 20 #[.pointer (some ⟨b, 0, none⟩), .agg #[.int .i64 p.f0, .int .i64 p.f1, .slice A p.f2.length c]] w fun e w' => e = .returned (.bool true) ∧ BagStep w w' base b P (l ++ [p]) := by
  have hbl := h.lt
  obtain ⟨hbase, hnP, hPb, v, hcell, hR⟩ := h
  obtain ⟨Ab, cb, rfl, _⟩ := Kd.R_reads hR
  have hx : w.cell? ⟨b, 0, none⟩ = some (.slice Ab l.length cb) := blk_cell hcell 0
  have HRB := Aside0.mk hR
  have HR := Aside0.mk hr
  have HC := Aside0.mk hc
  have HB1 := Aside0.mk (below_alloc (Below.refl w.heap.size w) (Obj.cells #[Value.int IntKind.i64 p.f0, Value.int IntKind.i64 p.f1, Value.slice A p.f2.length c] 30))
  have hfb : decide (1 ≤ p.f0 ∧ p.f0 ≤ 9) = true := decide_eq_true hf
  have htb : decide (1 ≤ p.f1 ∧ p.f1 ≤ 9) = true := decide_eq_true ht
  have heb : (p.f0 == p.f1) = false := by simpa using he
  have hfl : ¬ (512 : Int) ≤ (l.length : Int) := by omega
  have HP := Aside0.mk hPb
  have HBW : base ≤ w.heap.size := Nat.le_trans hbase (Nat.le_of_lt hbl)
  have HOWN : Aside0 (∀ k, (Value.slice Ab l.length cb).ownBlock = some k → P k) := ⟨hR.1⟩
  have HNE : Aside0 (some b ≠ (Value.slice Ab l.length cb).ownBlock) := ⟨fun h => hnP (hR.1 b h.symm)⟩
  have HOK : Aside0 (∀ k, w.heap.size ≤ k → (P k ∨ w.heap.size ≤ k) ∧ some k ≠ (Value.slice Ab l.length cb).ownBlock) := ⟨fun k hk => ⟨.inr hk, fun h => by have := (hPb k (hR.1 k h.symm)).2; omega⟩⟩
  have HK := Aside0.mk hcell
  clear hR hr hc he hPb hcell
  go_enter Try.func20, Try.ntmps20
  go_wp2_with fail
  refine (bag_node p.f0 _).mono ?_
  rw [hfb]
  rintro e w1 ⟨rfl, m1, rfl⟩
  go_wp2_with fail
  refine (bag_node p.f1 _).mono ?_
  rw [htb]
  rintro e w2 ⟨rfl, m2, rfl⟩
  have y0 := pw_cell_below HB1.out hx
  go_wp2_with fail
  go_region_law (first
    | (refine Kd.R_append_step k30 (w0 := w) base (by simp [Region.wanted]) (.tmp 41) (.tmp 44) 27 30 _ 40 rfl Try.underlying27 info30p (by decide) (by decide) (by decide) (.slice Ab l.length cb) l p _ (fun k => P k ∨ w.heap.size ≤ k) (fun k => w.heap.size ≤ k) (by simp [Act.eval, Act.put]) (by simp [Act.eval, Act.put]) HM.out HOK.out HFR.out HRB3.out HBB3.out HLE3.out (by omega) ?_; intro v4 w4 hr4 hb4 hg4 hat4; obtain ⟨A4, c4, hv4⟩ := Kd.R_slice hr4; subst hv4; have hbk := (hg4.block b HBL3.out HNE.out).trans HK3.out; have y4 : w4.cell? ⟨b, 0, none⟩ = some (.slice Ab l.length cb) := blk_cell hbk 0; have z4 : w4.frozen? ⟨b, 0, none⟩ = false := blk_frozen hbk _; have HR4 := Aside0.mk hr4; have HG4 := Aside0.mk hg4; have HB4 := Aside0.mk hb4; have HBK4 := Aside0.mk hbk; clear hr4 hb4 hg4 hbk hat4)
    | (go_simp; refine (bag_copied.calls p.f0 p.f1 _ _ _ p.f0 p.f1 p.f2 _ (Kd.C_drewN (Kd.C_below HR.out HB1.out) _) HC.out (by simp [bag_copied.f, slices_Clone_byte_byte.f, hl])).mono ?_; rintro e w3 ⟨v3, rfl, h3, hb3⟩; obtain ⟨A3, c3, hv3⟩ := Kd.R_slice h3; subst hv3; have hb3' := below_after (pw_below_drewN HB1.out (m1 + m2 + 1)) (Nat.le_refl _) hb3; have y3 := pw_cell_below hb3' hx; have y3a := pw_cell_below (below_alloc (Below.refl w3.heap.size w3) (Obj.cells #[Value.int IntKind.i64 p.f0, Value.int IntKind.i64 p.f1, Value.slice A3 p.f2.length c3] 30)) y3; have HB3 := Aside0.mk hb3'; have H3 := Aside0.mk (Kd.R_mono (ok' := fun k => w.heap.size ≤ k) (Kd.R_bound (Kd.R_lower h3 (base' := w.heap.size) (by simp))) (fun k hk => hk.2.1)); have HM := Aside0.mk (k30_mkM w3 base (fun k => w.heap.size ≤ k) p (Kd.R_lower H3.out HBW)); have HRB3 := Aside0.mk (Kd.R_mono (ok' := fun k => P k ∨ w.heap.size ≤ k) (Kd.R_below HRB.out hb3') (fun k hk => .inl hk)); have HBB3 := Aside0.mk (hb3'.mono HBW); have HFR : Aside0 (∀ k, w3.heap.size ≤ k → P k ∨ w.heap.size ≤ k) := ⟨fun k hk => .inr (Nat.le_trans hb3'.size hk)⟩; have HLE3 := Aside0.mk (Nat.le_trans HBW hb3'.size); have HBL3 := Aside0.mk (Nat.lt_of_lt_of_le hbl hb3'.size); have HK3 := Aside0.mk ((hb3'.block b hbl).trans HK.out); clear h3 hb3 hb3'))
  all_goals go_wp2
  all_goals go_ret
  all_goals refine ⟨rfl, bag_put_end HB3.out HG4.out HB4.out HBK4.out HR4.out hbase hnP hbl HP.out HOWN.out (by simp)⟩
end Go.Proofs.Ytncmkcggkgahnaa.PBag
