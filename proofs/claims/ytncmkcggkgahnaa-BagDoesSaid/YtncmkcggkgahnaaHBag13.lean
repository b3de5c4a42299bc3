-- By the session: contracts proved by hand.
import Derived.Test.YtncmkcggkgahnaaHBag12
import Derived.Deep.RegionHeldLaw
namespace Go.Proofs.Ytncmkcggkgahnaa.PBag
open Go.RowKit Go.Proofs.YtncmkcggkgahnaaW.PrintWords Go.Proofs.YtncmkcggkgahnaaW.PrintLast Go.Proofs.YtncmkcggkgahnaaW.PrintMore
set_option linter.unusedVariables false
set_option linter.unusedSimpArgs false
/-- A step at an element of the list: the world in which it lies in the step's own packet. -/
def doW4 (w : World) (kd n : Int) (p : S30) (A : Option Addr) (c : Nat) (q : S30) (Aq : Option Addr) (cq : Nat) : World :=
  ((((w.alloc (Obj.cells #[Value.int .i64 kd, Value.int .i64 n, Value.int .i64 p.f0, Value.int .i64 p.f1, Value.slice A p.f2.length c] 34)).alloc (Obj.cells #[Value.int .i64 0, Value.int .i64 0, Value.slice none 0 0] 30)).alloc (Obj.cells #[Value.int .i64 0, Value.int .i64 0, Value.slice none 0 0] 30)).alloc (Obj.cells #[Value.int .i64 q.f0, Value.int .i64 q.f1, Value.slice Aq q.f2.length cq] 30))
theorem doAt4 (w : World) (kd n : Int) (p : S30) (A : Option Addr) (c : Nat) (q : S30) (Aq : Option Addr) (cq : Nat) : DoAt w (doW4 w kd n p A c q Aq cq) q Aq cq := by
  unfold doW4
  refine ⟨below_alloc (below_alloc (below_alloc (below_alloc (Below.refl _ _) _) _) _) _, by simp, blk_alloc (blk_alloc (heap_alloc2_new w _ _) _) _, ?_, ?_⟩
  · refine blk_alloc ?_ _
    have h := heap_alloc2_new (w.alloc (Obj.cells #[Value.int .i64 kd, Value.int .i64 n, Value.int .i64 p.f0, Value.int .i64 p.f1, Value.slice A p.f2.length c] 34)) (Obj.cells #[Value.int .i64 0, Value.int .i64 0, Value.slice none 0 0] 30) (Obj.cells #[Value.int .i64 0, Value.int .i64 0, Value.slice none 0 0] 30)
    simpa using h
  · have h := heap_alloc2_new ((w.alloc (Obj.cells #[Value.int .i64 kd, Value.int .i64 n, Value.int .i64 p.f0, Value.int .i64 p.f1, Value.slice A p.f2.length c] 34)).alloc (Obj.cells #[Value.int .i64 0, Value.int .i64 0, Value.slice none 0 0] 30)) (Obj.cells #[Value.int .i64 0, Value.int .i64 0, Value.slice none 0 0] 30) (Obj.cells #[Value.int .i64 q.f0, Value.int .i64 q.f1, Value.slice Aq q.f2.length cq] 30)
    simpa using h
/-- The step's own number and place, in that world. -/
theorem doAt4_0 (w : World) (kd n : Int) (p : S30) (A : Option Addr) (c : Nat) (q : S30) (Aq : Option Addr) (cq : Nat) : (doW4 w kd n p A c q Aq cq).heap[w.heap.size]? = some (.cells #[.int .i64 kd, .int .i64 n, .int .i64 p.f0, .int .i64 p.f1, .slice A p.f2.length c] 34 (0, 0)) := blk_alloc (blk_alloc (blk_alloc (blk_new w _) _) _) _
set_option maxHeartbeats 8000000 in
set_option maxRecDepth 100000 in
theorem refDo_no4 (X : Nat → Prop) (l : List S30) (Al : Option Addr) (cl : Nat) (kd : Int) (i : Nat) (p : S30) (A : Option Addr) (c : Nat) (w : World) (hV : Kd.V k30 30 w 0 X (.slice Al l.length cl) l) (hi : i < l.length) (hk : kd = 4) (hno : putOk l (rdP l i) = false) :
    Calls Try.prog 12 #[.slice Al l.length cl, .agg #[.int .i64 kd, .int .i64 (i : Int), .int .i64 p.f0, .int .i64 p.f1, .slice A p.f2.length c]] w fun e w' => DoPost w w' X l z30 false e := by
  have HV := Aside0.mk hV
  obtain ⟨q, hq⟩ : ∃ q, q = rdP l i := ⟨_, rfl⟩
  rw [← hq] at hno
  obtain ⟨ad, cs, rfl, hcl, hFK, hcc, _⟩ := Kd.F_get (Kd.V_F hV) z30 (i : Int) (by omega) (by omega)
  rw [show l.getD (i : Int).toNat z30 = q from by rw [hq]; simp [rdP]] at hFK
  obtain ⟨Aq, cq, rfl, hlq, hFq⟩ := k30_openF hFK
  rw [Int.toNat_natCast] at hcc
  have hx0 : w.cell? (ad.add (i * 3)) = some (.int .i64 q.f0) := hcc 0 _ rfl
  have hx1 : w.cell? ⟨(ad.add (i * 3)).block, (ad.add (i * 3)).off + 1, none⟩ = some (.int .i64 q.f1) := by rw [← add_field _ _ 1 (by omega)]; exact hcc 1 _ rfl
  have hx2 : w.cell? ⟨(ad.add (i * 3)).block, (ad.add (i * 3)).off + 2, none⟩ = some (.slice Aq q.f2.length cq) := by rw [← add_field _ _ 2 (by omega)]; exact hcc 2 _ rfl
  have hbd := doW_below w kd (i : Int) p A c
  have y0 := pw_cell_below hbd hx0
  have y1 := pw_cell_below hbd hx1
  have y2 := pw_cell_below hbd hx2
  unfold doW at y0 y1 y2
  have hn0 : ¬ (i : Int) < 0 := by omega
  have hn1 : ¬ (l.length : Int) ≤ (i : Int) := by omega
  clear hbd hx0 hx1 hx2 hcc hcl
  have hcs := putOk_no hno
  subst hk
  clear hV hno hFK hFq hlq hq hi
  rcases hcs with g0 | ⟨g0, g1⟩ | ⟨g0, g1, g2⟩ | ⟨g0, g1, g2, g3⟩ | ⟨g0, g1, g2, g3, g4⟩ | ⟨g0, g1, g2, g3, g4, g5⟩
  all_goals
    go_enter Try.func12, Try.ntmps12
    go_wp2
    have hd := doAt4 w 4 (i : Int) p A c q Aq cq
    obtain ⟨W0, hW0⟩ : ∃ W0, W0 = doW4 w 4 (i : Int) p A c q Aq cq := ⟨_, rfl⟩
    rw [← hW0] at hd
    unfold doW4 at hW0
    rw [← hW0]
    clear hW0
    obtain ⟨s0, s1, s2, s3, s4, s5⟩ := hd.S (Below.refl _ _)
    obtain ⟨t0, t1, t2, t3, t4, t5⟩ := hd.T (Below.refl _ _)
    have HD := Aside0.mk hd
    clear hd y0 y1 y2
    go_region
    go_wp2
    refine bodyPost_ret (results_tmp_cell_tmp rfl _ _ (w.heap.size + 1) 30 #[.int .i64 0, .int .i64 0, .slice none 0 0] (0, 0) _ rfl (blk_drew (blk_put (blk_put (blk_put HD.out.c1 0 _ rfl) 1 _ rfl) 2 _ rfl)) Try.underlying30 rfl size30) rfl ?_
    have hb := drew_below (((HD.out.below.setCell (p := ⟨w.heap.size + 1, 0, none⟩) (by simp) (.int .i64 0)).setCell (p := ⟨w.heap.size + 1, 1, none⟩) (by simp) (.int .i64 0)).setCell (p := ⟨w.heap.size + 1, 2, none⟩) (by simp) (.slice none 0 0))
    exact ⟨_, none, 0, rfl, Kd.V_mono (Kd.V_below HV.out hb) (fun _ hk => .inl hk), Nat.le_refl _, Kd.C_nil _ _, hb⟩
set_option maxHeartbeats 8000000 in
set_option maxRecDepth 100000 in
theorem refDo_yes4 (X : Nat → Prop) (l : List S30) (Al : Option Addr) (cl : Nat) (kd : Int) (i : Nat) (p : S30) (A : Option Addr) (c : Nat) (w : World) (hV : Kd.V k30 30 w 0 X (.slice Al l.length cl) l) (hi : i < l.length) (hk : kd = 4) (hyes : putOk l (rdP l i) = true) :
    Calls Try.prog 12 #[.slice Al l.length cl, .agg #[.int .i64 kd, .int .i64 (i : Int), .int .i64 p.f0, .int .i64 p.f1, .slice A p.f2.length c]] w fun e w' => DoPost w w' X (l ++ [rdP l i]) z30 true e := by
  have HFL : Aside0 (Kd.F k30 w (fun k => X k ∧ k < w.heap.size) Al l.length l) := ⟨Kd.F_bound (Kd.V_F hV)⟩
  obtain ⟨q, hq⟩ : ∃ q, q = rdP l i := ⟨_, rfl⟩
  rw [← hq] at hyes ⊢
  obtain ⟨ad, cs, rfl, hcl, hFK, hcc, _⟩ := Kd.F_get (Kd.V_F hV) z30 (i : Int) (by omega) (by omega)
  rw [show l.getD (i : Int).toNat z30 = q from by rw [hq]; simp [rdP]] at hFK
  obtain ⟨Aq, cq, rfl, hlq, hFq⟩ := k30_openF hFK
  rw [Int.toNat_natCast] at hcc
  have hx0 : w.cell? (ad.add (i * 3)) = some (.int .i64 q.f0) := hcc 0 _ rfl
  have hx1 : w.cell? ⟨(ad.add (i * 3)).block, (ad.add (i * 3)).off + 1, none⟩ = some (.int .i64 q.f1) := by rw [← add_field _ _ 1 (by omega)]; exact hcc 1 _ rfl
  have hx2 : w.cell? ⟨(ad.add (i * 3)).block, (ad.add (i * 3)).off + 2, none⟩ = some (.slice Aq q.f2.length cq) := by rw [← add_field _ _ 2 (by omega)]; exact hcc 2 _ rfl
  have hbd := doW_below w kd (i : Int) p A c
  have y0 := pw_cell_below hbd hx0
  have y1 := pw_cell_below hbd hx1
  have y2 := pw_cell_below hbd hx2
  unfold doW at y0 y1 y2
  have hn0 : ¬ (i : Int) < 0 := by omega
  have hn1 : ¬ (l.length : Int) ≤ (i : Int) := by omega
  clear hbd hx0 hx1 hx2 hcc hcl
  have HFK : Aside0 (Kd.FK k30 w (fun k => X k ∧ k < w.heap.size) q [.int .i64 q.f0, .int .i64 q.f1, .slice Aq q.f2.length cq]) := ⟨k30_mkF w _ q hlq (Kd.F_bound hFq)⟩
  obtain ⟨g0, g1, g2, g3, g4, g5⟩ := putOk_yes hyes
  have hll : l.length < 512 := by omega
  subst hk
  clear hV hyes hFK hFq hlq hq hi
  go_enter Try.func12, Try.ntmps12
  go_wp2
  have hd := doAt4 w 4 (i : Int) p A c q Aq cq
  obtain ⟨W0, hW0⟩ : ∃ W0, W0 = doW4 w 4 (i : Int) p A c q Aq cq := ⟨_, rfl⟩
  rw [← hW0] at hd
  unfold doW4 at hW0
  rw [← hW0]
  clear hW0 y0 y1 y2
  have HD := Aside0.mk hd
  have HSZ := Aside0.mk hd.size
  have HFL0 := Aside0.mk (Kd.F_below HFL.out hd.below)
  have HFK0 := Aside0.mk (Kd.FK_below HFK.out hd.below)
  have HB0 := Aside0.mk (Below.refl W0.heap.size W0)
  have HFRS : Aside0 (∀ {W : World}, Below W0.heap.size W0 W → ∀ k, W.heap.size ≤ k → (X k ∧ k < w.heap.size) ∨ W0.heap.size ≤ k) := ⟨fun h k hk => .inr (by have := h.size; omega)⟩
  clear hd
  go_region_held_law (fun w' : World => w'.cell? ⟨w.heap.size + 1 + 1 + 1, 0, none⟩ = some (.int .i64 q.f0) ∧ w'.cell? ⟨w.heap.size + 1 + 1 + 1, 1, none⟩ = some (.int .i64 q.f1) ∧ w'.cell? ⟨w.heap.size + 1 + 1 + 1, 2, none⟩ = some (.slice Aq q.f2.length cq) ∧ w'.cell? ⟨w.heap.size + 1 + 1, 0, none⟩ = some (.int .i64 0) ∧ w'.cell? ⟨w.heap.size + 1 + 1, 1, none⟩ = some (.int .i64 0) ∧ w'.cell? ⟨w.heap.size + 1 + 1, 2, none⟩ = some (.slice none 0 0)) (first | (refine HD.out.S ?_; (repeat (first | (with_reducible exact HB5.out) | (with_reducible exact HB4.out) | (with_reducible exact HB0.out) | (with_reducible apply drew_below) | (with_reducible apply below_alloc))); done) | (exact HD.out.S5 HB5.out)) (first
    | (refine Kd.N_append_rows_step k30 (w0 := W0) W0.heap.size (by simp [Region.wanted]) (.tmp 84) (.tmp 85) 27 30 _ 40 rfl Try.underlying27 info30p (by decide) (by decide) (by decide) (.slice (some ⟨W0.heap.size, 0, none⟩) 0 0) [] l (some ad) l.length cl (fun k => (X k ∧ k < w.heap.size) ∨ W0.heap.size ≤ k) (fun k => X k ∧ k < w.heap.size) (by first | rfl | (simp [Act.eval, Act.put]; done)) (by first | rfl | (simp [Act.eval, Act.put]; done)) (N_empty ?_ (by omega) (.inr (by omega))) (Kd.F_below HFL0.out ?_) (fun k hk => ⟨.inl hk, fun h => by simp [Value.ownBlock] at h; have := hk.2; have := HSZ.out; omega⟩) (HFRS.out ?_) ?_ (Below.size (B := W0.heap.size) ?_) (by simp; omega) ?_; (focus ((repeat (first | (refine blk_new' ?_; first | (with_reducible rfl) | (simp; done)) | (with_reducible refine blk_drew ?_) | (with_reducible refine blk_alloc ?_ _))); done)); (focus ((repeat (first | (with_reducible exact HB4.out) | (with_reducible exact HB0.out) | (with_reducible apply drew_below) | (with_reducible apply below_alloc))); done)); (focus ((repeat (first | (with_reducible exact HB4.out) | (with_reducible exact HB0.out) | (with_reducible apply drew_below) | (with_reducible apply below_alloc))); done)); (focus ((repeat (first | (with_reducible exact HB4.out) | (with_reducible exact HB0.out) | (with_reducible apply drew_below) | (with_reducible apply below_alloc))); done)); (focus ((repeat (first | (with_reducible exact HB4.out) | (with_reducible exact HB0.out) | (with_reducible apply drew_below) | (with_reducible apply below_alloc))); done)); intro v4 w4 hr4 hb4 hg4 hat4; obtain ⟨A4, c4, hv4⟩ := Kd.N_slice hr4; subst hv4; have HR4 := Aside0.mk hr4; have HB4 := Aside0.mk hb4; have HG4 := Aside0.mk hg4; have HAT4 := Aside0.mk hat4; clear hr4 hb4 hg4 hat4)
    | (refine Kd.N_append_rows_step k30 (w0 := W0) W0.heap.size (by simp [Region.wanted]) (.tmp 84) (.tmp 85) 27 30 _ 40 rfl Try.underlying27 info30p (by decide) (by decide) (by decide) (.slice (some ⟨W0.heap.size + 1, 0, none⟩) 0 0) [] l (some ad) l.length cl (fun k => (X k ∧ k < w.heap.size) ∨ W0.heap.size ≤ k) (fun k => X k ∧ k < w.heap.size) (by first | rfl | (simp [Act.eval, Act.put]; done)) (by first | rfl | (simp [Act.eval, Act.put]; done)) (N_empty ?_ (by omega) (.inr (by omega))) (Kd.F_below HFL0.out ?_) (fun k hk => ⟨.inl hk, fun h => by simp [Value.ownBlock] at h; have := hk.2; have := HSZ.out; omega⟩) (HFRS.out ?_) ?_ (Below.size (B := W0.heap.size) ?_) (by simp; omega) ?_; (focus ((repeat (first | (refine blk_new' ?_; first | (with_reducible rfl) | (simp; done)) | (with_reducible refine blk_drew ?_) | (with_reducible refine blk_alloc ?_ _))); done)); (focus ((repeat (first | (with_reducible exact HB4.out) | (with_reducible exact HB0.out) | (with_reducible apply drew_below) | (with_reducible apply below_alloc))); done)); (focus ((repeat (first | (with_reducible exact HB4.out) | (with_reducible exact HB0.out) | (with_reducible apply drew_below) | (with_reducible apply below_alloc))); done)); (focus ((repeat (first | (with_reducible exact HB4.out) | (with_reducible exact HB0.out) | (with_reducible apply drew_below) | (with_reducible apply below_alloc))); done)); (focus ((repeat (first | (with_reducible exact HB4.out) | (with_reducible exact HB0.out) | (with_reducible apply drew_below) | (with_reducible apply below_alloc))); done)); intro v4 w4 hr4 hb4 hg4 hat4; obtain ⟨A4, c4, hv4⟩ := Kd.N_slice hr4; subst hv4; have HR4 := Aside0.mk hr4; have HB4 := Aside0.mk hb4; have HG4 := Aside0.mk hg4; have HAT4 := Aside0.mk hat4; clear hr4 hb4 hg4 hat4)
    | (refine Kd.N_append_step k30 (w0 := W0) W0.heap.size (by simp [Region.wanted]) (.tmp 86) (.tmp 88) 27 30 _ 40 rfl Try.underlying27 info30p (by decide) (by decide) (by decide) (.slice A4 ([] ++ l).length c4) ([] ++ l) q _ (fun k => (X k ∧ k < w.heap.size) ∨ W0.heap.size ≤ k) (fun k => X k ∧ k < w.heap.size) (by first | rfl | (simp [Act.eval, Act.put]; done)) (by first | rfl | (simp [Act.eval, Act.put]; done)) (Kd.FK_below HFK0.out HB4.out) (fun k hk => ⟨.inl hk, fun h => by have := Kd.N_base HR4.out k h.symm; have := HSZ.out; have := hk.2; omega⟩) (HFRS.out HB4.out) HR4.out HB4.out (Below.size HB4.out) (by simp only [List.nil_append, List.length_nil, Nat.zero_add]; omega) ?_; intro v5 w5 hr5 hb5 hg5 hat5; obtain ⟨A5, c5, hv5⟩ := Kd.N_slice hr5; subst hv5; obtain ⟨y0, y1, y2, y3, y4, y5⟩ := HD.out.T hb5; have HR5 := Aside0.mk hr5; have HB5 := Aside0.mk hb5; clear hr5 hb5 hg5 hat5)
    | (refine Kd.N_append_rows_step k30 (w0 := W0) W0.heap.size (by simp [Region.wanted]) (.tmp 86) (.tmp 88) 27 30 _ 40 rfl Try.underlying27 info30p (by decide) (by decide) (by decide) (.slice A4 ([] ++ l).length c4) ([] ++ l) [q] (some ⟨W0.heap.size + 1, 0, none⟩) 1 1 (fun k => (X k ∧ k < w.heap.size) ∨ W0.heap.size ≤ k) (fun k => (X k ∧ k < w.heap.size) ∨ k = W0.heap.size + 1) (by first | rfl | (simp [Act.eval, Act.put]; done)) (by first | rfl | (simp [Act.eval, Act.put]; done)) HR4.out (F_lit (cs := [.int .i64 q.f0, .int .i64 q.f1, .slice Aq q.f2.length cq]) (blk_grown HG4.out ?_ (by simp [Value.ownBlock])) rfl (Kd.FK_below HFK0.out HB4.out)) (hok2 (g84 := W0.heap.size) HSZ.out (by omega) (by omega) (by first | (simp; done) | (simp; omega)) HAT4.out (fun k h => Kd.N_base HR4.out k h)) (HFRS.out HB4.out) HB4.out (Below.size HB4.out) (by simp only [List.nil_append, List.length_nil, Nat.zero_add]; omega) ?_; (focus ((repeat (first | (refine blk_new' ?_; first | (with_reducible rfl) | (simp; done)) | (with_reducible refine blk_drew ?_) | (with_reducible refine blk_alloc ?_ _))); done)); intro v5 w5 hr5 hb5 hg5 hat5; obtain ⟨A5, c5, hv5⟩ := Kd.N_slice hr5; subst hv5; obtain ⟨y0, y1, y2, y3, y4, y5⟩ := HD.out.T hb5; have HR5 := Aside0.mk hr5; have HB5 := Aside0.mk hb5; clear hr5 hb5 hg5 hat5)
    | (refine Kd.N_append_rows_step k30 (w0 := W0) W0.heap.size (by simp [Region.wanted]) (.tmp 86) (.tmp 88) 27 30 _ 40 rfl Try.underlying27 info30p (by decide) (by decide) (by decide) (.slice A4 ([] ++ l).length c4) ([] ++ l) [q] (some ⟨W0.heap.size, 0, none⟩) 1 1 (fun k => (X k ∧ k < w.heap.size) ∨ W0.heap.size ≤ k) (fun k => (X k ∧ k < w.heap.size) ∨ k = W0.heap.size) (by first | rfl | (simp [Act.eval, Act.put]; done)) (by first | rfl | (simp [Act.eval, Act.put]; done)) HR4.out (F_lit (cs := [.int .i64 q.f0, .int .i64 q.f1, .slice Aq q.f2.length cq]) (blk_grown HG4.out ?_ (by simp [Value.ownBlock])) rfl (Kd.FK_below HFK0.out HB4.out)) (hok2 (g84 := W0.heap.size + 1) HSZ.out (by omega) (by omega) (by first | (simp; done) | (simp; omega)) HAT4.out (fun k h => Kd.N_base HR4.out k h)) (HFRS.out HB4.out) HB4.out (Below.size HB4.out) (by simp only [List.nil_append, List.length_nil, Nat.zero_add]; omega) ?_; (focus ((repeat (first | (refine blk_new' ?_; first | (with_reducible rfl) | (simp; done)) | (with_reducible refine blk_drew ?_) | (with_reducible refine blk_alloc ?_ _))); done)); intro v5 w5 hr5 hb5 hg5 hat5; obtain ⟨A5, c5, hv5⟩ := Kd.N_slice hr5; subst hv5; obtain ⟨y0, y1, y2, y3, y4, y5⟩ := HD.out.T hb5; have HR5 := Aside0.mk hr5; have HB5 := Aside0.mk hb5; clear hr5 hb5 hg5 hat5)
    | fail)
  all_goals go_wp2
  all_goals refine bodyPost_ret (results_tmp_cell_tmp rfl _ _ (w.heap.size + 1) 30 #[.int .i64 0, .int .i64 0, .slice none 0 0] (0, 0) _ rfl (blk_put (blk_put (blk_put (blk_below HD.out.c1 HB5.out) 0 _ rfl) 1 _ rfl) 2 _ rfl) Try.underlying30 rfl size30) rfl ?_
  all_goals exact doEnd1 HD.out HB5.out HR5.out (by simp)

end Go.Proofs.Ytncmkcggkgahnaa.PBag
