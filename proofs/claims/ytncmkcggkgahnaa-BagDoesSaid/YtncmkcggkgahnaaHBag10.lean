-- By the session: contracts proved by hand.
import Derived.Test.YtncmkcggkgahnaaHBag9
import Derived.Deep.RegionHeldLaw
namespace Go.Proofs.Ytncmkcggkgahnaa.PBag
open Go.RowKit Go.Proofs.YtncmkcggkgahnaaW.PrintWords Go.Proofs.YtncmkcggkgahnaaW.PrintLast Go.Proofs.YtncmkcggkgahnaaW.PrintMore
set_option linter.unusedVariables false
set_option linter.unusedSimpArgs false
theorem N_empty {w : World} {base g : Nat} {ok : Nat → Prop} (hg : w.heap[g]? = some (.cells #[] 30 (0, 0))) (hb : base ≤ g) (hok : ok g) : Kd.N k30 30 w base ok (.slice (some ⟨g, 0, none⟩) 0 0) [] := by
  refine Kd.R_N ⟨fun k hk => ?_, [], ⟨rfl, .inr ⟨g, 0, #[], rfl, hb, hg, Nat.le_refl _, by simp [maxLen], rfl, rfl⟩⟩, Reps.none _ _⟩
  have : g = k := by simpa [Value.ownBlock] using hk
  exact this ▸ hok
theorem blk_new' {W : World} {g : Nat} {o : Obj} (h : W.heap.size = g) : (W.alloc o).heap[g]? = some o := by subst h; exact blk_new W o
theorem F_lit {d : Kd S30} {W : World} {g : Nat} {okp : Nat → Prop} {x : S30} {cs : List Value} (hg : W.heap[g]? = some (.cells cs.toArray 30 (0, 0))) (hl : cs.length = d.sz) (h : Kd.FK d W okp x cs) : Kd.F d W (fun k => okp k ∨ k = g) (some ⟨g, 0, none⟩) 1 [x] := by
  intro W2 hW
  have hg2 : W2.heap[g]? = some (.cells cs.toArray 30 (0, 0)) := (hW g (.inr rfl) (blk_lt hg)).trans hg
  refine ⟨rfl, by decide, fun _ => ⟨_, rfl, fun j p hj => ?_⟩⟩
  rcases j with _ | j
  · simp only [List.getElem?_cons_zero, Option.some.injEq] at hj
    subst hj
    refine ⟨cs, hl, h W2 (fun k hk hlt => hW k (.inl hk) hlt), fun i u hu => ?_⟩
    rw [Nat.zero_mul, Nat.zero_add, show (⟨g, 0, none⟩ : Addr).add i = ⟨g, i, none⟩ by unfold Addr.add; split <;> simp_all]
    rw [blk_cell hg2]
    simpa using hu
  · simp at hj



theorem blk_grown {W W' : World} {row : Option Nat} {g : Nat} {o : Obj} (hg : W.grownBy W' row) (h : W.heap[g]? = some o) (hn : some g ≠ row) : W'.heap[g]? = some o := (hg.block g (blk_lt h) hn).trans h
/-- The worlds of Do's last regions: W0 is where they begin. -/
structure DoAt (w W0 : World) (q : S30) (A : Option Addr) (c : Nat) : Prop where
  below : Below w.heap.size w W0
  size : W0.heap.size = w.heap.size + 4
  c1 : W0.heap[w.heap.size + 1]? = some (.cells #[.int .i64 0, .int .i64 0, .slice none 0 0] 30 (0, 0))
  c2 : W0.heap[w.heap.size + 2]? = some (.cells #[.int .i64 0, .int .i64 0, .slice none 0 0] 30 (0, 0))
  c3 : W0.heap[w.heap.size + 3]? = some (.cells #[.int .i64 q.f0, .int .i64 q.f1, .slice A q.f2.length c] 30 (0, 0))
theorem doAt (w : World) (kd n : Int) (p : S30) (A : Option Addr) (c : Nat) : DoAt w (doW w kd n p A c) p A c := ⟨doW_below _ _ _ _ _ _, doW_size _ _ _ _ _ _, doW_1 _ _ _ _ _ _, doW_2 _ _ _ _ _ _, doW_3 _ _ _ _ _ _⟩
theorem DoAt.S {w W0 W : World} {q : S30} {A : Option Addr} {c : Nat} (d : DoAt w W0 q A c) (h : Below W0.heap.size W0 W) :
    W.cell? ⟨w.heap.size + 1 + 1 + 1, 0, none⟩ = some (.int .i64 q.f0) ∧ W.cell? ⟨w.heap.size + 1 + 1 + 1, 1, none⟩ = some (.int .i64 q.f1) ∧ W.cell? ⟨w.heap.size + 1 + 1 + 1, 2, none⟩ = some (.slice A q.f2.length c) ∧ W.cell? ⟨w.heap.size + 1 + 1, 0, none⟩ = some (.int .i64 0) ∧ W.cell? ⟨w.heap.size + 1 + 1, 1, none⟩ = some (.int .i64 0) ∧ W.cell? ⟨w.heap.size + 1 + 1, 2, none⟩ = some (.slice none 0 0) := by
  have h3 := blk_below d.c3 h
  have h2 := blk_below d.c2 h
  exact ⟨blk_cell h3 0, blk_cell h3 1, blk_cell h3 2, blk_cell h2 0, blk_cell h2 1, blk_cell h2 2⟩
theorem DoAt.S5 {w W0 W : World} {q : S30} {A : Option Addr} {c : Nat} (d : DoAt w W0 q A c) (h : Below W0.heap.size W0 W) {a b e : Value} {W5 : World} (hW : W5 = ((W.setCell ⟨w.heap.size + 1, 0, none⟩ a).setCell ⟨w.heap.size + 1, 1, none⟩ b).setCell ⟨w.heap.size + 1, 2, none⟩ e := by rfl) :
    W5.cell? ⟨w.heap.size + 1 + 1 + 1, 0, none⟩ = some (.int .i64 q.f0) ∧ W5.cell? ⟨w.heap.size + 1 + 1 + 1, 1, none⟩ = some (.int .i64 q.f1) ∧ W5.cell? ⟨w.heap.size + 1 + 1 + 1, 2, none⟩ = some (.slice A q.f2.length c) ∧ W5.cell? ⟨w.heap.size + 1 + 1, 0, none⟩ = some (.int .i64 0) ∧ W5.cell? ⟨w.heap.size + 1 + 1, 1, none⟩ = some (.int .i64 0) ∧ W5.cell? ⟨w.heap.size + 1 + 1, 2, none⟩ = some (.slice none 0 0) := by
  have h3 := blk_below d.c3 h
  have h2 := blk_below d.c2 h
  have f3 : W5.heap[w.heap.size + 3]? = some (.cells #[.int .i64 q.f0, .int .i64 q.f1, .slice A q.f2.length c] 30 (0, 0)) := by rw [hW]; exact blk_far (blk_far (blk_far h3 (p := ⟨w.heap.size + 1, 0, none⟩) (by simp) _) (p := ⟨w.heap.size + 1, 1, none⟩) (by simp) _) (p := ⟨w.heap.size + 1, 2, none⟩) (by simp) _
  have f2 : W5.heap[w.heap.size + 2]? = some (.cells #[.int .i64 0, .int .i64 0, .slice none 0 0] 30 (0, 0)) := by rw [hW]; exact blk_far (blk_far (blk_far h2 (p := ⟨w.heap.size + 1, 0, none⟩) (by simp) _) (p := ⟨w.heap.size + 1, 1, none⟩) (by simp) _) (p := ⟨w.heap.size + 1, 2, none⟩) (by simp) _
  exact ⟨blk_cell f3 0, blk_cell f3 1, blk_cell f3 2, blk_cell f2 0, blk_cell f2 1, blk_cell f2 2⟩
theorem hok2 {X : Nat → Prop} {w W0 W : World} {g g84 : Nat} {v4 : Value} (hsz : W0.heap.size = w.heap.size + 4) (hg : W0.heap.size ≤ g) (hne : g ≠ g84) (hlt : g < W.heap.size)
    (hat : v4.ownBlock = (Value.slice (some ⟨g84, 0, none⟩) 0 0).ownBlock ∨ ∃ b, v4.ownBlock = some b ∧ W.heap.size ≤ b) (hbase : ∀ k, v4.ownBlock = some k → W0.heap.size ≤ k) : ∀ k, ((X k ∧ k < w.heap.size) ∨ k = g) → ((X k ∧ k < w.heap.size) ∨ W0.heap.size ≤ k) ∧ some k ≠ v4.ownBlock := by
  intro k hk
  refine ⟨?_, fun h => ?_⟩
  · rcases hk with hk | hk
    · exact .inl hk
    · exact .inr (by omega)
  · have h1 := hbase k h.symm
    rcases hk with hk | hk
    · omega
    · rcases hat with h5 | ⟨b5, h5, h6⟩
      · rw [h5] at h
        have : k = g84 := by simpa [Value.ownBlock] using h
        omega
      · rw [h5] at h
        injection h with h
        omega
theorem doEnd1 {X : Nat → Prop} {w W0 w5 : World} {q p : S30} {l : List S30} {A A5 : Option Addr} {c c5 n5 : Nat} {a b e : Value} (d : DoAt w W0 q A c) (hb : Below W0.heap.size W0 w5) (hr : Kd.N k30 30 w5 W0.heap.size (fun k => (X k ∧ k < w.heap.size) ∨ W0.heap.size ≤ k) (.slice A5 (([] ++ l ++ [p]) : List S30).length c5) ([] ++ l ++ [p])) (hn : n5 = ([] ++ l ++ [p]).length) :
    DoPost w (((w5.setCell ⟨w.heap.size + 1, 0, none⟩ a).setCell ⟨w.heap.size + 1, 1, none⟩ b).setCell ⟨w.heap.size + 1, 2, none⟩ e) X (l ++ [p]) z30 true (.returned (.tuple #[.slice A5 n5 c5, .agg #[.int .i64 0, .int .i64 0, .slice none 0 0], .bool true])) := by
  subst hn
  have hw : ∀ k, k ≠ w.heap.size + 1 → (((w5.setCell ⟨w.heap.size + 1, 0, none⟩ a).setCell ⟨w.heap.size + 1, 1, none⟩ b).setCell ⟨w.heap.size + 1, 2, none⟩ e).heap[k]? = w5.heap[k]? := fun k hk => by
    rw [Below.heap_setCell _ _ _ k hk, Below.heap_setCell _ _ _ k hk, Below.heap_setCell _ _ _ k hk]
  have hb5 := below_after d.below (Nat.le_refl _) hb
  refine ⟨_, none, 0, rfl, ?_, Nat.le_refl _, Kd.C_nil _ _, ?_⟩
  · have hn1 := Kd.N_step (w1 := ((w5.setCell ⟨w.heap.size + 1, 0, none⟩ a).setCell ⟨w.heap.size + 1, 1, none⟩ b).setCell ⟨w.heap.size + 1, 2, none⟩ e) hr (fun k hk _ => hw k (by have := d.size; rcases hk with hk | hk <;> omega))
    have h2 := Kd.N_V (base' := 0) (Kd.N_mono (ok' := fun k => (X k ∨ w.heap.size ≤ k)) hn1 (fun k hk => by have := d.size; rcases hk with hk | hk; exact .inl hk.1; exact .inr (by omega)))
    rw [show ([] ++ l ++ [p] : List S30) = l ++ [p] by simp] at h2 ⊢
    exact h2
  · exact ((hb5.setCell (p := ⟨w.heap.size + 1, 0, none⟩) (by simp) _).setCell (p := ⟨w.heap.size + 1, 1, none⟩) (by simp) _).setCell (p := ⟨w.heap.size + 1, 2, none⟩) (by simp) _
theorem DoAt.T {w W0 W : World} {q : S30} {A : Option Addr} {c : Nat} (d : DoAt w W0 q A c) (h : Below W0.heap.size W0 W) :
    W.cell? ⟨w.heap.size + 1, 0, none⟩ = some (.int .i64 0) ∧ W.cell? ⟨w.heap.size + 1, 1, none⟩ = some (.int .i64 0) ∧ W.cell? ⟨w.heap.size + 1, 2, none⟩ = some (.slice none 0 0) ∧ W.frozen? ⟨w.heap.size + 1, 0, none⟩ = false ∧ W.frozen? ⟨w.heap.size + 1, 1, none⟩ = false ∧ W.frozen? ⟨w.heap.size + 1, 2, none⟩ = false := by
  have h3 := blk_below d.c1 h
  exact ⟨blk_cell h3 0, blk_cell h3 1, blk_cell h3 2, blk_frozen h3 _, blk_frozen h3 _, blk_frozen h3 _⟩
set_option maxHeartbeats 8000000 in
set_option maxRecDepth 100000 in
theorem refDo_yes1 (X : Nat → Prop) (l : List S30) (Al : Option Addr) (cl : Nat) (kd n : Int) (p : S30) (A : Option Addr) (c : Nat) (w : World) (hV : Kd.V k30 30 w 0 X (.slice Al l.length cl) l) (hF : Kd.F (Kd.int .u8) w X A p.f2.length p.f2) (hc : p.f2.length ≤ c) (hk : kd = 1) (hyes : putOk l p = true) :
    Calls Try.prog 12 #[.slice Al l.length cl, .agg #[.int .i64 kd, .int .i64 n, .int .i64 p.f0, .int .i64 p.f1, .slice A p.f2.length c]] w fun e w' => DoPost w w' X (l ++ [p]) z30 true e := by
  have HFL : Aside0 (Kd.F k30 w (fun k => X k ∧ k < w.heap.size) Al l.length l) := ⟨Kd.F_bound (Kd.V_F hV)⟩
  have HFK : Aside0 (Kd.FK k30 w (fun k => X k ∧ k < w.heap.size) p [.int .i64 p.f0, .int .i64 p.f1, .slice A p.f2.length c]) := ⟨k30_mkF w _ p hc (Kd.F_bound hF)⟩
  have hkb : (kd != 1) = false := by simpa using hk
  have hk1 : (kd == 1) = true := by simpa using hk
  obtain ⟨g0, g1, g2, g3, g4, g5⟩ := putOk_yes hyes
  have hll : l.length < 512 := by omega
  clear hV hF hc hk hyes
  go_enter Try.func12, Try.ntmps12
  go_wp2
  have hd := doAt w kd n p A c
  obtain ⟨W0, hW0⟩ : ∃ W0, W0 = doW w kd n p A c := ⟨_, rfl⟩
  rw [← hW0] at hd
  unfold doW at hW0
  rw [← hW0]
  clear hW0
  have HD := Aside0.mk hd
  have HSZ := Aside0.mk hd.size
  have HFL0 := Aside0.mk (Kd.F_below HFL.out hd.below)
  have HFK0 := Aside0.mk (Kd.FK_below HFK.out hd.below)
  have HB0 := Aside0.mk (Below.refl W0.heap.size W0)
  have HFRS : Aside0 (∀ {W : World}, Below W0.heap.size W0 W → ∀ k, W.heap.size ≤ k → (X k ∧ k < w.heap.size) ∨ W0.heap.size ≤ k) := ⟨fun h k hk => .inr (by have := h.size; omega)⟩
  clear hd
  go_region_held_law (fun w' : World => w'.cell? ⟨w.heap.size + 1 + 1 + 1, 0, none⟩ = some (.int .i64 p.f0) ∧ w'.cell? ⟨w.heap.size + 1 + 1 + 1, 1, none⟩ = some (.int .i64 p.f1) ∧ w'.cell? ⟨w.heap.size + 1 + 1 + 1, 2, none⟩ = some (.slice A p.f2.length c) ∧ w'.cell? ⟨w.heap.size + 1 + 1, 0, none⟩ = some (.int .i64 0) ∧ w'.cell? ⟨w.heap.size + 1 + 1, 1, none⟩ = some (.int .i64 0) ∧ w'.cell? ⟨w.heap.size + 1 + 1, 2, none⟩ = some (.slice none 0 0)) (first | (refine HD.out.S ?_; (repeat (first | (with_reducible exact HB5.out) | (with_reducible exact HB4.out) | (with_reducible exact HB0.out) | (with_reducible apply drew_below) | (with_reducible apply below_alloc))); done) | (exact HD.out.S5 HB5.out)) (first
    | (refine Kd.N_append_rows_step k30 (w0 := W0) W0.heap.size (by simp [Region.wanted]) (.tmp 84) (.tmp 85) 27 30 _ 40 rfl Try.underlying27 info30p (by decide) (by decide) (by decide) (.slice (some ⟨W0.heap.size, 0, none⟩) 0 0) [] l Al l.length cl (fun k => (X k ∧ k < w.heap.size) ∨ W0.heap.size ≤ k) (fun k => X k ∧ k < w.heap.size) (by first | rfl | (simp [Act.eval, Act.put]; done)) (by first | rfl | (simp [Act.eval, Act.put]; done)) (N_empty ?_ (by omega) (.inr (by omega))) (Kd.F_below HFL0.out ?_) (fun k hk => ⟨.inl hk, fun h => by simp [Value.ownBlock] at h; have := hk.2; have := HSZ.out; omega⟩) (HFRS.out ?_) ?_ (Below.size (B := W0.heap.size) ?_) (by simp; omega) ?_; (focus ((repeat (first | (refine blk_new' ?_; first | (with_reducible rfl) | (simp; done)) | (with_reducible refine blk_drew ?_) | (with_reducible refine blk_alloc ?_ _))); done)); (focus ((repeat (first | (with_reducible exact HB4.out) | (with_reducible exact HB0.out) | (with_reducible apply drew_below) | (with_reducible apply below_alloc))); done)); (focus ((repeat (first | (with_reducible exact HB4.out) | (with_reducible exact HB0.out) | (with_reducible apply drew_below) | (with_reducible apply below_alloc))); done)); (focus ((repeat (first | (with_reducible exact HB4.out) | (with_reducible exact HB0.out) | (with_reducible apply drew_below) | (with_reducible apply below_alloc))); done)); (focus ((repeat (first | (with_reducible exact HB4.out) | (with_reducible exact HB0.out) | (with_reducible apply drew_below) | (with_reducible apply below_alloc))); done)); intro v4 w4 hr4 hb4 hg4 hat4; obtain ⟨A4, c4, hv4⟩ := Kd.N_slice hr4; subst hv4; have HR4 := Aside0.mk hr4; have HB4 := Aside0.mk hb4; have HG4 := Aside0.mk hg4; have HAT4 := Aside0.mk hat4; clear hr4 hb4 hg4 hat4)
    | (refine Kd.N_append_rows_step k30 (w0 := W0) W0.heap.size (by simp [Region.wanted]) (.tmp 84) (.tmp 85) 27 30 _ 40 rfl Try.underlying27 info30p (by decide) (by decide) (by decide) (.slice (some ⟨W0.heap.size + 1, 0, none⟩) 0 0) [] l Al l.length cl (fun k => (X k ∧ k < w.heap.size) ∨ W0.heap.size ≤ k) (fun k => X k ∧ k < w.heap.size) (by first | rfl | (simp [Act.eval, Act.put]; done)) (by first | rfl | (simp [Act.eval, Act.put]; done)) (N_empty ?_ (by omega) (.inr (by omega))) (Kd.F_below HFL0.out ?_) (fun k hk => ⟨.inl hk, fun h => by simp [Value.ownBlock] at h; have := hk.2; have := HSZ.out; omega⟩) (HFRS.out ?_) ?_ (Below.size (B := W0.heap.size) ?_) (by simp; omega) ?_; (focus ((repeat (first | (refine blk_new' ?_; first | (with_reducible rfl) | (simp; done)) | (with_reducible refine blk_drew ?_) | (with_reducible refine blk_alloc ?_ _))); done)); (focus ((repeat (first | (with_reducible exact HB4.out) | (with_reducible exact HB0.out) | (with_reducible apply drew_below) | (with_reducible apply below_alloc))); done)); (focus ((repeat (first | (with_reducible exact HB4.out) | (with_reducible exact HB0.out) | (with_reducible apply drew_below) | (with_reducible apply below_alloc))); done)); (focus ((repeat (first | (with_reducible exact HB4.out) | (with_reducible exact HB0.out) | (with_reducible apply drew_below) | (with_reducible apply below_alloc))); done)); (focus ((repeat (first | (with_reducible exact HB4.out) | (with_reducible exact HB0.out) | (with_reducible apply drew_below) | (with_reducible apply below_alloc))); done)); intro v4 w4 hr4 hb4 hg4 hat4; obtain ⟨A4, c4, hv4⟩ := Kd.N_slice hr4; subst hv4; have HR4 := Aside0.mk hr4; have HB4 := Aside0.mk hb4; have HG4 := Aside0.mk hg4; have HAT4 := Aside0.mk hat4; clear hr4 hb4 hg4 hat4)
    | (refine Kd.N_append_step k30 (w0 := W0) W0.heap.size (by simp [Region.wanted]) (.tmp 86) (.tmp 88) 27 30 _ 40 rfl Try.underlying27 info30p (by decide) (by decide) (by decide) (.slice A4 ([] ++ l).length c4) ([] ++ l) p _ (fun k => (X k ∧ k < w.heap.size) ∨ W0.heap.size ≤ k) (fun k => X k ∧ k < w.heap.size) (by first | rfl | (simp [Act.eval, Act.put]; done)) (by first | rfl | (simp [Act.eval, Act.put]; done)) (Kd.FK_below HFK0.out HB4.out) (fun k hk => ⟨.inl hk, fun h => by have := Kd.N_base HR4.out k h.symm; have := HSZ.out; have := hk.2; omega⟩) (HFRS.out HB4.out) HR4.out HB4.out (Below.size HB4.out) (by simp only [List.nil_append, List.length_nil, Nat.zero_add]; omega) ?_; intro v5 w5 hr5 hb5 hg5 hat5; obtain ⟨A5, c5, hv5⟩ := Kd.N_slice hr5; subst hv5; obtain ⟨y0, y1, y2, y3, y4, y5⟩ := HD.out.T hb5; have HR5 := Aside0.mk hr5; have HB5 := Aside0.mk hb5; clear hr5 hb5 hg5 hat5)
    | (refine Kd.N_append_rows_step k30 (w0 := W0) W0.heap.size (by simp [Region.wanted]) (.tmp 86) (.tmp 88) 27 30 _ 40 rfl Try.underlying27 info30p (by decide) (by decide) (by decide) (.slice A4 ([] ++ l).length c4) ([] ++ l) [p] (some ⟨W0.heap.size + 1, 0, none⟩) 1 1 (fun k => (X k ∧ k < w.heap.size) ∨ W0.heap.size ≤ k) (fun k => (X k ∧ k < w.heap.size) ∨ k = W0.heap.size + 1) (by first | rfl | (simp [Act.eval, Act.put]; done)) (by first | rfl | (simp [Act.eval, Act.put]; done)) HR4.out (F_lit (cs := [.int .i64 p.f0, .int .i64 p.f1, .slice A p.f2.length c]) (blk_grown HG4.out ?_ (by simp [Value.ownBlock])) rfl (Kd.FK_below HFK0.out HB4.out)) (hok2 (g84 := W0.heap.size) HSZ.out (by omega) (by omega) (by first | (simp; done) | (simp; omega)) HAT4.out (fun k h => Kd.N_base HR4.out k h)) (HFRS.out HB4.out) HB4.out (Below.size HB4.out) (by simp only [List.nil_append, List.length_nil, Nat.zero_add]; omega) ?_; (focus ((repeat (first | (refine blk_new' ?_; first | (with_reducible rfl) | (simp; done)) | (with_reducible refine blk_drew ?_) | (with_reducible refine blk_alloc ?_ _))); done)); intro v5 w5 hr5 hb5 hg5 hat5; obtain ⟨A5, c5, hv5⟩ := Kd.N_slice hr5; subst hv5; obtain ⟨y0, y1, y2, y3, y4, y5⟩ := HD.out.T hb5; have HR5 := Aside0.mk hr5; have HB5 := Aside0.mk hb5; clear hr5 hb5 hg5 hat5)
    | (refine Kd.N_append_rows_step k30 (w0 := W0) W0.heap.size (by simp [Region.wanted]) (.tmp 86) (.tmp 88) 27 30 _ 40 rfl Try.underlying27 info30p (by decide) (by decide) (by decide) (.slice A4 ([] ++ l).length c4) ([] ++ l) [p] (some ⟨W0.heap.size, 0, none⟩) 1 1 (fun k => (X k ∧ k < w.heap.size) ∨ W0.heap.size ≤ k) (fun k => (X k ∧ k < w.heap.size) ∨ k = W0.heap.size) (by first | rfl | (simp [Act.eval, Act.put]; done)) (by first | rfl | (simp [Act.eval, Act.put]; done)) HR4.out (F_lit (cs := [.int .i64 p.f0, .int .i64 p.f1, .slice A p.f2.length c]) (blk_grown HG4.out ?_ (by simp [Value.ownBlock])) rfl (Kd.FK_below HFK0.out HB4.out)) (hok2 (g84 := W0.heap.size + 1) HSZ.out (by omega) (by omega) (by first | (simp; done) | (simp; omega)) HAT4.out (fun k h => Kd.N_base HR4.out k h)) (HFRS.out HB4.out) HB4.out (Below.size HB4.out) (by simp only [List.nil_append, List.length_nil, Nat.zero_add]; omega) ?_; (focus ((repeat (first | (refine blk_new' ?_; first | (with_reducible rfl) | (simp; done)) | (with_reducible refine blk_drew ?_) | (with_reducible refine blk_alloc ?_ _))); done)); intro v5 w5 hr5 hb5 hg5 hat5; obtain ⟨A5, c5, hv5⟩ := Kd.N_slice hr5; subst hv5; obtain ⟨y0, y1, y2, y3, y4, y5⟩ := HD.out.T hb5; have HR5 := Aside0.mk hr5; have HB5 := Aside0.mk hb5; clear hr5 hb5 hg5 hat5)
    | fail)
  all_goals go_wp2
  all_goals refine bodyPost_ret (results_tmp_cell_tmp rfl _ _ (w.heap.size + 1) 30 #[.int .i64 0, .int .i64 0, .slice none 0 0] (0, 0) _ rfl (blk_put (blk_put (blk_put (blk_below HD.out.c1 HB5.out) 0 _ rfl) 1 _ rfl) 2 _ rfl) Try.underlying30 rfl size30) rfl ?_
  all_goals exact doEnd1 HD.out HB5.out HR5.out (by simp)
end Go.Proofs.Ytncmkcggkgahnaa.PBag
