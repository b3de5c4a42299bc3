-- By the session: contracts proved by hand.
import Derived.Test.YtncmkcggkgahnaaHBag15
namespace Go.Proofs.Ytncmkcggkgahnaa.PBag
open Go.RowKit Go.Proofs.YtncmkcggkgahnaaW.PrintWords Go.Proofs.YtncmkcggkgahnaaW.PrintLast Go.Proofs.YtncmkcggkgahnaaW.PrintMore
set_option linter.unusedVariables false
set_option linter.unusedSimpArgs false
/-! the law's own do -/
theorem do_end {w W w2 : World} {base b : Nat} {P : Nat → Prop} {l0 l : List S30} (h0 : BagAt w base b P l0) (hW : Below w.heap.size w W) (hsz : W.heap.size = w.heap.size + 2) (h : BagStep W w2 base b P l) (a1 a2 a3 : Value) :
    BagStep w (((w2.setCell ⟨w.heap.size + 1, 0, none⟩ a1).setCell ⟨w.heap.size + 1, 1, none⟩ a2).setCell ⟨w.heap.size + 1, 2, none⟩ a3) base b P l := by
  obtain ⟨⟨P', h1, h2⟩, h3, h4⟩ := h
  have hbl := h0.lt
  have hP := h0.2.2.1
  have hbase : base ≤ w.heap.size := Nat.le_trans h0.1 (Nat.le_of_lt hbl)
  have far : ∀ k, k ≠ w.heap.size + 1 → (((w2.setCell ⟨w.heap.size + 1, 0, none⟩ a1).setCell ⟨w.heap.size + 1, 1, none⟩ a2).setCell ⟨w.heap.size + 1, 2, none⟩ a3).heap[k]? = w2.heap[k]? := fun k hk => by
    rw [Below.heap_setCell _ _ _ k hk, Below.heap_setCell _ _ _ k hk, Below.heap_setCell _ _ _ k hk]
  have hs : (((w2.setCell ⟨w.heap.size + 1, 0, none⟩ a1).setCell ⟨w.heap.size + 1, 1, none⟩ a2).setCell ⟨w.heap.size + 1, 2, none⟩ a3).heap.size = w2.heap.size := by simp only [World.setCell, Array.size_modify]
  have g1 : ∀ j : Nat, base ≤ (⟨w.heap.size + 1, j, none⟩ : Addr).block := fun j => by show base ≤ w.heap.size + 1; omega
  refine ⟨⟨P', h1.move (by rw [hs]; exact Nat.le_refl _) (fun k hk => far k ?_), fun k hk => ?_⟩, ⟨?_, fun k hk hn => ?_⟩, ?_⟩
  · rcases hk with hk | hk
    · omega
    · rcases h2 k hk with h5 | h5
      · have := (hP k h5).2; omega
      · omega
  · rcases h2 k hk with h5 | h5
    · exact .inl h5
    · exact .inr (by omega)
  · rw [hs]; have := h3.1; omega
  · rw [far k (by omega), h3.2 k (by omega) hn, hW.block k hk]
  · have h5 : Below base w w2 := ⟨h4.os.trans hW.os, h4.tape.trans hW.tape, h4.output.trans hW.output, Nat.le_trans hW.size h4.size, fun k hk => (h4.block k hk).trans (hW.block k (by omega))⟩
    exact ((h5.setCell (g1 0) a1).setCell (g1 1) a2).setCell (g1 2) a3
/-- What is told behind a step of the bag. -/
def StepPost (w w' : World) (base b : Nat) (P : Nat → Prop) (l' : List S30) (q : S30) (ok : Bool) (e : Ending) : Prop :=
  ∃ A c, e = .returned (.tuple #[.agg #[.int .i64 q.f0, .int .i64 q.f1, .slice A q.f2.length c], .bool ok]) ∧ q.f2.length ≤ c ∧ Kd.C (Kd.int .u8) w' A q.f2.length q.f2 ∧ BagStep w w' base b P l'
def doB (w : World) (kd n : Int) (p : S30) (A : Option Addr) (c : Nat) : World := (w.alloc (Obj.cells #[Value.int .i64 kd, Value.int .i64 n, Value.int .i64 p.f0, Value.int .i64 p.f1, Value.slice A p.f2.length c] 34)).alloc (Obj.cells #[Value.int .i64 0, Value.int .i64 0, Value.slice none 0 0] 30)
theorem doB_below (w : World) (kd n : Int) (p : S30) (A : Option Addr) (c : Nat) : Below w.heap.size w (doB w kd n p A c) := below_alloc (below_alloc (Below.refl _ _) _) _
theorem doB_size (w : World) (kd n : Int) (p : S30) (A : Option Addr) (c : Nat) : (doB w kd n p A c).heap.size = w.heap.size + 2 := by simp [doB]
theorem doB_1 (w : World) (kd n : Int) (p : S30) (A : Option Addr) (c : Nat) : (doB w kd n p A c).heap[w.heap.size + 1]? = some (.cells #[.int .i64 0, .int .i64 0, .slice none 0 0] 30 (0, 0)) := heap_alloc2_new w _ _
/-- The result's block, behind the bag's step. -/
theorem doB_kept {w w2 : World} {kd n : Int} {p : S30} {A : Option Addr} {c base b : Nat} {P : Nat → Prop} {l0 l : List S30} (h0 : BagAt w base b P l0) (h : BagStep (doB w kd n p A c) w2 base b P l) : w2.heap[w.heap.size + 1]? = some (.cells #[.int .i64 0, .int .i64 0, .slice none 0 0] 30 (0, 0)) := by
  have hbl := h0.lt
  rw [h.kept.2 _ (by rw [doB_size]; omega) (fun hn => by
    rcases hn with hn | hn
    · omega
    · have := (h0.2.2.1 _ hn).2; omega)]
  exact doB_1 w kd n p A c
set_option maxHeartbeats 8000000 in
set_option maxRecDepth 100000 in
theorem do_put (b base : Nat) (P : Nat → Prop) (l : List S30) (n : Int) (p : S30) (A : Option Addr) (c : Nat) (w : World) (h : BagAt w base b P l) (hr : Kd.C (Kd.int .u8) w A p.f2.length p.f2) (hc : p.f2.length ≤ c) (hl : p.f2.length < 140737488355328) :
    Calls Try.prog 11 #[.pointer (some ⟨b, 0, none⟩), .agg #[.int .i64 1, .int .i64 n, .int .i64 p.f0, .int .i64 p.f1, .slice A p.f2.length c]] w fun e w' => StepPost w w' base b P (putL l p) z30 (putOk l p) e := by
  have H0 := Aside0.mk h
  have HR := Aside0.mk hr
  have HC := Aside0.mk hc
  clear h hr hc
  go_enter Try.func11, Try.ntmps11
  go_wp2_with fail
  have hb := doB_below w 1 n p A c
  have hput := bag_Put b base P l p A c _ (H0.out.below hb) (Kd.C_below HR.out hb) HC.out hl
  refine hput.mono ?_
  clear hput
  rintro e w2 ⟨rfl, hs⟩
  have hk := doB_kept H0.out hs
  have HS := Aside0.mk (do_end H0.out hb (doB_size w 1 n p A c) hs (.int .i64 0) (.int .i64 0) (.slice none 0 0))
  have y0 : w2.cell? ⟨w.heap.size + 1, 0, none⟩ = some (.int .i64 0) := blk_cell hk 0
  have y1 : w2.cell? ⟨w.heap.size + 1, 1, none⟩ = some (.int .i64 0) := blk_cell hk 1
  have y2 : w2.cell? ⟨w.heap.size + 1, 2, none⟩ = some (.slice none 0 0) := blk_cell hk 2
  have f0 : w2.frozen? ⟨w.heap.size + 1, 0, none⟩ = false := blk_frozen hk _
  have f1 : w2.frozen? ⟨w.heap.size + 1, 1, none⟩ = false := blk_frozen hk _
  have f2 : w2.frozen? ⟨w.heap.size + 1, 2, none⟩ = false := blk_frozen hk _
  have HK := Aside0.mk hk
  clear hk hs hb
  go_wp2
  refine bodyPost_ret (results_cell_tmp rfl _ _ (w.heap.size + 1) 30 #[.int .i64 0, .int .i64 0, .slice none 0 0] (0, 0) _ rfl (blk_put (blk_put (blk_put HK.out 0 _ rfl) 1 _ rfl) 2 _ rfl) Try.underlying30 rfl size30) rfl ?_
  exact ⟨none, 0, rfl, Nat.le_refl _, Kd.C_nil _ _, HS.out⟩
end Go.Proofs.Ytncmkcggkgahnaa.PBag
