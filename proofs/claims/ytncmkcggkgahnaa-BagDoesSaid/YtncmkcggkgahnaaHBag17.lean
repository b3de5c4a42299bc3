-- By the session: contracts proved by hand.
import Derived.Test.YtncmkcggkgahnaaHBag16
namespace Go.Proofs.Ytncmkcggkgahnaa.PBag
open Go.RowKit Go.Proofs.YtncmkcggkgahnaaW.PrintWords Go.Proofs.YtncmkcggkgahnaaW.PrintLast Go.Proofs.YtncmkcggkgahnaaW.PrintMore
set_option linter.unusedVariables false
set_option linter.unusedSimpArgs false
/-- Bytes that are read lie in no packet's block. -/
theorem C_far30 {w : World} {g : Nat} {cs : Array Value} {A : Option Addr} {xs : List Int} (h : Kd.C (Kd.int .u8) w A xs.length xs) (hg : w.heap[g]? = some (.cells cs 30 (0, 0))) (hn : ∀ i : Nat, ∀ z : Int, cs[i]? ≠ some (.int .u8 z)) (j : Nat) (u : Value) :
    Kd.C (Kd.int .u8) (w.setCell ⟨g, j, none⟩ u) A xs.length xs := by
  obtain ⟨h1, h2, h3⟩ := h
  refine ⟨h1, h2, fun hp => ?_⟩
  obtain ⟨ad, e, hc⟩ := h3 hp
  refine ⟨ad, e, fun k p hk => ?_⟩
  obtain ⟨c, hl, hK, hcell⟩ := hc k p hk
  refine ⟨c, hl, hK, fun i v hv => ?_⟩
  have h5 := hcell i v hv
  rw [cell_far ?_, h5]
  intro hb
  have hb' : (ad.add (k * (Kd.int .u8).sz + i)).block = g := hb
  have hv8 : ∃ z : Int, v = .int .u8 z := by
    have : c = [Value.int .u8 p] := hK
    rw [this] at hv
    rcases i with _ | i
    · exact ⟨p, by simpa using hv.symm⟩
    · simp at hv
  obtain ⟨z, rfl⟩ := hv8
  unfold World.cell? at h5
  rw [hb', hg] at h5
  simp only at h5
  split at h5
  · cases h5
  · exact hn _ _ h5
set_option maxHeartbeats 8000000 in
set_option maxRecDepth 100000 in
theorem do_lose (b base : Nat) (P : Nat → Prop) (l : List S30) (n : Int) (p : S30) (A : Option Addr) (c : Nat) (w : World) (h : BagAt w base b P l) (hlt : l.length < 3518437208882) :
    Calls Try.prog 11 #[.pointer (some ⟨b, 0, none⟩), .agg #[.int .i64 3, .int .i64 n, .int .i64 p.f0, .int .i64 p.f1, .slice A p.f2.length c]] w fun e w' => StepPost w w' base b P (takeL l n) z30 (decide (0 ≤ n ∧ n < (l.length : Int))) e := by
  have H0 := Aside0.mk h
  clear h
  go_enter Try.func11, Try.ntmps11
  go_wp2_with fail
  have hb := doB_below w 3 n p A c
  have hput := bag_Lose b base P l n _ (H0.out.below hb) hlt
  refine hput.mono ?_
  clear hput
  rintro e w2 ⟨rfl, hs⟩
  have hk := doB_kept H0.out hs
  have HS := Aside0.mk (do_end H0.out hb (doB_size w 3 n p A c) hs (.int .i64 0) (.int .i64 0) (.slice none 0 0))
  have y0 : w2.cell? ⟨w.heap.size + 1, 0, none⟩ = some (.int .i64 0) := blk_cell hk 0
  have y1 : w2.cell? ⟨w.heap.size + 1, 1, none⟩ = some (.int .i64 0) := blk_cell hk 1
  have y2 : w2.cell? ⟨w.heap.size + 1, 2, none⟩ = some (.slice none 0 0) := blk_cell hk 2
  have f0 : w2.frozen? ⟨w.heap.size + 1, 0, none⟩ = false := blk_frozen hk _
  have f1 : w2.frozen? ⟨w.heap.size + 1, 1, none⟩ = false := blk_frozen hk _
  have f2 : w2.frozen? ⟨w.heap.size + 1, 2, none⟩ = false := blk_frozen hk _
  have HK := Aside0.mk hk
  clear hk hs hb
  go_wp2
  refine bodyPost_ret (results_cell_tmp rfl _ _ (w.heap.size + 1) 30 #[.int .i64 0, .int .i64 0, .slice none 0 0] (0, 0) _ rfl (blk_put (blk_put (blk_put HK.out 0 _ rfl) 1 _ rfl) 2 _ rfl) Try.underlying30 rfl size30) rfl ?_
  exact ⟨none, 0, by simp [z30], Nat.le_refl _, Kd.C_nil _ _, HS.out⟩
set_option maxHeartbeats 8000000 in
set_option maxRecDepth 100000 in
theorem do_twice (b base : Nat) (P : Nat → Prop) (l : List S30) (n : Int) (p : S30) (A : Option Addr) (c : Nat) (w : World) (h : BagAt w base b P l) (hd : ∀ p ∈ l, p.f2.length < 140737488355328) :
    Calls Try.prog 11 #[.pointer (some ⟨b, 0, none⟩), .agg #[.int .i64 4, .int .i64 n, .int .i64 p.f0, .int .i64 p.f1, .slice A p.f2.length c]] w fun e w' => StepPost w w' base b P (twiceL l n) z30 (twiceOk l n) e := by
  have H0 := Aside0.mk h
  clear h
  go_enter Try.func11, Try.ntmps11
  go_wp2_with fail
  have hb := doB_below w 4 n p A c
  have hput := bag_Twice b base P l n _ (H0.out.below hb) hd
  refine hput.mono ?_
  clear hput
  rintro e w2 ⟨rfl, hs⟩
  have hk := doB_kept H0.out hs
  have HS := Aside0.mk (do_end H0.out hb (doB_size w 4 n p A c) hs (.int .i64 0) (.int .i64 0) (.slice none 0 0))
  have y0 : w2.cell? ⟨w.heap.size + 1, 0, none⟩ = some (.int .i64 0) := blk_cell hk 0
  have y1 : w2.cell? ⟨w.heap.size + 1, 1, none⟩ = some (.int .i64 0) := blk_cell hk 1
  have y2 : w2.cell? ⟨w.heap.size + 1, 2, none⟩ = some (.slice none 0 0) := blk_cell hk 2
  have f0 : w2.frozen? ⟨w.heap.size + 1, 0, none⟩ = false := blk_frozen hk _
  have f1 : w2.frozen? ⟨w.heap.size + 1, 1, none⟩ = false := blk_frozen hk _
  have f2 : w2.frozen? ⟨w.heap.size + 1, 2, none⟩ = false := blk_frozen hk _
  have HK := Aside0.mk hk
  clear hk hs hb
  go_wp2
  refine bodyPost_ret (results_cell_tmp rfl _ _ (w.heap.size + 1) 30 #[.int .i64 0, .int .i64 0, .slice none 0 0] (0, 0) _ rfl (blk_put (blk_put (blk_put HK.out 0 _ rfl) 1 _ rfl) 2 _ rfl) Try.underlying30 rfl size30) rfl ?_
  exact ⟨none, 0, rfl, Nat.le_refl _, Kd.C_nil _ _, HS.out⟩
set_option maxHeartbeats 8000000 in
set_option maxRecDepth 100000 in
theorem do_take (b base : Nat) (P : Nat → Prop) (l : List S30) (n : Int) (p : S30) (A : Option Addr) (c : Nat) (w : World) (h : BagAt w base b P l) (hlt : l.length < 3518437208882) :
    Calls Try.prog 11 #[.pointer (some ⟨b, 0, none⟩), .agg #[.int .i64 2, .int .i64 n, .int .i64 p.f0, .int .i64 p.f1, .slice A p.f2.length c]] w fun e w' => StepPost w w' base b P (takeL l n) (takeP l n) (decide (0 ≤ n ∧ n < (l.length : Int))) e := by
  have H0 := Aside0.mk h
  clear h
  go_enter Try.func11, Try.ntmps11
  go_wp2_with fail
  have hb := doB_below w 2 n p A c
  have hput := bag_Take b base P l n _ (H0.out.below hb) hlt
  refine hput.mono ?_
  clear hput
  rintro e w2 ⟨A2, c2, rfl, hl2, hC2, hs⟩
  have hk := doB_kept H0.out hs
  have HS := Aside0.mk (do_end H0.out hb (doB_size w 2 n p A c) hs (.int .i64 (takeP l n).f0) (.int .i64 (takeP l n).f1) (.slice A2 (takeP l n).f2.length c2))
  have HL2 := Aside0.mk hl2
  have nu : ∀ (cs : List Value), (∀ v ∈ cs, ∀ z : Int, v ≠ .int .u8 z) → ∀ i : Nat, ∀ z : Int, cs.toArray[i]? ≠ some (.int .u8 z) := fun cs hcs i z he => hcs _ (List.mem_of_getElem? (by simpa using he)) z rfl
  have c1 := C_far30 hC2 hk (nu _ (by intro v hv z; simp at hv; rcases hv with rfl | rfl | rfl <;> simp)) 0 (.int .i64 (takeP l n).f0)
  have c3 := C_far30 c1 (blk_put hk 0 (.int .i64 (takeP l n).f0) rfl) (nu _ (by intro v hv z; simp at hv; rcases hv with rfl | rfl | rfl <;> simp)) 1 (.int .i64 (takeP l n).f1)
  have c4 := C_far30 c3 (blk_put (blk_put hk 0 (.int .i64 (takeP l n).f0) rfl) 1 (.int .i64 (takeP l n).f1) rfl) (nu _ (by intro v hv z; simp at hv; rcases hv with rfl | rfl | rfl <;> simp)) 2 (.slice A2 (takeP l n).f2.length c2)
  have HC4 := Aside0.mk c4
  clear hl2 hC2 c1 c3 c4 nu
  have y0 : w2.cell? ⟨w.heap.size + 1, 0, none⟩ = some (.int .i64 0) := blk_cell hk 0
  have y1 : w2.cell? ⟨w.heap.size + 1, 1, none⟩ = some (.int .i64 0) := blk_cell hk 1
  have y2 : w2.cell? ⟨w.heap.size + 1, 2, none⟩ = some (.slice none 0 0) := blk_cell hk 2
  have f0 : w2.frozen? ⟨w.heap.size + 1, 0, none⟩ = false := blk_frozen hk _
  have f1 : w2.frozen? ⟨w.heap.size + 1, 1, none⟩ = false := blk_frozen hk _
  have f2 : w2.frozen? ⟨w.heap.size + 1, 2, none⟩ = false := blk_frozen hk _
  have HK := Aside0.mk hk
  clear hk hs hb
  go_wp2
  refine bodyPost_ret (results_cell_tmp rfl _ _ (w.heap.size + 1) 30 #[.int .i64 (takeP l n).f0, .int .i64 (takeP l n).f1, .slice A2 (takeP l n).f2.length c2] (0, 0) _ rfl (blk_put (blk_put (blk_put HK.out 0 _ rfl) 1 _ rfl) 2 _ rfl) Try.underlying30 rfl size30) rfl ?_
  exact ⟨A2, c2, by simp, HL2.out, HC4.out, HS.out⟩
set_option maxHeartbeats 8000000 in
set_option maxRecDepth 100000 in
theorem do_none (b base : Nat) (P : Nat → Prop) (l : List S30) (kd n : Int) (p : S30) (A : Option Addr) (c : Nat) (w : World) (h : BagAt w base b P l) (h1 : kd ≠ 1) (h2 : kd ≠ 2) (h3 : kd ≠ 3) (h4 : kd ≠ 4) :
    Calls Try.prog 11 #[.pointer (some ⟨b, 0, none⟩), .agg #[.int .i64 kd, .int .i64 n, .int .i64 p.f0, .int .i64 p.f1, .slice A p.f2.length c]] w fun e w' => StepPost w w' base b P l z30 false e := by
  have H0 := Aside0.mk h
  have b1 : (kd == 1) = false := by simpa using h1
  have b2 : (kd == 2) = false := by simpa using h2
  have b3 : (kd == 3) = false := by simpa using h3
  have b4 : (kd == 4) = false := by simpa using h4
  have HB := Aside0.mk (doB_below w kd n p A c)
  have HK := Aside0.mk (doB_1 w kd n p A c)
  clear h h1 h2 h3 h4
  go_enter Try.func11, Try.ntmps11
  go_wp2
  refine bodyPost_ret (results_cell_tmp rfl _ _ (w.heap.size + 1) 30 #[.int .i64 0, .int .i64 0, .slice none 0 0] (0, 0) _ rfl HK.out Try.underlying30 rfl size30) rfl ?_
  exact ⟨none, 0, rfl, Nat.le_refl _, Kd.C_nil _ _, BagStep.quiet H0.out HB.out⟩
end Go.Proofs.Ytncmkcggkgahnaa.PBag
