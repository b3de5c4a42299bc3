-- By the session: contracts proved by hand.
import Derived.Test.YtalpnhgkhhmmlaaPConfx0
import Derived.Test.YtalpnhgkhhmmlaaHGen
import Derived.Lib.Hide
namespace Go.Proofs.Ytalpnhgkhhmmlaa.PConf
open Go.RowKit Go.Lib Go.Proofs.Ytalpnhgkhhmmlaa Go.Proofs.YtalpnhgkhhmmlaaW.PrintWords Go.Proofs.YtalpnhgkhhmmlaaW.PrintLast Go.Proofs.YtalpnhgkhhmmlaaW.PrintMore
set_option linter.unusedVariables false
set_option linter.unusedSimpArgs false
/-! slices.Insert: function 48 -/
theorem slices_Insert_int_int.info : (Try.prog.info? 3).map (fun i => (i.zero, i.size, i.bytes)) = some (some (.int .i64 0), 1, 8) := by kernel_rfl
theorem slices_Insert_int_int.size : (Try.prog.info? 3).map (·.size) = some 1 := by kernel_rfl
theorem slices_Insert_int_int.sizeOf (w : World) : (Go.sizeOf 3).run Try.prog w = .ok 1 w := by
  obtain ⟨i0, hi, h⟩ := Option.map_eq_some_iff.1 slices_Insert_int_int.info
  simp only [Prod.mk.injEq] at h
  simp [Go.sizeOf, typeInfo, hi, h.2.1]
def slices_Insert_int_int.f (l0 : List Int) (a1 : Int) (l2 : List Int) : Option (List Int) :=
  if l2.length = 1 ∧ 0 ≤ a1 ∧ a1 ≤ (l0.length : Int) ∧ l0.length < 17592186044415 then some (l0.take a1.toNat ++ l2 ++ l0.drop a1.toNat) else none

set_option maxHeartbeats 4000000 in
set_option maxRecDepth 100000 in
theorem slices_Insert_int_int.room (g c c2 g2 i n : Nat) (cur vs cur2 : List Value) (w w0 : World) (hn : n < 17592186044415) (hi : i < n) (hnc : n ≤ c) (hc63 : c ≤ 9223372036854775807) (hB : Below w0.heap.size w0 w) (hbg : w0.heap.size ≤ g) (hne : g2 ≠ g)
    (hg : w.heap[g]? = some (.cells cur.toArray 3 (0, 0))) (hcl : cur.length = c) (hg2 : w.heap[g2]? = some (.cells cur2.toArray 3 (0, 0))) (hv : cur2.take 1 = vs) (hvl : vs.length = 1) (h1c : ∀ v ∈ cur.take (n), v.oneCell' = true) (h1v : ∀ v ∈ vs, v.oneCell' = true) (hroom : n + 1 ≤ c) :
    Calls Try.prog 48 #[.slice (some ⟨g, 0, none⟩) n c, .int .i64 i, .slice (some ⟨g2, 0, none⟩) 1 c2] w fun e w' => e = .returned (.slice (some ⟨g, 0, none⟩) (n + 1) c) ∧ w.grownBy w' (some g) ∧
      ∃ cur' : List Value, w'.heap[g]? = some (.cells cur'.toArray 3 (0, 0)) ∧ cur'.length = c ∧ cur'.take (n + 1) = cur.take (i) ++ vs ++ (cur.take (n)).drop (i) := by
  have hsa : w.shape? g2 = some (3, cur2.length) := by simp [World.shape?, hg2]
  have hsb : w.shape? g = some (3, cur.length) := by simp [World.shape?, hg]
  have hov : ∀ lb cb off, (callFunc 57 #[.slice (some ⟨g2, 0, none⟩) 1 c2, .slice (some ⟨g, off, none⟩) lb cb]).run Try.prog w = .ok (.value (.bool false)) w := fun lb cb off => by
    rw [run_callFunc_extern Try.func57 (by kernel_rfl) (by kernel_rfl) (by kernel_rfl) (e := Extern.SlicesOverlaps.overlaps #[33, 33] #[4]) (by kernel_rfl),
      Lib.run_overlaps_apart w 33 4 3 Try.underlying33 1 slices_Insert_int_int.sizeOf ⟨g2, 0, none⟩ ⟨g, off, none⟩ 1 c2 lb cb hne 3 3 _ _ hsa hsb (by omega) (blk_frozen hg2 _) (blk_frozen hg2 _)]
    rfl
  obtain ⟨X, hX⟩ : ∃ X, X = (cur.take (n)).drop (i) := ⟨_, rfl⟩
  have hXl : X.length = (n - i) * 1 := by rw [hX, List.length_drop, List.length_take]; omega
  obtain ⟨w4, hr4, hg4, hb4⟩ := Gen.copy_run (P := Try.prog) (w := w.drew) 33 33 3 3 1 Try.underlying33 slices_Insert_int_int.size (by decide) (some ⟨g, i + 1, none⟩) (some ⟨g, i, none⟩) (n - i) (c - (i + 1)) (n + 1 - i) (c - i) g (i + 1) cur 3 hg X
    (by rw [hXl]; congr 1; exact (Nat.min_eq_right (by omega)).symm) (fun _ => ⟨rfl, _, rfl, Gen.seg_cells hg (by simpa using hX)⟩) (by rw [hXl, hcl]; omega) (fun v hv => h1c v (List.mem_of_mem_drop (by rw [hX] at hv; exact hv)))
  have hg24 : w4.heap[g2]? = some (.cells cur2.toArray 3 (0, 0)) := blk_grown (w := w.drew) hg2 hb4 (by intro h; injection h with h; exact hne h)
  obtain ⟨w5, hr5, hg5, hb5⟩ := Gen.copy_run (P := Try.prog) (w := w4) 33 33 3 3 1 Try.underlying33 slices_Insert_int_int.size (by decide) (some ⟨g, i, none⟩) (some ⟨g2, 0, none⟩) (n + 1 - i) (c - i) 1 c2 g (i) _ 3 hg4 vs
    (by rw [hvl, show Nat.min 1 (n + 1 - i) = 1 from Nat.min_eq_left (by omega)]) (fun _ => ⟨rfl, _, rfl, Gen.seg_cells (b := 0) hg24 (by rw [List.drop_zero]; exact hv.symm)⟩) (by rw [length_splice _ _ _ (by rw [hXl, hcl]; omega), hvl, hcl]; omega) h1v
  have hs := Gen.splice_ins cur X vs (i) 1 (n) hX hvl (by rw [hcl]; omega) (by omega)
  have HF : Hid (∃ cur' : List Value, w5.heap[g]? = some (.cells cur'.toArray 3 (0, 0)) ∧ cur'.length = c ∧ cur'.take (n + 1) = cur.take (i) ++ vs ++ X) :=
    ⟨_, hg5, by rw [hs.1, hcl], hs.2⟩
  have HB5 : Hid (w.grownBy w5 (some g)) := World.grownBy.trans (World.grownBy.trans (show w.grownBy w.drew (some g) from ⟨rfl, rfl, rfl, Nat.le_refl _, fun _ _ _ => rfl⟩) hb4) hb5
  rw [← hX]
  clear hX hsa hsb hg hg2 hv hvl hcl h1c h1v hs hg5 hb5 hg24 hg4 hb4 hXl
  have hw1 : IntKind.i64.wrap ((i : Int) + 1) = (i : Int) + 1 := by rw [IntKind.wrap_i64]; omega
  have hb1 : (0 : Int) ≤ (i : Int) + 1 := by omega
  have hin : i ≤ n := by omega
  have htn : ((i : Int) + 1).toNat = i + 1 := by omega
  have hb2 : ¬ (c = i + 1) := by omega
  have hb3 : (i : Int) ≤ (n : Int) + 1 := by omega
  have hb4 : ¬ (c = i) := by omega
  have hb5 : ¬ ((i : Int) = (n : Int)) := by omega
  have hb6 : ((i : Int) == (n : Int)) = false := by simpa using hb5
  have hb7 : decide ((c : Int) < (n : Int) + 1) = false := by simpa using (by omega : ¬ ((c : Int) < (n : Int) + 1))
  go_enter Try.func48, Try.ntmps48
  go_wp2_with (simp only [hov])
  go_region_law (refine Gen.step_copy_run rfl _ _ 33 33 rfl _ _ (by simp [Act.eval, Act.put]) (by simp [Act.eval, Act.put]) hr4 ?_)
  go_wp2_with (with_reducible refine Gen.wpList_copy_run _ rfl (.tmp 80) (.tmp 81) 33 33 rfl _ _ rfl rfl hr5 ?_)
  go_ret
  exact ⟨rfl, HB5.out, HF.out⟩

set_option maxHeartbeats 4000000 in
set_option maxRecDepth 100000 in
theorem slices_Insert_int_int.grow (g c c2 g2 i n : Nat) (cur vs cur2 : List Value) (w w0 : World) (hn : n < 17592186044415) (hi : i < n) (hnc : n ≤ c) (hc63 : c ≤ 9223372036854775807) (hB : Below w0.heap.size w0 w) (hbg : w0.heap.size ≤ g) (hne : g2 ≠ g)
    (hg : w.heap[g]? = some (.cells cur.toArray 3 (0, 0))) (hcl : cur.length = c) (hg2 : w.heap[g2]? = some (.cells cur2.toArray 3 (0, 0))) (hv : cur2.take 1 = vs) (hvl : vs.length = 1) (h1c : ∀ v ∈ cur.take (n), v.oneCell' = true) (h1v : ∀ v ∈ vs, v.oneCell' = true) (hroom : c < n + 1) :
    Calls Try.prog 48 #[.slice (some ⟨g, 0, none⟩) n c, .int .i64 i, .slice (some ⟨g2, 0, none⟩) 1 c2] w fun e w' => ∃ c', e = .returned (.slice (some ⟨w.heap.size, 0, none⟩) (n + 1) c') ∧ n + 1 ≤ c' ∧ c' ≤ 9223372036854775807 ∧ w.grownBy w' none ∧
      ∃ cur' : List Value, w'.heap[w.heap.size]? = some (.cells cur'.toArray 3 (0, 0)) ∧ cur'.length = c' ∧ cur'.take (n + 1) = cur.take (i) ++ vs ++ (cur.take (n)).drop (i) := by
  obtain ⟨i0, hi0, hz0, hzs, hzb⟩ : ∃ i0, Try.prog.info? 3 = some i0 ∧ i0.zero = some (.int .i64 0) ∧ i0.size = 1 ∧ i0.bytes = 8 := by
    obtain ⟨i0, hi, h⟩ := Option.map_eq_some_iff.1 slices_Insert_int_int.info
    simp only [Prod.mk.injEq] at h
    exact ⟨i0, hi, h.1, h.2.1, h.2.2⟩
  obtain ⟨X, hX⟩ : ∃ X, X = (cur.take (n)).drop (i) := ⟨_, rfl⟩
  have hXl : X.length = (n - i) * 1 := by rw [hX, List.length_drop, List.length_take]; omega
  obtain ⟨G, hG⟩ : ∃ G, G = grownCap w (n + 1) c 3 := ⟨_, rfl⟩
  have hGn : n + 1 ≤ G := by rw [hG]; exact grownCap_ge w _ _ _
  have hG63 : G ≤ 9223372036854775807 := by
    have := grownCap_le_maxLen w (n + 1) c 3 (by unfold maxLen; omega)
    rw [← hG] at this
    unfold maxLen at this
    omega
  obtain ⟨ROW, hROW⟩ : ∃ ROW : List Value, ROW = ((cur.take (i)).toArray ++ Builtin.zeroCells (Value.cells (.int .i64 0)) (n + 1 - i) ++ Builtin.zeroCells (Value.cells (.int .i64 0)) (G - (n + 1))).toList := ⟨_, rfl⟩
  have hRl : ROW.length = G := by
    rw [hROW]
    simp [Builtin.zeroCells, Value.cells]
    omega
  have hRt : ROW.take (i) = cur.take (i) := by
    have hl : (cur.take (i)).length = i := by rw [List.length_take]; omega
    rw [hROW]
    simp only [Array.toList_append, List.append_assoc]
    rw [List.take_append_of_le_length (by rw [hl]; exact Nat.le_refl _)]
    exact List.take_of_length_le (by rw [hl]; exact Nat.le_refl _)
  have hik : i + (n + 1 - i) = n + 1 := by omega
  have hold : (Builtin.firstCells i0.size i (.slice (some ⟨g, 0, none⟩) i c)).run Try.prog w.drew = .ok (cur.take (i)).toArray w.drew := by
    rw [hzs]
    exact run_firstCells_some w.drew 1 i ⟨g, 0, none⟩ i c (cur.take (i)) (by rw [List.length_take]; omega) (Gen.seg_cells (w := w) (b := 0) hg (by rw [List.drop_zero]))
  have hrz : (Builtin.append_ #[33, 3] 33 #[.slice (some ⟨g, 0, none⟩) i c, .int .i64 ((n : Int) + 1 - (i : Int))]).run Try.prog w = .ok (.slice (some ⟨w.heap.size, 0, none⟩) (n + 1) G) (w.drew.alloc (.cells ROW.toArray 3)) := by
    have h := Lib.run_append_grow_zeros w 33 3 33 3 i0 _ .i64 .i64 Try.underlying33 Try.underlying3 hi0 hz0 (some ⟨g, 0, none⟩) i c _ hold (n + 1 - i) (by omega) (by omega) (by omega) (by omega) (by rw [hzb]; omega) (by rw [hzb, hik]; exact growslice_fits hroom (by omega))
    rw [hik, ← hG] at h
    rw [show (n : Int) + 1 - (i : Int) = ((n + 1 - i : Nat) : Int) by omega, h, hROW]
  obtain ⟨W1, hW1⟩ : ∃ W1, W1 = w.drew.alloc (.cells ROW.toArray 3) := ⟨_, rfl⟩
  rw [← hW1] at hrz
  have hN : W1.heap[w.heap.size]? = some (.cells ROW.toArray 3 (0, 0)) := by rw [hW1]; exact heap_alloc_new w.drew _
  have hb1 : w.grownBy W1 none := by rw [hW1]; exact World.grownBy.trans (show w.grownBy w.drew none from ⟨rfl, rfl, rfl, Nat.le_refl _, fun _ _ _ => rfl⟩) (World.grownBy_alloc _ _ _)
  have hg1 : W1.heap[g]? = some (.cells cur.toArray 3 (0, 0)) := blk_grown hg hb1 (by simp)
  have hg21 : W1.heap[g2]? = some (.cells cur2.toArray 3 (0, 0)) := blk_grown hg2 hb1 (by simp)
  have hgN : g ≠ w.heap.size := by have := blk_lt hg; omega
  have hg2N : g2 ≠ w.heap.size := by have := blk_lt hg2; omega
  obtain ⟨w4, hr4, hg4, hb4⟩ := Gen.copy_run (P := Try.prog) (w := W1) 33 33 3 3 1 Try.underlying33 slices_Insert_int_int.size (by decide) (some ⟨w.heap.size, i, none⟩) (some ⟨g2, 0, none⟩) (n + 1 - i) (G - i) 1 c2 w.heap.size (i) ROW 3 hN vs
    (by rw [hvl, show Nat.min 1 (n + 1 - i) = 1 from Nat.min_eq_left (by omega)]) (fun _ => ⟨rfl, _, rfl, Gen.seg_cells (b := 0) hg21 (by rw [List.drop_zero]; exact hv.symm)⟩) (by rw [hvl, hRl]; omega) h1v
  have hg5 : w4.heap[g]? = some (.cells cur.toArray 3 (0, 0)) := blk_grown hg1 hb4 (by intro h; injection h with h; exact hgN h)
  obtain ⟨w5, hr5, hg55, hb5⟩ := Gen.copy_run (P := Try.prog) (w := w4.drew) 33 33 3 3 1 Try.underlying33 slices_Insert_int_int.size (by decide) (some ⟨w.heap.size, i + 1, none⟩) (some ⟨g, i, none⟩) (n - i) (G - (i + 1)) (n - i) (c - i) w.heap.size (i + 1) _ 3 hg4 X
    (by rw [hXl, show Nat.min (n - i) (n - i) = n - i from Nat.min_self _]) (fun _ => ⟨rfl, _, rfl, Gen.seg_cells (w := w4) hg5 hX⟩) (by rw [length_splice _ _ _ (by rw [hvl, hRl]; omega), hXl, hRl]; omega) (fun v hv => h1c v (List.mem_of_mem_drop (by rw [hX] at hv; exact hv)))
  have hs := Gen.splice_ins2 ROW X vs (cur.take (i)) (i) 1 hRt (by rw [List.length_take]; omega) hvl (by rw [hXl, hRl]; omega)
  rw [hXl, show (i) + 1 + (n - i) * 1 = n + 1 from by omega] at hs
  have HF : Hid (∃ cur' : List Value, w5.heap[w.heap.size]? = some (.cells cur'.toArray 3 (0, 0)) ∧ cur'.length = G ∧ cur'.take (n + 1) = cur.take (i) ++ vs ++ X) :=
    ⟨_, hg55, by rw [hs.1, hRl], hs.2⟩
  have HB5 : Hid (w.grownBy w5 none) := ⟨hb5.os.trans (hb4.os.trans hb1.os), hb5.tape.trans (hb4.tape.trans hb1.tape), hb5.output.trans (hb4.output.trans hb1.output), Nat.le_trans hb1.size (Nat.le_trans hb4.size hb5.size), fun k hk _ => (hb5.block k (Nat.lt_of_lt_of_le hk (Nat.le_trans hb1.size hb4.size)) (by intro h; injection h with h; omega)).trans ((hb4.block k (Nat.lt_of_lt_of_le hk hb1.size) (by intro h; injection h with h; omega)).trans (hb1.block k hk (by simp)))⟩
  rw [← hX]
  clear hX hg hg2 hv hvl hcl h1c h1v hs hg5 hb5 hg55 hg4 hb4 hXl hW1 hN hb1 hg1 hg21 hROW hRl hRt hold hG hik hzs hzb hz0 hi0
  have hw1 : IntKind.i64.wrap ((i : Int) + 1) = (i : Int) + 1 := by rw [IntKind.wrap_i64]; omega
  have hb1 : (0 : Int) ≤ (i : Int) + 1 := by omega
  have hin : i ≤ n := by omega
  have htn : ((i : Int) + 1).toNat = i + 1 := by omega
  have hb2 : ¬ (G = i + 1) := by omega
  have hb2' : ¬ (G = i) := by omega
  have hb3 : (i : Int) ≤ (n : Int) + 1 := by omega
  have hb4 : ¬ (c = i) := by omega
  have hb5 : ¬ ((i : Int) = (n : Int)) := by omega
  have hb6 : ((i : Int) == (n : Int)) = false := by simpa using hb5
  have hb7 : decide ((c : Int) < (n : Int) + 1) = true := by simpa using (by omega : ((c : Int) < (n : Int) + 1))
  go_enter Try.func48, Try.ntmps48
  go_wp2_with (first
    | (at_builtin; refine Gen.wpList_append_run' _ rfl (.tmp 34) (.tmp 39) 33 3 rfl _ _ rfl rfl hrz ?_)
    | (with_reducible refine Gen.wpList_copy_run _ rfl (.tmp 43) (.tmp 44) 33 33 rfl _ _ rfl rfl hr4 ?_))
  go_region_law (refine Gen.step_copy_run rfl _ _ 33 33 rfl _ _ (by simp [Act.eval, Act.put]) (by simp [Act.eval, Act.put]) hr5 ?_)
  go_wp2
  go_ret
  exact ⟨_, rfl, hGn, hG63, HB5.out, HF.out⟩

set_option maxHeartbeats 4000000 in
set_option maxRecDepth 100000 in
theorem slices_Insert_int_int.calls (P0_ : Nat → Prop) (u9000_ : Value) (l0 : List Int) (a1 : Int) (P2_ : Nat → Prop) (u9001_ : Value) (l2 : List Int) (r : List Int) (w0 w : World) (hB : Below w0.heap.size w0 w)
    (ho0 : Kd.R (Kd.int .i64) 3 w w0.heap.size P0_ u9000_ l0) (hp0_2 : ∀ k_, P0_ k_ → ¬ P2_ k_) (ho2 : Kd.R (Kd.int .i64) 3 w w0.heap.size P2_ u9001_ l2) (hp2_0 : ∀ k_, P2_ k_ → ¬ P0_ k_) (h : slices_Insert_int_int.f l0 a1 l2 = some r) :
    Calls Try.prog 48 #[u9000_, .int .i64 a1, u9001_] w fun e w' => ∃ v0_ : Value, e = .returned (v0_) ∧ Kd.R (Kd.int .i64) 3 w' w0.heap.size (fun k_ => ((P0_ k_ ∨ P2_ k_) ∨ w.heap.size ≤ k_)) v0_ r ∧ Below w0.heap.size w0 w' ∧ Kept w w' (fun k_ => P0_ k_ ∨ P2_ k_) := by
  unfold slices_Insert_int_int.f at h
  by_cases hc : l2.length = 1 ∧ 0 ≤ a1 ∧ a1 ≤ (l0.length : Int) ∧ l0.length < 17592186044415
  case neg => rw [if_neg hc] at h; cases h
  rw [if_pos hc] at h
  obtain rfl := Option.some.inj h
  obtain ⟨hl2, h0, hle, hlt⟩ := hc
  clear h
  obtain ⟨i, rfl⟩ := Int.eq_ofNat_of_zero_le h0
  simp only [Int.toNat_natCast]
  have hle' : i ≤ l0.length := by omega
  obtain ⟨g2, c2, rfl, hb2, hg2l, _⟩ := Kd.R_form ho2 (by omega)
  rw [hl2] at ho2
  rcases Nat.lt_or_ge i l0.length with hi | hi
  · obtain ⟨g, c, rfl, hbg, hgl, _⟩ := Kd.R_form ho0 (by omega)
    have hne : g2 ≠ g := by
      rintro rfl
      exact hp0_2 g2 (ho0.1 g2 (by simp [Value.ownBlock])) (ho2.1 g2 (by simp [Value.ownBlock]))
    obtain ⟨hk0, cs, hown, hr⟩ := ho0
    obtain ⟨hk2, vs, hown2, hr2⟩ := ho2
    have h63 := hown
    rcases hown.2 with ⟨hbad, _⟩ | ⟨g', c', cur, he, _, hh, hnc, hcm, hcs, htk⟩
    · cases hbad
    injection he with he1 _ he3
    injection he1 with he1
    injection he1 with he1
    subst he1; subst he3
    rcases hown2.2 with ⟨hbad, _⟩ | ⟨g2', c2', cur2, he, _, hh2, hnc2, hcm2, hcs2, htk2⟩
    · cases hbad
    injection he with he1 _ he3
    injection he1 with he1
    injection he1 with he1
    subst he1; subst he3
    have hvl : vs.length = 1 := by
      have z_ : vs.length = l2.length * 1 := hown2.1
      rw [hl2] at z_
      omega
    have hcl : cs.length = l0.length * 1 := hown.1
    have hone : ∀ v ∈ cs, v.oneCell' = true := Kd.reps_one hr (by decide) (fun p c hp => Kd.K_one (Kd.int .i64) (Kd.K_of_M (Kd.int .i64) hp))
    have hone2 : ∀ v ∈ vs, v.oneCell' = true := Kd.reps_one hr2 (by decide) (fun p c hp => Kd.K_one (Kd.int .i64) (Kd.K_of_M (Kd.int .i64) hp))
    have htk' : cur.toList.take (l0.length) = cs := by
      have z_ : cur.toList.take (l0.length * 1) = cs := htk
      simpa only [Nat.mul_one] using z_
    have htk2' : cur2.toList.take 1 = vs := by
      have z_ : cur2.toList.take (l2.length * 1) = vs := htk2
      rwa [hl2] at z_
    have hrep : Reps (Kd.M (Kd.int .i64) w w0.heap.size (fun _ => True)) 1 (l0.take i ++ l2 ++ l0.drop i) (cs.take (i) ++ vs ++ cs.drop (i)) := by
      have h1 := Kd.reps_take (m := i) hr hle'
      have h2 := Kd.reps_drop (m := i) hr
      have h3 := Kd.reps_append (Kd.reps_append (h1.imp_ (fun _ _ hp => Kd.M_mono (Kd.int .i64) (fun _ _ => trivial) hp)) (hr2.imp_ (fun _ _ hp => Kd.M_mono (Kd.int .i64) (fun _ _ => trivial) hp))) (h2.imp_ (fun _ _ hp => Kd.M_mono (Kd.int .i64) (ok' := fun _ => True) (fun _ _ => trivial) hp))
      have z_ : Reps (Kd.M (Kd.int .i64) w w0.heap.size (fun _ => True)) 1 (l0.take i ++ l2 ++ l0.drop i) (cs.take (i * 1) ++ vs ++ cs.drop (i * 1)) := h3
      simpa only [Nat.mul_one] using z_
    have hinl : (l0.take i ++ l2 ++ l0.drop i).length = l0.length + 1 := by simp [hl2]; omega
    have fin : ∀ (W : World) (gg cc : Nat) (cur' : List Value), W.heap[gg]? = some (.cells cur'.toArray 3 (0, 0)) → cur'.length = cc → cur'.take (l0.length + 1) = cs.take (i) ++ vs ++ cs.drop (i) → w0.heap.size ≤ gg → l0.length + 1 ≤ cc → cc ≤ 9223372036854775807 → ((P0_ gg ∨ P2_ gg) ∨ w.heap.size ≤ gg) →
        Kd.R (Kd.int .i64) 3 W w0.heap.size (fun k_ => ((P0_ k_ ∨ P2_ k_) ∨ w.heap.size ≤ k_)) (.slice (some ⟨gg, 0, none⟩) (l0.length + 1) cc) (l0.take i ++ l2 ++ l0.drop i) := by
      intro W gg cc cur' h1 h2 h3 h4 h5 h6 h7
      refine ⟨fun k hk => ?_, _, ?_, hrep.imp_ (fun _ _ hp => hp)⟩
      · have : gg = k := by simpa [Value.ownBlock] using hk
        subst this
        exact h7
      · rw [hinl]
        refine ⟨by rw [← h3, List.length_take, h2]; show _ = (l0.length + 1) * 1; omega, .inr ⟨gg, cc, cur'.toArray, rfl, h4, h1, h5, by simpa [maxLen] using h6, by show _ = cc * 1; simp only [List.size_toArray]; omega, ?_⟩⟩
        show cur'.take ((l0.length + 1) * 1) = _
        rw [← h3]
        rw [Nat.mul_one]
    have hg0 : w.heap[g]? = some (.cells cur.toList.toArray 3 (0, 0)) := by simpa using hh
    have hg20 : w.heap[g2]? = some (.cells cur2.toList.toArray 3 (0, 0)) := by simpa using hh2
    have hcl' : cur.toList.length = c := by
      have z_ : cur.toList.length = c * 1 := by rw [Array.length_toList]; exact hcs
      simpa only [Nat.mul_one] using z_
    have hP0g : P0_ g := hk0 g (by simp [Value.ownBlock])
    rw [hl2]
    rcases Nat.lt_or_ge c (l0.length + 1) with hroom | hroom
    · refine (slices_Insert_int_int.grow g c c2 g2 i l0.length cur.toList vs cur2.toList w w0 hlt hi hnc (by simpa [maxLen] using hcm) hB hbg hne hg0 hcl' hg20 htk2' hvl (by rw [htk']; exact hone) hone2 hroom).mono ?_
      rintro e w' ⟨c', rfl, h5, h6, hgr, cur', h1, h2, h3⟩
      rw [htk'] at h3
      rw [show cur.toList.take (i) = cs.take (i) from by rw [← htk', List.take_take, Nat.min_eq_left (by omega)]] at h3
      exact ⟨_, rfl, fin w' _ _ cur' h1 h2 h3 hB.size h5 h6 (.inr (Nat.le_refl _)), hB.grown hgr hB.size (fun k hk => by cases hk), hgr.size, fun k hk _ => hgr.block k hk (by simp)⟩
    · refine (slices_Insert_int_int.room g c c2 g2 i l0.length cur.toList vs cur2.toList w w0 hlt hi hnc (by simpa [maxLen] using hcm) hB hbg hne hg0 hcl' hg20 htk2' hvl (by rw [htk']; exact hone) hone2 hroom).mono ?_
      rintro e w' ⟨rfl, hgr, cur', h1, h2, h3⟩
      rw [htk'] at h3
      rw [show cur.toList.take (i) = cs.take (i) from by rw [← htk', List.take_take, Nat.min_eq_left (by omega)]] at h3
      exact ⟨_, rfl, fin w' _ _ cur' h1 h2 h3 hbg hroom (by simpa [maxLen] using hcm) (.inl (.inl hP0g)), hB.grown hgr hB.size (fun k hk => by injection hk with hk; omega), hgr.size, fun k hk hn => hgr.block k hk (fun he => by injection he with he; subst he; exact hn (.inl hP0g))⟩
  · obtain rfl : i = l0.length := by omega
    have hrd := Kd.R_reads' ho2
    obtain ⟨A0, c0, rfl⟩ := Kd.R_slice ho0
    rw [List.take_length, List.drop_length, List.append_nil, hl2]
    have hC2 : Kd.C (Kd.int .i64) w (some ⟨g2, 0, none⟩) 1 l2 := by rw [← hl2]; exact hrd.2.2
    have HO := Aside0.mk (Kd.R_mono ho0 (ok' := fun k_ => ((P0_ k_ ∨ P2_ k_) ∨ w.heap.size ≤ k_)) (fun _ hk => .inl (.inl hk)))
    have HK : Aside0 (∀ n c k, (Value.slice A0 n c).ownBlock = some k → P0_ k) := ⟨fun n c k hk => ho0.1 k (by cases A0 <;> exact hk)⟩
    have HC := Aside0.mk hC2
    have HB := Aside0.mk hB
    have HL2 := Aside0.mk hl2
    have hn1 : ((l0.length : Int) == (l0.length : Int)) = true := by simp
    have hcc := (Kd.R_reads' ho0).2.1
    clear ho0 ho2 hrd hC2 hp0_2 hp2_0 hl2 hB hi hle hle' h0
    by_cases hcap : c0 = l0.length
    all_goals
      first | (subst hcap) | skip
      go_enter Try.func48, Try.ntmps48
      go_wp2_with (at_builtin; refine Kd.R_append_rows (Kd.int .i64) (Rr := fun x cs => Kd.K (Kd.int .i64) w x cs) (w0 := w0) w0.heap.size rfl (.tmp 23) (.tmp 24) 33 3 (.int .i64 0) 8 rfl Try.underlying33 slices_Insert_int_int.info rfl (by decide) (by omega) _ l0 l2 (some ⟨g2, 0, none⟩) 1 c2 (fun k_ => ((P0_ k_ ∨ P2_ k_) ∨ w.heap.size ≤ k_)) (fun _ => False) rfl rfl HO.out HC.out (fun x cs hx => hx) (fun _ hk => hk.elim) (fun _ hk => .inr hk) HB.out HB.out.size (by have := HL2.out; omega) ?_)
      intro v1 w1 hR1 hB1 hg1 hat1
      have HR1 := Aside0.mk hR1
      have HB1 := Aside0.mk hB1
      have HG1 := Aside0.mk hg1
      clear hR1 hB1 hg1 hat1
      go_wp2
      go_ret
      exact ⟨_, rfl, HR1.out, HB1.out, HG1.out.size, fun k hk hn => HG1.out.block k hk (fun he => hn (.inl (HK.out _ _ k he.symm)))⟩

end Go.Proofs.Ytalpnhgkhhmmlaa.PConf
