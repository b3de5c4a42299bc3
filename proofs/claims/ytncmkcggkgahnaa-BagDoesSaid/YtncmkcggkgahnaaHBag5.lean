-- By the session: contracts proved by hand.
import Derived.Test.YtncmkcggkgahnaaPBagx0
import Derived.Test.YtncmkcggkgahnaaHGen
import Derived.Lib.Hide
import Derived.ArgAppend
namespace Go.Proofs.Ytncmkcggkgahnaa.PBag
open Go.RowKit Go.Lib Go.Proofs.Ytncmkcggkgahnaa Go.Proofs.YtncmkcggkgahnaaW.PrintWords Go.Proofs.YtncmkcggkgahnaaW.PrintLast Go.Proofs.YtncmkcggkgahnaaW.PrintMore
set_option linter.unusedVariables false
set_option linter.unusedSimpArgs false
/-! slices.Delete: function 39 -/
theorem packets_Delete.info : (Try.prog.info? 30).map (fun i => (i.zero, i.size, i.bytes)) = some (some (.agg #[.int .i64 0, .int .i64 0, .slice none 0 0]), 3, 40) := by kernel_rfl
def packets_Delete.f (l0 : List S30) (a1 : Int) (a2 : Int) : Option (List S30) :=
  if 0 ≤ a1 ∧ a1 < a2 ∧ a2 ≤ (l0.length : Int) ∧ l0.length < 3518437208882 then some (l0.take a1.toNat ++ l0.drop a2.toNat) else none
set_option maxHeartbeats 4000000 in
set_option maxRecDepth 100000 in
theorem packets_Delete.cells (g c i j n : Nat) (cur : List Value) (w : World) (hn : n < 3518437208882) (hij : i < j) (hj : j ≤ n) (hnc : n ≤ c) (hc63 : c ≤ 9223372036854775807)
    (hg : w.heap[g]? = some (.cells cur.toArray 30 (0, 0))) (hcl : cur.length = (c) * 3) (h1c : ∀ v ∈ cur.take ((n) * 3), v.oneCell' = true) :
    Calls Try.prog 39 #[.slice (some ⟨g, 0, none⟩) n c, .int .i64 i, .int .i64 j] w fun e w' => e = .returned (.slice (some ⟨g, 0, none⟩) (i + (n - j)) c) ∧ w.grownBy w' (some g) ∧
      ∃ cur' : List Value, w'.heap[g]? = some (.cells cur'.toArray 30 (0, 0)) ∧ cur'.length = (c) * 3 ∧ cur'.take ((i + (n - j)) * 3) = cur.take ((i) * 3) ++ (cur.take ((n) * 3)).drop ((j) * 3) := by
  obtain ⟨i0, hi0, hz0, hzs, hzb⟩ : ∃ i0, Try.prog.info? 30 = some i0 ∧ i0.zero = some (.agg #[.int .i64 0, .int .i64 0, .slice none 0 0]) ∧ i0.size = 3 ∧ i0.bytes = 40 := by
    obtain ⟨i0, hi, h⟩ := Option.map_eq_some_iff.1 packets_Delete.info
    simp only [Prod.mk.injEq] at h
    exact ⟨i0, hi, h.1, h.2.1, h.2.2⟩
  obtain ⟨m, hm⟩ : ∃ m, m = i + (n - j) := ⟨_, rfl⟩
  rw [← hm]
  obtain ⟨X, hX⟩ : ∃ X, X = (cur.take ((n) * 3)).drop ((j) * 3) := ⟨_, rfl⟩
  have hXl : X.length = (n - j) * 3 := by rw [hX, List.length_drop, List.length_take]; omega
  have hsp := Gen.setCells_splice (w := w.drew) (cs := X) (o := (i) * 3) hg (by rw [hXl, hcl]; omega)
  obtain ⟨W1, hW1⟩ : ∃ W1, W1 = w.drew.setCells g ((i) * 3) X := ⟨_, rfl⟩
  rw [← hW1] at hsp
  obtain ⟨hg1, hb1⟩ := hsp
  have hr1 : ∀ ad, (0 < X.length → ad = (⟨g, (j) * 3, none⟩ : Addr)) → (Builtin.append_ #[27, 27] 27 #[.slice (some ⟨g, 0, none⟩) i c, .slice (some ad) (n - j) (c - j)]).run Try.prog w.drew = .ok (.slice (some ⟨g, 0, none⟩) m c) W1 := by
    intro ad had
    have h := run_append_room_cells (P := Try.prog) w.drew 27 27 30 i0 Try.underlying27 hi0 g 0 i c ad (n - j) (c - j) X (by rw [hXl, hzs]) (fun q u hu => by
      have hp : 0 < X.length := by
        rcases Nat.eq_zero_or_pos X.length with h0 | h0
        · rw [List.eq_nil_of_length_eq_zero h0] at hu; simp at hu
        · exact h0
      rw [had hp]
      exact Gen.seg_cells (w := w) hg hX q u hu) (fun v hv => h1c v (List.mem_of_mem_drop (by rw [hX] at hv; exact hv))) (by omega)
      (fun q hq => by
        show (w.cell? _).isSome = true
        rw [blk_cell hg, Array.getElem?_eq_getElem (by simp only [List.size_toArray, hcl, hzs]; rw [hXl] at hq; omega)]
        rfl) (fun q _ => blk_frozen (w := w) hg _)
    rw [h, hW1, hm, hzs]
    simp
  obtain ⟨w5, hr5, ⟨Z, hZ, hg5⟩, hb5⟩ := Gen.clear_run (P := Try.prog) (w := W1) 27 0 30 i0 (.agg #[.int .i64 0, .int .i64 0, .slice none 0 0]) 3 Try.underlying27 hi0 hz0 rfl (by decide) (some ⟨g, (m) * 3, none⟩) (n - m) (c - m) g ((m) * 3) _ 30 hg1 (fun _ => rfl) (by rw [length_splice _ _ _ (by rw [hXl, hcl]; omega), hcl]; omega)
  have hs := Gen.splice_del cur X Z ((i) * 3) ((m) * 3) (by rw [hXl]; omega) (by rw [hZ, hcl]; omega)
  have HF : Hid (∃ cur' : List Value, w5.heap[g]? = some (.cells cur'.toArray 30 (0, 0)) ∧ cur'.length = (c) * 3 ∧ cur'.take ((m) * 3) = cur.take ((i) * 3) ++ X) := ⟨_, hg5, by rw [hs.1, hcl], hs.2⟩
  have HB5 : Hid (w.grownBy w5 (some g)) := World.grownBy.trans (World.grownBy.trans (show w.grownBy w.drew (some g) from ⟨rfl, rfl, rfl, Nat.le_refl _, fun _ _ _ => rfl⟩) hb1) hb5
  rw [← hX]
  have HR1 := Lib.hid hr1
  have HXL := Lib.hid hXl
  have hmn : m < n := by omega
  clear hX hg hcl h1c hs hg5 hb5 hg1 hb1 hW1 hm hzs hzb hz0 hi0 hXl hr1 hZ
  have hij0 : ((i : Int) == (j : Int)) = false := by simp; omega
  have hb0 : (i : Int) ≤ (j : Int) := by omega
  have hb1 : (j : Int) ≤ (n : Int) := by omega
  have hb2 : (i : Int) ≤ (n : Int) := by omega
  have hb3 : ¬ (c = m) := by omega
  have hb4 : (m : Int) ≤ (n : Int) := by omega
  have hb5 : (n : Int) ≤ (c : Int) := by omega
  have hb6 : (i : Int) ≤ (c : Int) := by omega
  have hb7 : (j : Int) ≤ (c : Int) := by omega
  by_cases hcj : c = j
  · obtain rfl : n = c := by omega
    obtain rfl : n = j := by omega
    have hr1 := HR1.out ⟨g, 0, none⟩ (fun h => by rw [HXL.out] at h; omega)
    rw [Nat.sub_self] at hr1
    go_enter Try.func39, Try.ntmps39
    go_wp2
    go_region_law (refine Gen.step_append_run rfl _ _ 27 27 rfl _ _ (by simp [Act.eval, Act.put]) (by simp [Act.eval, Act.put]) hr1 ?_)
    go_wp2_with (with_reducible refine Gen.wpList_clear_run _ rfl _ 27 rfl _ rfl hr5 ?_)
    go_ret
    exact ⟨rfl, HB5.out, HF.out⟩
  · have hr1 := HR1.out ⟨g, (j) * 3, none⟩ (fun _ => rfl)
    go_enter Try.func39, Try.ntmps39
    go_wp2
    go_region_law (refine Gen.step_append_run rfl _ _ 27 27 rfl _ _ (by simp [Act.eval, Act.put]) (by simp [Act.eval, Act.put]) hr1 ?_)
    go_wp2_with (with_reducible refine Gen.wpList_clear_run _ rfl _ 27 rfl _ rfl hr5 ?_)
    go_ret
    exact ⟨rfl, HB5.out, HF.out⟩

set_option maxHeartbeats 4000000 in
set_option maxRecDepth 100000 in
theorem packets_Delete.row (base : Nat) (P0_ : Nat → Prop) (u9000_ : Value) (l0 : List S30) (i : Nat) (j : Nat) (w : World)
    (ho0 : Kd.R k30 30 w base P0_ u9000_ l0) (hij : i < j) (hj : j ≤ l0.length) (hlt : l0.length < 3518437208882) :
    Calls Try.prog 39 #[u9000_, .int .i64 (i : Int), .int .i64 (j : Int)] w fun e w' => ∃ v0_ : Value, e = .returned (v0_) ∧ Kd.R k30 30 w' base P0_ v0_ (l0.take i ++ l0.drop j) ∧ w.grownBy w' u9000_.ownBlock := by
  obtain ⟨g, c, rfl, hbg, hgl, _⟩ := Kd.R_form ho0 (by omega)
  obtain ⟨hk0, cs, hown, hr⟩ := ho0
  rcases hown.2 with ⟨hbad, _⟩ | ⟨g', c', cur, he, _, hh, hnc, hcm, hcs, htk⟩
  · cases hbad
  injection he with he1 _ he3
  injection he1 with he1
  injection he1 with he1
  subst he1; subst he3
  have hcl : cs.length = l0.length * 3 := hown.1
  have hone : ∀ v ∈ cs, v.oneCell' = true := Kd.reps_one hr (by decide) (fun p c hp => Kd.K_one k30 (Kd.K_of_M k30 hp))
  have htk' : cur.toList.take ((l0.length) * 3) = cs := by
    have z_ : cur.toList.take (l0.length * 3) = cs := htk
    exact z_
  have hinl : (l0.take i ++ l0.drop j).length = i + (l0.length - j) := by simp; omega
  have hg0 : w.heap[g]? = some (.cells cur.toList.toArray 30 (0, 0)) := by simpa using hh
  have hcl' : cur.toList.length = (c) * 3 := by
    have z_ : cur.toList.length = c * 3 := by rw [Array.length_toList]; exact hcs
    exact z_
  have hP0g : P0_ g := hk0 g (by simp [Value.ownBlock])
  refine (packets_Delete.cells g c i j l0.length cur.toList w hlt hij hj hnc (by simpa [maxLen] using hcm) hg0 hcl' (by rw [htk']; exact hone)).mono ?_
  rintro e w' ⟨rfl, hgr, cur', h1, h2, h3⟩
  rw [htk'] at h3
  rw [show cur.toList.take ((i) * 3) = cs.take ((i) * 3) from by rw [← htk', List.take_take, Nat.min_eq_left (by omega)]] at h3
  have hrep : Reps (Kd.M k30 w' base (fun k => P0_ k ∧ some k ≠ some g)) 3 (l0.take i ++ l0.drop j) (cs.take ((i) * 3) ++ cs.drop ((j) * 3)) := by
    have h4 := Kd.reps_append (Kd.reps_take (m := i) hr (by omega)) (Kd.reps_drop (m := j) hr)
    have h5 := h4.imp_ (fun _ _ hp => Kd.M_grown hp hgr (fun k hk => hk.2))
    have z_ : Reps (Kd.M k30 w' base (fun k => P0_ k ∧ some k ≠ some g)) 3 (l0.take i ++ l0.drop j) (cs.take (i * 3) ++ cs.drop (j * 3)) := h5
    exact z_
  refine ⟨_, rfl, ⟨fun k hk => ?_, _, ?_, hrep.imp_ (fun _ _ hp => hp)⟩, hgr⟩
  · have : g = k := by simpa [Value.ownBlock] using hk
    subst this
    exact hP0g
  · rw [hinl]
    refine ⟨by rw [← h3, List.length_take, h2]; show _ = (i + (l0.length - j)) * 3; omega, .inr ⟨g, c, cur'.toArray, rfl, hbg, h1, by omega, hcm, by show _ = c * 3; simp only [List.size_toArray]; omega, ?_⟩⟩
    show cur'.take ((i + (l0.length - j)) * 3) = _
    rw [← h3]
    -- done

end Go.Proofs.Ytncmkcggkgahnaa.PBag
