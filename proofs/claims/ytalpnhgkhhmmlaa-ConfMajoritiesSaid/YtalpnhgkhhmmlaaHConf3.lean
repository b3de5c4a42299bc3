-- By the session: contracts proved by hand.
import Derived.Test.YtalpnhgkhhmmlaaPConfx0
import Derived.Test.YtalpnhgkhhmmlaaHGen
import Derived.Lib.Hide
import Derived.ArgAppend
namespace Go.Proofs.Ytalpnhgkhhmmlaa.PConf
open Go.RowKit Go.Lib Go.Proofs.Ytalpnhgkhhmmlaa Go.Proofs.YtalpnhgkhhmmlaaW.PrintWords Go.Proofs.YtalpnhgkhhmmlaaW.PrintLast Go.Proofs.YtalpnhgkhhmmlaaW.PrintMore
set_option linter.unusedVariables false
set_option linter.unusedSimpArgs false
/-! slices.Delete: function 49 -/
theorem slices_Delete_int_int.info : (Try.prog.info? 3).map (fun i => (i.zero, i.size, i.bytes)) = some (some (.int .i64 0), 1, 8) := by kernel_rfl
def slices_Delete_int_int.f (l0 : List Int) (a1 : Int) (a2 : Int) : Option (List Int) :=
  if 0 ≤ a1 ∧ a1 < a2 ∧ a2 ≤ (l0.length : Int) ∧ l0.length < 17592186044415 then some (l0.take a1.toNat ++ l0.drop a2.toNat) else none
set_option maxHeartbeats 4000000 in
set_option maxRecDepth 100000 in
theorem slices_Delete_int_int.cells (g c i j n : Nat) (cur : List Value) (w : World) (hn : n < 17592186044415) (hij : i < j) (hj : j ≤ n) (hnc : n ≤ c) (hc63 : c ≤ 9223372036854775807)
    (hg : w.heap[g]? = some (.cells cur.toArray 3 (0, 0))) (hcl : cur.length = c) (h1c : ∀ v ∈ cur.take (n), v.oneCell' = true) :
    Calls Try.prog 49 #[.slice (some ⟨g, 0, none⟩) n c, .int .i64 i, .int .i64 j] w fun e w' => e = .returned (.slice (some ⟨g, 0, none⟩) (i + (n - j)) c) ∧ w.grownBy w' (some g) ∧
      ∃ cur' : List Value, w'.heap[g]? = some (.cells cur'.toArray 3 (0, 0)) ∧ cur'.length = c ∧ cur'.take (i + (n - j)) = cur.take (i) ++ (cur.take (n)).drop (j) := by
  obtain ⟨i0, hi0, hz0, hzs, hzb⟩ : ∃ i0, Try.prog.info? 3 = some i0 ∧ i0.zero = some (.int .i64 0) ∧ i0.size = 1 ∧ i0.bytes = 8 := by
    obtain ⟨i0, hi, h⟩ := Option.map_eq_some_iff.1 slices_Delete_int_int.info
    simp only [Prod.mk.injEq] at h
    exact ⟨i0, hi, h.1, h.2.1, h.2.2⟩
  obtain ⟨m, hm⟩ : ∃ m, m = i + (n - j) := ⟨_, rfl⟩
  rw [← hm]
  obtain ⟨X, hX⟩ : ∃ X, X = (cur.take (n)).drop (j) := ⟨_, rfl⟩
  have hXl : X.length = (n - j) * 1 := by rw [hX, List.length_drop, List.length_take]; omega
  have hsp := Gen.setCells_splice (w := w.drew) (cs := X) (o := i) hg (by rw [hXl, hcl]; omega)
  obtain ⟨W1, hW1⟩ : ∃ W1, W1 = w.drew.setCells g (i) X := ⟨_, rfl⟩
  rw [← hW1] at hsp
  obtain ⟨hg1, hb1⟩ := hsp
  have hr1 : ∀ ad, (0 < X.length → ad = (⟨g, j, none⟩ : Addr)) → (Builtin.append_ #[33, 33] 33 #[.slice (some ⟨g, 0, none⟩) i c, .slice (some ad) (n - j) (c - j)]).run Try.prog w.drew = .ok (.slice (some ⟨g, 0, none⟩) m c) W1 := by
    intro ad had
    have h := run_append_room_cells (P := Try.prog) w.drew 33 33 3 i0 Try.underlying33 hi0 g 0 i c ad (n - j) (c - j) X (by rw [hXl, hzs]) (fun q u hu => by
      have hp : 0 < X.length := by
        rcases Nat.eq_zero_or_pos X.length with h0 | h0
        · rw [List.eq_nil_of_length_eq_zero h0] at hu; simp at hu
        · exact h0
      rw [had hp]
      exact Gen.seg_cells (w := w) hg hX q u hu) (fun v hv => h1c v (List.mem_of_mem_drop (by rw [hX] at hv; exact hv))) (by omega)
      (fun q hq => by
        show (w.cell? _).isSome = true
        rw [blk_cell hg, Array.getElem?_eq_getElem (by simp only [List.size_toArray, hcl, hzs]; rw [hXl] at hq; omega)]
        rfl) (fun q _ => blk_frozen (w := w) hg _)
    rw [h, hW1, hm, hzs]
    simp
  obtain ⟨w5, hr5, ⟨Z, hZ, hg5⟩, hb5⟩ := Gen.clear_run (P := Try.prog) (w := W1) 33 0 3 i0 (.int .i64 0) 1 Try.underlying33 hi0 hz0 rfl (by decide) (some ⟨g, m, none⟩) (n - m) (c - m) g (m) _ 3 hg1 (fun _ => rfl) (by rw [length_splice _ _ _ (by rw [hXl, hcl]; omega), hcl]; omega)
  have hs := Gen.splice_del cur X Z (i) (m) (by rw [hXl]; omega) (by rw [hZ, hcl]; omega)
  have HF : Hid (∃ cur' : List Value, w5.heap[g]? = some (.cells cur'.toArray 3 (0, 0)) ∧ cur'.length = c ∧ cur'.take (m) = cur.take (i) ++ X) := ⟨_, hg5, by rw [hs.1, hcl], hs.2⟩
  have HB5 : Hid (w.grownBy w5 (some g)) := World.grownBy.trans (World.grownBy.trans (show w.grownBy w.drew (some g) from ⟨rfl, rfl, rfl, Nat.le_refl _, fun _ _ _ => rfl⟩) hb1) hb5
  rw [← hX]
  have HR1 := Lib.hid hr1
  have HXL := Lib.hid hXl
  have hmn : m < n := by omega
  clear hX hg hcl h1c hs hg5 hb5 hg1 hb1 hW1 hm hzs hzb hz0 hi0 hXl hr1 hZ
  have hij0 : ((i : Int) == (j : Int)) = false := by simp; omega
  have hb0 : (i : Int) ≤ (j : Int) := by omega
  have hb1 : (j : Int) ≤ (n : Int) := by omega
  have hb2 : (i : Int) ≤ (n : Int) := by omega
  have hb3 : ¬ (c = m) := by omega
  have hb4 : (m : Int) ≤ (n : Int) := by omega
  have hb5 : (n : Int) ≤ (c : Int) := by omega
  have hb6 : (i : Int) ≤ (c : Int) := by omega
  have hb7 : (j : Int) ≤ (c : Int) := by omega
  by_cases hcj : c = j
  · obtain rfl : n = c := by omega
    obtain rfl : n = j := by omega
    have hr1 := HR1.out ⟨g, 0, none⟩ (fun h => by rw [HXL.out] at h; omega)
    rw [Nat.sub_self] at hr1
    go_enter Try.func49, Try.ntmps49
    go_wp2
    go_region_law (refine Gen.step_append_run rfl _ _ 33 33 rfl _ _ (by simp [Act.eval, Act.put]) (by simp [Act.eval, Act.put]) hr1 ?_)
    go_wp2_with (with_reducible refine Gen.wpList_clear_run _ rfl _ 33 rfl _ rfl hr5 ?_)
    go_ret
    exact ⟨rfl, HB5.out, HF.out⟩
  · have hr1 := HR1.out ⟨g, j, none⟩ (fun _ => rfl)
    go_enter Try.func49, Try.ntmps49
    go_wp2
    go_region_law (refine Gen.step_append_run rfl _ _ 33 33 rfl _ _ (by simp [Act.eval, Act.put]) (by simp [Act.eval, Act.put]) hr1 ?_)
    go_wp2_with (with_reducible refine Gen.wpList_clear_run _ rfl _ 33 rfl _ rfl hr5 ?_)
    go_ret
    exact ⟨rfl, HB5.out, HF.out⟩

set_option maxHeartbeats 4000000 in
set_option maxRecDepth 100000 in
theorem slices_Delete_int_int.calls (P0_ : Nat → Prop) (u9000_ : Value) (l0 : List Int) (a1 : Int) (a2 : Int) (r : List Int) (w0 w : World) (hB : Below w0.heap.size w0 w)
    (ho0 : Kd.R (Kd.int .i64) 3 w w0.heap.size P0_ u9000_ l0) (h : slices_Delete_int_int.f l0 a1 a2 = some r) :
    Calls Try.prog 49 #[u9000_, .int .i64 a1, .int .i64 a2] w fun e w' => ∃ v0_ : Value, e = .returned (v0_) ∧ Kd.R (Kd.int .i64) 3 w' w0.heap.size (fun k_ => (P0_ k_ ∨ w.heap.size ≤ k_)) v0_ r ∧ Below w0.heap.size w0 w' ∧ Kept w w' (fun k_ => P0_ k_) := by
  unfold slices_Delete_int_int.f at h
  by_cases hc : 0 ≤ a1 ∧ a1 < a2 ∧ a2 ≤ (l0.length : Int) ∧ l0.length < 17592186044415
  case neg => rw [if_neg hc] at h; cases h
  rw [if_pos hc] at h
  obtain rfl := Option.some.inj h
  obtain ⟨h0, hij, hle, hlt⟩ := hc
  clear h
  obtain ⟨i, rfl⟩ := Int.eq_ofNat_of_zero_le h0
  obtain ⟨j, rfl⟩ := Int.eq_ofNat_of_zero_le (show 0 ≤ a2 by omega)
  simp only [Int.toNat_natCast]
  have hj : j ≤ l0.length := by omega
  obtain ⟨g, c, rfl, hbg, hgl, _⟩ := Kd.R_form ho0 (by omega)
  obtain ⟨hk0, cs, hown, hr⟩ := ho0
  rcases hown.2 with ⟨hbad, _⟩ | ⟨g', c', cur, he, _, hh, hnc, hcm, hcs, htk⟩
  · cases hbad
  injection he with he1 _ he3
  injection he1 with he1
  injection he1 with he1
  subst he1; subst he3
  have hcl : cs.length = l0.length * 1 := hown.1
  have hone : ∀ v ∈ cs, v.oneCell' = true := Kd.reps_one hr (by decide) (fun p c hp => Kd.K_one (Kd.int .i64) (Kd.K_of_M (Kd.int .i64) hp))
  have htk' : cur.toList.take (l0.length) = cs := by
    have z_ : cur.toList.take (l0.length * 1) = cs := htk
    simpa only [Nat.mul_one] using z_
  have hrep : Reps (Kd.M (Kd.int .i64) w w0.heap.size (fun _ => True)) 1 (l0.take i ++ l0.drop j) (cs.take (i) ++ cs.drop (j)) := by
    have h1 := Kd.reps_take (m := i) hr (by omega)
    have h2 := Kd.reps_drop (m := j) hr
    have h3 := Kd.reps_append (h1.imp_ (fun _ _ hp => Kd.M_mono (Kd.int .i64) (fun _ _ => trivial) hp)) (h2.imp_ (fun _ _ hp => Kd.M_mono (Kd.int .i64) (ok' := fun _ => True) (fun _ _ => trivial) hp))
    have z_ : Reps (Kd.M (Kd.int .i64) w w0.heap.size (fun _ => True)) 1 (l0.take i ++ l0.drop j) (cs.take (i * 1) ++ cs.drop (j * 1)) := h3
    simpa only [Nat.mul_one] using z_
  have hinl : (l0.take i ++ l0.drop j).length = i + (l0.length - j) := by simp; omega
  have hg0 : w.heap[g]? = some (.cells cur.toList.toArray 3 (0, 0)) := by simpa using hh
  have hcl' : cur.toList.length = c := by
    have z_ : cur.toList.length = c * 1 := by rw [Array.length_toList]; exact hcs
    simpa only [Nat.mul_one] using z_
  have hP0g : P0_ g := hk0 g (by simp [Value.ownBlock])
  refine (slices_Delete_int_int.cells g c i j l0.length cur.toList w hlt (by omega) hj hnc (by simpa [maxLen] using hcm) hg0 hcl' (by rw [htk']; exact hone)).mono ?_
  rintro e w' ⟨rfl, hgr, cur', h1, h2, h3⟩
  rw [htk'] at h3
  rw [show cur.toList.take (i) = cs.take (i) from by rw [← htk', List.take_take, Nat.min_eq_left (by omega)]] at h3
  refine ⟨_, rfl, ⟨fun k hk => ?_, _, ?_, hrep.imp_ (fun _ _ hp => hp)⟩, hB.grown hgr hB.size (fun k hk => by injection hk with hk; omega), hgr.size, fun k hk hn => hgr.block k hk (fun he => by injection he with he; subst he; exact hn hP0g)⟩
  · have : g = k := by simpa [Value.ownBlock] using hk
    subst this
    exact .inl hP0g
  · rw [hinl]
    refine ⟨by rw [← h3, List.length_take, h2]; show _ = (i + (l0.length - j)) * 1; omega, .inr ⟨g, c, cur'.toArray, rfl, hbg, h1, by omega, hcm, by show _ = c * 1; simp only [List.size_toArray]; omega, ?_⟩⟩
    show cur'.take ((i + (l0.length - j)) * 1) = _
    rw [← h3]
    rw [Nat.mul_one]

end Go.Proofs.Ytalpnhgkhhmmlaa.PConf
