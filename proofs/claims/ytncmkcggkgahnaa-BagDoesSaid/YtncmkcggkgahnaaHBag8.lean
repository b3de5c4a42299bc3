-- By the session: contracts proved by hand.
import Derived.Test.YtncmkcggkgahnaaHBag7
namespace Go.Proofs.Ytncmkcggkgahnaa.PBag
open Go.RowKit Go.Proofs.YtncmkcggkgahnaaW.PrintWords Go.Proofs.YtncmkcggkgahnaaW.PrintLast Go.Proofs.YtncmkcggkgahnaaW.PrintMore
set_option linter.unusedVariables false
set_option linter.unusedSimpArgs false
/-! To -/
def toN (l : List S30) (node : Int) (k : Nat) : List Int := ((List.range k).filter fun i => decide ((rdP l i).f1 = node)).map fun i : Nat => (i : Int)
theorem toN_succ (l : List S30) (node : Int) (k : Nat) : toN l node (k + 1) = if (rdP l k).f1 = node then toN l node k ++ [(k : Int)] else toN l node k := by
  unfold toN
  rw [List.range_succ, List.filter_append, List.map_append, List.filter_cons, List.filter_nil]
  by_cases h : (rdP l k).f1 = node
  · rw [if_pos h, if_pos (decide_eq_true h)]; rfl
  · rw [if_neg h, if_neg (by simpa using h)]; simp
theorem toN_len (l : List S30) (node : Int) (k : Nat) : (toN l node k).length ≤ k := by
  unfold toN
  rw [List.length_map]
  have := List.length_filter_le (fun i => decide ((rdP l i).f1 = node)) (List.range k)
  rwa [List.length_range] at this
theorem info3p : (Try.prog.info? 3).map (fun i => (i.zero, i.size, i.bytes)) = some (some (.int .i64 0), (Kd.int .i64).sz, 8) := by kernel_rfl
theorem bag_To_nil (node : Int) (w : World) : Calls Try.prog 18 #[.pointer none, .int .i64 node] w fun e w' => e = .returned (.slice none 0 0) ∧ Below w.heap.size w w' := by
  go_enter Try.func18, Try.ntmps18
  go_wp2_with fail
  refine (bag_List_nil _).mono ?_
  rintro e w1 ⟨rfl, m1, rfl⟩
  go_wp2
  go_loopw [5, 11] (fun v j wr => v = .slice none 0 0 ∧ j = .int .i64 0 ∧ Aside0 (Below w.heap.size w wr)) (fun _ j _ => 0)
  case atStart => exact ⟨rfl, rfl, ⟨pw_below_drewN (Below.refl _ _) _⟩⟩
  case round =>
    obtain ⟨rfl, rfl, HB⟩ := hrel
    go_wp2
    go_ret
    exact ⟨rfl, HB.out⟩
set_option maxHeartbeats 8000000 in
set_option maxRecDepth 100000 in
theorem bag_To (b base : Nat) (P : Nat → Prop) (l : List S30) (node : Int) (w : World) (h : BagAt w base b P l) (hd : ∀ p ∈ l, p.f2.length < 140737488355328) (hlt : l.length < 1000000000) :
    Calls Try.prog 18 #[.pointer (some ⟨b, 0, none⟩), .int .i64 node] w fun e w' => ∃ v, e = .returned v ∧ Kd.R (Kd.int .i64) 3 w' w.heap.size (fun _ => True) v (toN l node l.length) ∧ Below w.heap.size w w' := by
  have HBA := Aside0.mk h
  clear h
  go_enter Try.func18, Try.ntmps18
  go_wp2_with fail
  refine (bag_List b base P l _ HBA.out hd hlt).mono ?_
  rintro e w1 ⟨v1, rfl, hr1, hb1⟩
  obtain ⟨Al, cl, hv1⟩ := Kd.R_slice hr1
  subst hv1
  have HC := Aside0.mk (Kd.R_reads' hr1).2.2
  have HB1 := Aside0.mk hb1
  clear hr1 hb1
  go_wp2
  go_loopw [5, 11] (fun v j wr => ∃ i : Nat, i ≤ l.length ∧ j = .int .i64 (i : Int) ∧ Aside0 (Kd.R (Kd.int .i64) 3 wr w.heap.size (fun k => w1.heap.size ≤ k) v (toN l node i)) ∧ Aside0 (Below w1.heap.size w1 wr)) (fun _ j _ => l.length + 1 - (intOf j).toNat)
  case atStart => exact ⟨0, Nat.zero_le _, rfl, ⟨Kd.R_nil _ _ _ _ _⟩, ⟨Below.refl _ _⟩⟩
  case round =>
    obtain ⟨i, hi, rfl, HR, HB⟩ := hrel
    rcases Nat.lt_or_ge i l.length with hil | hil
    · obtain ⟨ad, A2, c2, rfl, hx0, hx1, hx2, hl2, hC2⟩ := at_T30 HC.out (i : Int) (by omega) (by omega)
      rw [rdP_T30] at hx0 hx1 hx2 hl2 hC2
      rw [Int.toNat_natCast] at hx0 hx1 hx2
      have y0 := pw_cell_below HB.out hx0
      have y1 := pw_cell_below HB.out hx1
      have y2 := pw_cell_below HB.out hx2
      have hlti : (i : Int) < (l.length : Int) := by omega
      have hwi : IntKind.i64.wrap ((i : Int) + 1) = (i : Int) + 1 := by rw [IntKind.wrap_i64]; omega
      have HLEN := Aside0.mk (toN_len l node i)
      have e1 := toN_succ l node i
      obtain ⟨L, hL⟩ : ∃ L, L = toN l node i := ⟨_, rfl⟩
      rw [← hL] at HR e1 HLEN
      clear hL
      have HE := Aside0.mk e1
      obtain ⟨A1, c1, hv⟩ := Kd.R_slice HR.out
      subst hv
      clear hx0 hx1 hx2 hl2 hC2 e1
      have HB2 := Aside0.mk (below_alloc HB.out (Obj.cells #[Value.int .i64 (rdP l i).f0, Value.int .i64 (rdP l i).f1, Value.slice A2 (rdP l i).f2.length c2] 30))
      have HR2 := Aside0.mk (Kd.R_below HR.out (below_alloc (Below.refl _ _) (Obj.cells #[Value.int .i64 (rdP l i).f0, Value.int .i64 (rdP l i).f1, Value.slice A2 (rdP l i).f2.length c2] 30)))
      have HBB := Aside0.mk (below_after HB1.out (Nat.le_refl _) HB2.out)
      by_cases hn : (rdP l i).f1 = node
      · have hnb : ((rdP l i).f1 == node) = true := by simpa using hn
        have HE2 : Aside0 (toN l node (i + 1) = L ++ [(i : Int)]) := ⟨by rw [HE.out, if_pos hn]⟩
        have HFR : Aside0 (∀ k, (wr.alloc (Obj.cells #[Value.int .i64 (rdP l i).f0, Value.int .i64 (rdP l i).f1, Value.slice A2 (rdP l i).f2.length c2] 30)).heap.size ≤ k → w1.heap.size ≤ k) := ⟨fun k hk => Nat.le_trans HB2.out.size hk⟩
        clear hn HE
        go_wp2_with (refine Kd.R_append (Kd.int .i64) (w0 := w) w.heap.size rfl (.tmp 20) (.tmp 22) 41 3 _ 8 rfl Try.underlying41 info3p (by decide) (by decide) (by decide) (.slice A1 L.length c1) L (i : Int) _ (fun k => w1.heap.size ≤ k) (fun _ => False) (by first | rfl | simp [Act.eval, Act.put]) (by first | rfl | simp [Act.eval, Act.put]) rfl (fun k hk => hk.elim) HFR.out HR2.out HBB.out HBB.out.size (by have := HLEN.out; omega) ?_; intro v4 w4 hr4 hb4 hg4 hat4; have HR4 := Aside0.mk hr4; have HG4 := Aside0.mk hg4; clear hr4 hb4 hg4 hat4)
        go_round
        case rel => exact ⟨i + 1, by omega, by simp, ⟨by rw [HE2.out]; exact HR4.out⟩, ⟨Below.grown HB2.out HG4.out (by have := HB2.out.size; omega) (fun k hk => HR2.out.1 k hk)⟩⟩
        case measure => simp [intOf]; omega
      · have hnb : ((rdP l i).f1 == node) = false := by simpa using hn
        have HE2 : Aside0 (toN l node (i + 1) = L) := ⟨by rw [HE.out, if_neg hn]⟩
        clear hn HE
        go_wp2
        go_round
        case rel => exact ⟨i + 1, by omega, by simp, ⟨by rw [HE2.out]; exact HR2.out⟩, ⟨HB2.out⟩⟩
        case measure => simp [intOf]; omega
    · obtain rfl : i = l.length := by omega
      have hnl : ¬ (l.length : Int) < (l.length : Int) := by omega
      go_wp2
      go_ret
      exact ⟨_, rfl, Kd.R_mono HR.out (fun _ _ => trivial), below_after HB1.out (Nat.le_refl _) HB.out⟩
end Go.Proofs.Ytncmkcggkgahnaa.PBag
