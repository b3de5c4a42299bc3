-- By the session: contracts proved by hand.
import Derived.Test.YtncmkcggkgahnaaHBag14
namespace Go.Proofs.Ytncmkcggkgahnaa.PBag
open Go.RowKit Go.Proofs.YtncmkcggkgahnaaW.PrintWords Go.Proofs.YtncmkcggkgahnaaW.PrintLast Go.Proofs.YtncmkcggkgahnaaW.PrintMore
set_option linter.unusedVariables false
set_option linter.unusedSimpArgs false
set_option maxHeartbeats 8000000 in
set_option maxRecDepth 100000 in
theorem refDo_take (X : Nat → Prop) (l : List S30) (Al : Option Addr) (cl : Nat) (kd : Int) (i : Nat) (p : S30) (A : Option Addr) (c : Nat) (w : World) (hV : Kd.V k30 30 w 0 X (.slice Al l.length cl) l) (hi : i < l.length) (hl : l.length < 100000) (hk : kd = 2 ∨ kd = 3) (r : S30) (hr : r = if kd = 3 then z30 else rdP l i) :
    Calls Try.prog 12 #[.slice Al l.length cl, .agg #[.int .i64 kd, .int .i64 (i : Int), .int .i64 p.f0, .int .i64 p.f1, .slice A p.f2.length c]] w fun e w' => DoPost w w' X (l.take i ++ l.drop (i + 1)) r true e := by
  have HFL : Aside0 (Kd.F k30 w (fun k => X k ∧ k < w.heap.size) Al l.length l) := ⟨Kd.F_bound (Kd.V_F hV)⟩
  obtain ⟨q, hq⟩ : ∃ q, q = rdP l i := ⟨_, rfl⟩
  rw [← hq] at hr
  obtain ⟨ad, cs, rfl, hcl, hFK, hcc, _⟩ := Kd.F_get (Kd.V_F hV) z30 (i : Int) (by omega) (by omega)
  rw [show l.getD (i : Int).toNat z30 = q from by rw [hq]; simp [rdP]] at hFK
  obtain ⟨Aq, cq, rfl, hlq, hFq⟩ := k30_openF hFK
  rw [Int.toNat_natCast] at hcc
  have hx0 : w.cell? (ad.add (i * 3)) = some (.int .i64 q.f0) := hcc 0 _ rfl
  have hx1 : w.cell? ⟨(ad.add (i * 3)).block, (ad.add (i * 3)).off + 1, none⟩ = some (.int .i64 q.f1) := by rw [← add_field _ _ 1 (by omega)]; exact hcc 1 _ rfl
  have hx2 : w.cell? ⟨(ad.add (i * 3)).block, (ad.add (i * 3)).off + 2, none⟩ = some (.slice Aq q.f2.length cq) := by rw [← add_field _ _ 2 (by omega)]; exact hcc 2 _ rfl
  have hbd := doW_below w kd (i : Int) p A c
  have y0 := pw_cell_below hbd hx0
  have y1 := pw_cell_below hbd hx1
  have y2 := pw_cell_below hbd hx2
  unfold doW at y0 y1 y2
  have hn0 : ¬ (i : Int) < 0 := by omega
  have hn1 : ¬ (l.length : Int) ≤ (i : Int) := by omega
  clear hbd hx0 hx1 hx2 hcc hcl
  have HFQ := Aside0.mk (Kd.F_bound hFq)
  have HLQ := Aside0.mk hlq
  have hkb : (kd != 1) = true := by rcases hk with h | h <;> simp [h]
  have hk1 : (kd == 1) = false := by rcases hk with h | h <;> simp [h]
  have hk4 : (kd == 4) = false := by rcases hk with h | h <;> simp [h]
  have hk5 : ¬ kd < 1 := by rcases hk with h | h <;> omega
  have hk6 : ¬ 4 < kd := by rcases hk with h | h <;> omega
  have HE := Aside0.mk (delN_end l i hi)
  clear hV hFK hFq hlq hq
  go_enter Try.func12, Try.ntmps12
  go_wp2
  have hd := doAt4 w kd (i : Int) p A c q Aq cq
  have hd0 := doAt4_0 w kd (i : Int) p A c q Aq cq
  obtain ⟨W0, hW0⟩ : ∃ W0, W0 = doW4 w kd (i : Int) p A c q Aq cq := ⟨_, rfl⟩
  rw [← hW0] at hd hd0
  unfold doW4 at hW0
  rw [← hW0]
  clear hW0 y0 y1 y2
  have HD := Aside0.mk hd
  have HD0 := Aside0.mk hd0
  have HSZ := Aside0.mk hd.size
  have HFL0 := Aside0.mk (Kd.F_below HFL.out hd.below)
  clear hd hd0
  go_loopw [9, 10] (fun v jv wr => ∃ j : Nat, j ≤ l.length ∧ jv = .int .i64 (j : Int) ∧ Aside0 (Kd.N k30 30 wr W0.heap.size (fun k => (X k ∧ k < w.heap.size) ∨ W0.heap.size ≤ k) v (delN l i j)) ∧ Aside0 (Below W0.heap.size W0 wr)) (fun _ jv _ => l.length + 1 - (intOf jv).toNat)
  case atStart => exact ⟨0, Nat.zero_le _, rfl, ⟨by unfold delN; rw [if_pos (Nat.zero_le _), List.take_zero]; exact Kd.N_nil _ _ _ _ _⟩, ⟨Below.refl _ _⟩⟩
  case round =>
    obtain ⟨j, hj, rfl, HN, HB⟩ := hrel
    have hb0 := blk_below HD0.out HB.out
    have yk : wr.cell? ⟨w.heap.size, 0, none⟩ = some (.int .i64 kd) := blk_cell hb0 0
    have yn : wr.cell? ⟨w.heap.size, 1, none⟩ = some (.int .i64 (i : Int)) := blk_cell hb0 1
    clear hb0
    rcases Nat.lt_or_ge j l.length with hjl | hjl
    · have hlt : (j : Int) < (l.length : Int) := by omega
      have hwj : IntKind.i64.wrap ((j : Int) + 1) = (j : Int) + 1 := by rw [IntKind.wrap_i64]; omega
      by_cases hji : j = i
      · have hb : ((j : Int) != (i : Int)) = false := by simp [hji]
        have HS := Aside0.mk (show delN l i (j + 1) = delN l i j from by rw [hji]; exact delN_same l i)
        clear hji
        go_wp2
        go_round
        case rel => exact ⟨j + 1, by omega, by simp, ⟨by rw [HS.out]; exact HN.out⟩, HB⟩
        case measure => simp [intOf]; omega
      · have hb : ((j : Int) != (i : Int)) = true := by simp; omega
        have HS := Aside0.mk (delN_step l i j hjl hji)
        obtain ⟨ad2, cs2, he2, hcl2, hFK2, hcc2, _⟩ := Kd.F_get (Kd.F_below HFL0.out HB.out) z30 (j : Int) (by omega) (by omega)
        injection he2 with he2
        subst he2
        rw [show l.getD (j : Int).toNat z30 = rdP l j from by simp [rdP]] at hFK2
        obtain ⟨A2, c2, rfl, hl2, hF2⟩ := k30_openF hFK2
        rw [Int.toNat_natCast] at hcc2
        have x0 : wr.cell? (ad.add (j * 3)) = some (.int .i64 (rdP l j).f0) := hcc2 0 _ rfl
        have x1 : wr.cell? ⟨(ad.add (j * 3)).block, (ad.add (j * 3)).off + 1, none⟩ = some (.int .i64 (rdP l j).f1) := by rw [← add_field _ _ 1 (by omega)]; exact hcc2 1 _ rfl
        have x2 : wr.cell? ⟨(ad.add (j * 3)).block, (ad.add (j * 3)).off + 2, none⟩ = some (.slice A2 (rdP l j).f2.length c2) := by rw [← add_field _ _ 2 (by omega)]; exact hcc2 2 _ rfl
        have HF2 := Aside0.mk hFK2
        have HLEN := Aside0.mk (delN_len l i j)
        obtain ⟨L, hL⟩ : ∃ L, L = delN l i j := ⟨_, rfl⟩
        rw [← hL] at HN HS HLEN
        clear hL hcc2 hcl2 hFK2 hF2 hl2 hji
        obtain ⟨A1, c1, hv⟩ := Kd.N_slice HN.out
        subst hv
        have HOK : Aside0 (∀ k, (X k ∧ k < w.heap.size) → ((X k ∧ k < w.heap.size) ∨ W0.heap.size ≤ k) ∧ some k ≠ (Value.slice A1 L.length c1).ownBlock) := ⟨fun k hk => ⟨.inl hk, fun h => by have := Kd.N_base HN.out k h.symm; have := HSZ.out; have := hk.2; omega⟩⟩
        have HFR : Aside0 (∀ k, wr.heap.size ≤ k → (X k ∧ k < w.heap.size) ∨ W0.heap.size ≤ k) := ⟨fun k hk => .inr (Nat.le_trans HB.out.size hk)⟩
        go_wp2_with (refine Kd.N_append k30 (w0 := W0) W0.heap.size rfl (.tmp 101) (.tmp 106) 27 30 _ 40 rfl Try.underlying27 info30p (by decide) (by decide) (by decide) (.slice A1 L.length c1) L (rdP l j) _ _ (fun k => X k ∧ k < w.heap.size) (by first | rfl | simp [Act.eval, Act.put]) (by first | rfl | simp [Act.eval, Act.put]) HF2.out HOK.out HFR.out HN.out HB.out HB.out.size (by have := HLEN.out; omega) ?_; intro v4 w4 hr4 hb4 hg4 hat4; have HR4 := Aside0.mk hr4; have HB4 := Aside0.mk hb4; clear hr4 hb4 hg4 hat4)
        go_round
        case rel => exact ⟨j + 1, by omega, by simp, ⟨by rw [HS.out]; exact HR4.out⟩, HB4⟩
        case measure => simp [intOf]; omega
    · obtain rfl : j = l.length := by omega
      have hnl : ¬ (l.length : Int) < (l.length : Int) := by omega
      obtain ⟨s0, s1, s2, s3, s4, s5⟩ := HD.out.S HB.out
      obtain ⟨t0, t1, t2, t3, t4, t5⟩ := HD.out.T HB.out
      obtain ⟨u0, u1, u2⟩ := HD.out.U HB.out
      have HN2 := Aside0.mk HN.out
      rw [HE.out] at HN2
      clear HN
      rcases hk with hk | hk
      · have hk3 : (kd == 3) = false := by simp [hk]
        rw [if_neg (by omega)] at hr
        clear hk
        go_wp2
        go_region
        go_wp2
        rw [hr]
        refine bodyPost_ret (results_tmp_cell_tmp rfl _ _ (w.heap.size + 1) 30 #[.int .i64 q.f0, .int .i64 q.f1, .slice Aq q.f2.length cq] (0, 0) _ rfl (blk_drew (blk_put (blk_put (blk_put (blk_below HD.out.c1 HB.out) 0 _ rfl) 1 _ rfl) 2 _ rfl)) Try.underlying30 rfl size30) rfl ?_
        have hf : ∀ k, k ≠ w.heap.size + 1 → ((((wr.setCell ⟨w.heap.size + 1, 0, none⟩ (.int .i64 q.f0)).setCell ⟨w.heap.size + 1, 1, none⟩ (.int .i64 q.f1)).setCell ⟨w.heap.size + 1, 2, none⟩ (.slice Aq q.f2.length cq)).drew).heap[k]? = wr.heap[k]? := fun k hk => by
          show ((((wr.setCell ⟨w.heap.size + 1, 0, none⟩ (.int .i64 q.f0)).setCell ⟨w.heap.size + 1, 1, none⟩ (.int .i64 q.f1)).setCell ⟨w.heap.size + 1, 2, none⟩ (.slice Aq q.f2.length cq))).heap[k]? = wr.heap[k]?
          rw [Below.heap_setCell _ _ _ k hk, Below.heap_setCell _ _ _ k hk, Below.heap_setCell _ _ _ k hk]
        have hb5 := below_after HD.out.below (Nat.le_refl _) HB.out
        have hb6 := drew_below (((hb5.setCell (p := ⟨w.heap.size + 1, 0, none⟩) (by simp) (.int .i64 q.f0)).setCell (p := ⟨w.heap.size + 1, 1, none⟩) (by simp) (.int .i64 q.f1)).setCell (p := ⟨w.heap.size + 1, 2, none⟩) (by simp) (.slice Aq q.f2.length cq))
        refine ⟨_, Aq, cq, rfl, ?_, HLQ.out, Kd.F_now (Kd.F_below HFQ.out hb6), hb6⟩
        exact doEndV HD.out HN2.out (fun k h1 _ => hf k h1)
      · subst hk
        rw [if_pos rfl] at hr
        go_wp2
        go_region
        go_wp2
        rw [hr]
        obtain ⟨k1, k2, k3⟩ := doEnd3 HD.out HB.out HN2.out
        refine bodyPost_ret (results_tmp_cell_tmp rfl _ _ (w.heap.size + 1) 30 #[.int .i64 0, .int .i64 0, .slice none 0 0] (0, 0) _ rfl k1 Try.underlying30 rfl size30) rfl ?_
        exact ⟨_, none, 0, rfl, k2, Nat.le_refl _, Kd.C_nil _ _, k3⟩
end Go.Proofs.Ytncmkcggkgahnaa.PBag
