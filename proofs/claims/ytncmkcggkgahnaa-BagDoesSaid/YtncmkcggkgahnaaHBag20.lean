-- By the session: contracts proved by hand.
import Derived.Test.YtncmkcggkgahnaaHBag19
namespace Go.Proofs.Ytncmkcggkgahnaa.PBag
open Go.RowKit Go.Proofs.YtncmkcggkgahnaaW.PrintWords Go.Proofs.YtncmkcggkgahnaaW.PrintLast Go.Proofs.YtncmkcggkgahnaaW.PrintMore
set_option linter.unusedVariables false
set_option linter.unusedSimpArgs false
theorem stepQ_ok {l : List S30} {kd n : Int} (h : ∀ q ∈ l, q.f2.length ≤ 50) : (stepQ l kd n).f2.length ≤ 50 := by
  unfold stepQ
  split
  · unfold takeP
    split
    · rename_i hn
      refine h _ ?_
      unfold rdP
      rw [List.getD_eq_getElem?_getD, List.getElem?_eq_getElem (show n.toNat < l.length by omega)]
      exact List.getElem_mem _
    · simp [z30]
  · simp [z30]
theorem V_move {w w1 : World} {X : Nat → Prop} {l : List S30} {A : Option Addr} {c : Nat} (h : Kd.V k30 30 w 0 X (.slice A l.length c) l) (hm : ∀ k, X k → k < w.heap.size → w1.heap[k]? = w.heap[k]?) : Kd.V k30 30 w1 0 X (.slice A l.length c) l :=
  Kd.V_mk (Kd.V_at h).2.1 (Kd.F_step (Kd.V_at h).2.2 hm)
/-- The bag and the reference's list, apart from each other. -/
def Both (wr : World) (base b : Nat) (A : Option Addr) (c : Nat) (l : List S30) : Prop :=
  ∃ P X : Nat → Prop, BagAt wr base b P l ∧ Kd.V k30 30 wr 0 X (.slice A l.length c) l ∧ ∀ k, X k → ¬ P k ∧ k ≠ b ∧ k < wr.heap.size
theorem Both.below {wr w1 : World} {base b : Nat} {A : Option Addr} {c : Nat} {l : List S30} (h : Both wr base b A c l) (hb : Below wr.heap.size wr w1) : Both w1 base b A c l := by
  obtain ⟨P, X, h1, h2, h3⟩ := h
  exact ⟨P, X, h1.below hb, Kd.V_below h2 hb, fun k hk => ⟨(h3 k hk).1, (h3 k hk).2.1, Nat.lt_of_lt_of_le (h3 k hk).2.2 hb.size⟩⟩
set_option maxHeartbeats 8000000 in
set_option maxRecDepth 100000 in
theorem BagDoes_large (k : Nat) (A0 : Option Addr) (c0 : Nat) (L : List S34) (node : Int) (w : World) (hr0 : Kd.C k34 w A0 L.length L) (hc0 : L.length ≤ c0) (hL : changeoverlaw38_large.f k L = some true) :
    Calls Try.prog 3 #[.slice A0 L.length c0, .int .i64 node] w (BagFullPost w) := by
  have HR := Aside0.mk hr0
  have HC := Aside0.mk hc0
  have HL := Aside0.mk hL
  clear hr0 hc0 hL
  go_enter Try.func3, Try.ntmps3
  go_wp2_with fail
  refine (changeoverlaw38_large.calls k _ _ _ _ _ HR.out HC.out HL.out).mono ?_
  rintro e w1 ⟨rfl, m1, rfl⟩
  go_wp2_with fail
  refine (bag_awake _).mono ?_
  rintro e w2 ⟨rfl, hb2⟩
  have HB2 := Aside0.mk (below_after (pw_below_drewN (Below.refl w.heap.size w) m1) (Nat.le_refl _) hb2)
  clear hb2
  go_wp2
  go_ret
  exact ⟨rfl, HB2.out⟩
set_option maxHeartbeats 8000000 in
set_option maxRecDepth 100000 in
theorem BagDoes_go (k : Nat) (A0 : Option Addr) (c0 : Nat) (L : List S34) (node : Int) (w : World) (hr0 : Kd.C k34 w A0 L.length L) (hc0 : L.length ≤ c0) (hL : changeoverlaw38_large.f k L = some false) (hs : SmallS L) :
    Calls Try.prog 3 #[.slice A0 L.length c0, .int .i64 node] w (BagFullPost w) := by
  have HR := Aside0.mk hr0
  have HC := Aside0.mk hc0
  have HL := Aside0.mk hL
  have HS := Aside0.mk hs
  have h80 := hs.1
  clear hr0 hc0 hL hs
  go_enter Try.func3, Try.ntmps3
  go_wp2_with fail
  refine (changeoverlaw38_large.calls k _ _ _ _ _ HR.out HC.out HL.out).mono ?_
  rintro e w1 ⟨rfl, m1, rfl⟩
  go_wp2_with fail
  refine (bag_new _).mono ?_
  rintro e w2 ⟨rfl, hat, hb2⟩
  have HA2 := Aside0.mk hat
  have HB2 := Aside0.mk hb2
  clear hat hb2
  go_wp2
  go_loopw [6, 7] (fun v jv wr => ∃ (i : Nat) (A : Option Addr) (c : Nat), i ≤ L.length ∧ jv = .int .i64 (i : Int) ∧ v = .slice A (allL (L.take i)).length c ∧ Aside0 (Both wr w.heap.size w.heap.size A c (allL (L.take i))) ∧ Aside0 (Below w.heap.size w wr)) (fun _ jv _ => L.length + 1 - (intOf jv).toNat)
  case atStart => exact ⟨0, none, 0, Nat.zero_le _, rfl, rfl, ⟨⟨_, fun _ => False, HA2.out, Kd.V_nil _ _ _ _ _, fun k hk => hk.elim⟩⟩, ⟨below_after (pw_below_drewN (Below.refl _ _) m1) (Nat.le_refl _) HB2.out⟩⟩
  case round =>
    obtain ⟨i, Ax, cx, hi, rfl, rfl, HX, HB⟩ := hrel
    obtain ⟨hok1, hok2⟩ := allL_ok L HS.out i hi
    rcases Nat.lt_or_ge i L.length with hil | hil
    · have hlt : (i : Int) < (L.length : Int) := by omega
      have hwi : IntKind.i64.wrap ((i : Int) + 1) = (i : Int) + 1 := by rw [IntKind.wrap_i64]; omega
      have HSN := Aside0.mk (allL_snoc L i hil)
      obtain ⟨hn1, hn2⟩ := allL_ok L HS.out (i + 1) (by omega)
      obtain ⟨s, hs⟩ : ∃ s, s = rd_T34 L (i : Int) := ⟨_, rfl⟩
      have hs50 : s.f2.f2.length ≤ 50 := by rw [hs]; exact HS.out.2 i hil
      obtain ⟨ad, A4, c4, rfl, hx0, hx1, hx2, hx3, hx4, hl4, hC4⟩ := at_T34 HR.out (i : Int) (by omega) (by omega)
      rw [← hs] at hx0 hx1 hx2 hx3 hx4 hl4 hC4 HSN
      rw [Int.toNat_natCast] at hx0 hx1 hx2 hx3 hx4
      obtain ⟨l, hl⟩ : ∃ l, l = allL (L.take i) := ⟨_, rfl⟩
      rw [← hl] at HX hok1 hok2 HSN ⊢
      rw [HSN.out] at hn1 hn2
      clear hs hl
      obtain ⟨P, X, hA, hV, hX⟩ := HX.out
      have HA := Aside0.mk hA
      have HV := Aside0.mk hV
      have HXP := Aside0.mk hX
      have HD4 := Aside0.mk hl4
      have HC4 := Aside0.mk hC4
      have HOK2 := Aside0.mk hok2
      have HN2 := Aside0.mk hn2
      have y0 := pw_cell_below HB.out hx0
      have y1 := pw_cell_below HB.out hx1
      have y2 := pw_cell_below HB.out hx2
      have y3 := pw_cell_below HB.out hx3
      have y4 := pw_cell_below HB.out hx4
      have HY0 := Aside0.mk hx0
      have HY1 := Aside0.mk hx1
      have HY2 := Aside0.mk hx2
      have HY3 := Aside0.mk hx3
      have HY4 := Aside0.mk hx4
      clear hx0 hx1 hx2 hx3 hx4 hl4 hC4 hA hV hX HX hok2 hn2
      go_wp2_with fail
      refine (do_all w.heap.size w.heap.size P l s.f0 s.f1 s.f2 A4 c4 _ HA.out (Kd.C_below HC4.out HB.out) HD4.out (by omega) (by omega) (fun q hq => by have := HOK2.out q hq; omega)).mono ?_
      rintro e w3 ⟨A5, c5, rfl, hl5, hC5, hs3⟩
      obtain ⟨P', hat3, hP3⟩ := hs3.at_
      have hv3 := V_move HV.out (fun k hk hlt => hs3.kept.2 k hlt (fun h => h.elim (HXP.out k hk).2.1 (HXP.out k hk).1))
      have hb3 := HB.out.trans hs3.below
      have HA3 := Aside0.mk hat3
      have HP3 := Aside0.mk hP3
      have HV3 := Aside0.mk hv3
      have HB3 := Aside0.mk hb3
      have HL5 := Aside0.mk hl5
      have HC5 := Aside0.mk hC5
      have HSZ3 := Aside0.mk hs3.kept.1
      have HB4 := Aside0.mk (below_alloc hb3 (Obj.cells #[Value.int .i64 (stepQ l s.f0 s.f1).f0, Value.int .i64 (stepQ l s.f0 s.f1).f1, Value.slice A5 (stepQ l s.f0 s.f1).f2.length c5] 30))
      clear hs3 hat3 hP3 hv3 hb3 hl5 hC5 y0 y1 y2 y3 y4
      have y0 := pw_cell_below HB4.out HY0.out
      have y1 := pw_cell_below HB4.out HY1.out
      have y2 := pw_cell_below HB4.out HY2.out
      have y3 := pw_cell_below HB4.out HY3.out
      have y4 := pw_cell_below HB4.out HY4.out
      go_wp2_with fail
      refine (ref_all (fun k => X k ∨ k < w.heap.size) l Ax cx s.f0 s.f1 s.f2 A4 c4 _ (Kd.V_mono (Kd.V_alloc HV3.out _) (fun _ h => .inl h)) (Kd.F_mono (Kd.F_below (Kd.C_F (Kd.heap_int .u8) HC4.out) HB4.out) (fun _ h => .inr h)) HD4.out (by omega)).mono ?_
      rintro e w5 ⟨v6, A6, c6, rfl, hv6, hl6, hC6, hb5⟩
      obtain ⟨Av, cv, hvv⟩ := Kd.V_slice hv6
      subst hvv
      have hb35 := below_after (below_alloc (Below.refl w3.heap.size w3) (Obj.cells #[Value.int .i64 (stepQ l s.f0 s.f1).f0, Value.int .i64 (stepQ l s.f0 s.f1).f1, Value.slice A5 (stepQ l s.f0 s.f1).f2.length c5] 30)) (Nat.le_refl _) hb5
      have hk8 := blk_below (blk_new w3 (Obj.cells #[Value.int .i64 (stepQ l s.f0 s.f1).f0, Value.int .i64 (stepQ l s.f0 s.f1).f1, Value.slice A5 (stepQ l s.f0 s.f1).f2.length c5] 30)) hb5
      have z0 : w5.cell? ⟨w3.heap.size, 0, none⟩ = some (.int .i64 (stepQ l s.f0 s.f1).f0) := blk_cell hk8 0
      have z1 : w5.cell? ⟨w3.heap.size, 1, none⟩ = some (.int .i64 (stepQ l s.f0 s.f1).f1) := blk_cell hk8 1
      have z2 : w5.cell? ⟨w3.heap.size, 2, none⟩ = some (.slice A5 (stepQ l s.f0 s.f1).f2.length c5) := blk_cell hk8 2
      have hw35 : w3.heap.size < w5.heap.size := blk_lt hk8
      have HV6 := Aside0.mk hv6
      have HL6 := Aside0.mk hl6
      have HC6 := Aside0.mk hC6
      have HB35 := Aside0.mk hb35
      have HC55 := Aside0.mk (Kd.C_below HC5.out hb35)
      have HA5 := Aside0.mk (HA3.out.below hb35)
      have hq50 : (stepQ l s.f0 s.f1).f2.length < 9223372036854775807 := by have := stepQ_ok (kd := s.f0) (n := s.f1) HOK2.out; omega
      obtain ⟨ks, hks⟩ := packet_same (stepQ l s.f0 s.f1) hq50
      obtain ⟨ka, hka⟩ := (all_same (stepL l s.f0 s.f1 s.f2) (by omega) (fun q hq => by have := HN2.out q hq; omega)).rounds
      have HKS := Aside0.mk hks
      have HKA := Aside0.mk hka
      obtain ⟨q, hq⟩ : ∃ q, q = stepQ l s.f0 s.f1 := ⟨_, rfl⟩
      obtain ⟨l', hl'⟩ : ∃ l', l' = stepL l s.f0 s.f1 s.f2 := ⟨_, rfl⟩
      clear hv6 hl6 hC6 hb35 hb5 hk8 hks hka hq50 y0 y1 y2 y3 y4
      go_wp2_with fail
      refine (changeoverref38_Same.calls ks _ _ A5 c5 _ _ _ A6 c6 _ true _ (Kd.C_alloc HC55.out _) HL5.out (Kd.C_alloc HC6.out _) HL6.out HKS.out).mono ?_
      rintro e w7 ⟨rfl, hb7⟩
      have hb57 := below_after (below_alloc (Below.refl w5.heap.size w5) (Obj.cells #[Value.int .i64 (stepQ l s.f0 s.f1).f0, Value.int .i64 (stepQ l s.f0 s.f1).f1, Value.slice A6 (stepQ l s.f0 s.f1).f2.length c6] 30)) (Nat.le_refl _) hb7
      have HB57 := Aside0.mk hb57
      have HA7 := Aside0.mk (HA5.out.below hb57)
      clear hb7 hb57 z0 z1 z2
      go_wp2_with fail
      refine (bag_Len _ _ _ _ _ HA7.out).mono ?_
      rintro e w8 ⟨rfl, m8, rfl⟩
      go_wp2_with fail
      refine (bag_List _ _ _ _ _ (HA7.out.drewN m8) (fun q hq => by have := HN2.out q hq; omega) (by omega)).mono ?_
      rintro e w9 ⟨v9, rfl, hr9, hb9⟩
      obtain ⟨A9, c9, hv9⟩ := Kd.R_slice hr9
      subst hv9
      have hb79 := below_after (pw_below_drewN (Below.refl w7.heap.size w7) m8) (Nat.le_refl _) hb9
      have hb59 := below_after HB57.out (Nat.le_refl _) hb79
      have HB59 := Aside0.mk hb59
      have HR9 := Aside0.mk (Kd.R_reads' hr9).2
      have HV9 := Aside0.mk (Kd.V_below HV6.out hb59)
      clear hr9 hb9 hb79 hb59
      go_wp2_with fail
      refine (changeoverref38_All.calls ka _ _ _ _ _ _ _ _ HR9.out.2 HR9.out.1 (Kd.V_reads' HV9.out).2.2 (Kd.V_reads' HV9.out).2.1 HKA.out).mono ?_
      rintro e w10 ⟨rfl, hb10⟩
      have hb510 := below_after HB59.out (Nat.le_refl _) hb10
      have hboth : Both w10 w.heap.size w.heap.size Av cv (stepL l s.f0 s.f1 s.f2) := by
        have hA3 := HA3.out
        refine ⟨P', fun k => ((X k ∨ k < w.heap.size) ∨ w3.heap.size + 1 ≤ k) ∧ k < w5.heap.size, HA5.out.below hb510, Kd.V_below (Kd.V_mono (Kd.V_bound HV6.out) (fun k hk => ⟨hk.1.imp id (fun h => by simpa using h), hk.2⟩)) hb510, fun k hk => ?_⟩
        obtain ⟨hk1, hk2⟩ := hk
        have hsz := hb510.size
        have hlt3 := hA3.lt
        rcases hk1 with (h | h) | h
        · obtain ⟨h1, h2, h3⟩ := HXP.out k h
          exact ⟨fun hp => by rcases HP3.out k hp with h4 | h4; exact h1 h4; omega, h2, by omega⟩
        · exact ⟨fun hp => by have := (hA3.2.2.1 k hp).1; omega, by omega, by omega⟩
        · exact ⟨fun hp => by have := (hA3.2.2.1 k hp).2; omega, by omega, by omega⟩
      have HBO := Aside0.mk hboth
      have HB10 := Aside0.mk (below_after HB3.out (by have := HA3.out.lt; omega) (below_after HB35.out (Nat.le_refl _) hb510))
      clear hb10 hb510 hboth
      go_wp2
      go_round
      case rel => exact ⟨i + 1, Av, cv, by omega, by simp, by rw [HSN.out], ⟨by rw [HSN.out]; exact HBO.out⟩, HB10⟩
      case measure => simp [intOf]; omega
    · obtain rfl : i = L.length := by omega
      have hnl : ¬ (L.length : Int) < (L.length : Int) := by omega
      obtain ⟨l, hl⟩ : ∃ l, l = allL (L.take L.length) := ⟨_, rfl⟩
      rw [← hl] at HX hok1 hok2 ⊢
      clear hl
      have HOK2 := Aside0.mk hok2
      obtain ⟨P, X, hA, hV, hX⟩ := HX.out
      have HA := Aside0.mk hA
      have HV := Aside0.mk hV
      clear hA hV hX HX hok2
      rename World => wo
      go_wp2
      go_loopw [13, 14] (fun v jv wt => ∃ j : Nat, j ≤ l.length ∧ jv = .int .i64 (j : Int) ∧ Aside0 (Kd.R (Kd.int .i64) 3 wt wo.heap.size (fun k => wo.heap.size ≤ k) v (toN l node j)) ∧ Aside0 (Below wo.heap.size wo wt)) (fun _ jv _ => l.length + 1 - (intOf jv).toNat)
      case atStart => exact ⟨0, Nat.zero_le _, rfl, ⟨Kd.R_nil _ _ _ _ _⟩, ⟨Below.refl _ _⟩⟩
      case round =>
        obtain ⟨j, hj, rfl, HR2, HB2'⟩ := hrel
        rcases Nat.lt_or_ge j l.length with hjl | hjl
        · have hlt : (j : Int) < (l.length : Int) := by omega
          have hwj : IntKind.i64.wrap ((j : Int) + 1) = (j : Int) + 1 := by rw [IntKind.wrap_i64]; omega
          obtain ⟨ad, A2, c2, rfl, hx0, hx1, hx2, hl2, hC2⟩ := at_T30 (Kd.V_reads' HV.out).2.2 (j : Int) (by omega) (by omega)
          rw [rdP_T30] at hx1
          rw [Int.toNat_natCast] at hx1
          have y1 := pw_cell_below HB2'.out hx1
          have e1 := toN_succ l node j
          have HLEN := Aside0.mk (toN_len l node j)
          obtain ⟨T, hT⟩ : ∃ T, T = toN l node j := ⟨_, rfl⟩
          rw [← hT] at HR2 e1 HLEN
          have HE := Aside0.mk e1
          obtain ⟨A1, c1, hv⟩ := Kd.R_slice HR2.out
          subst hv
          clear hT e1 hx0 hx1 hx2 hl2 hC2
          by_cases hn : (rdP l j).f1 = node
          · have hnb : ((rdP l j).f1 == node) = true := by simpa using hn
            have HE2 : Aside0 (toN l node (j + 1) = T ++ [(j : Int)]) := ⟨by rw [HE.out, if_pos hn]⟩
            have HFR : Aside0 (∀ k, wr.heap.size ≤ k → wo.heap.size ≤ k) := ⟨fun k hk => Nat.le_trans HB2'.out.size hk⟩
            clear hn HE
            go_wp2_with (refine Kd.R_append (Kd.int .i64) (w0 := wo) wo.heap.size rfl (.tmp 81) (.tmp 83) 41 3 _ 8 rfl Try.underlying41 info3p (by decide) (by decide) (by decide) (.slice A1 T.length c1) T (j : Int) _ (fun k => wo.heap.size ≤ k) (fun _ => False) (by first | rfl | simp [Act.eval, Act.put]) (by first | rfl | simp [Act.eval, Act.put]) rfl (fun k hk => hk.elim) HFR.out HR2.out HB2'.out HB2'.out.size (by have := HLEN.out; omega) ?_; intro v4 w4 hr4 hb4 hg4 hat4; have HR4 := Aside0.mk hr4; have HB4 := Aside0.mk hb4; clear hr4 hb4 hg4 hat4)
            go_round
            case rel => exact ⟨j + 1, by omega, by simp, ⟨by rw [HE2.out]; exact HR4.out⟩, HB4⟩
            case measure => simp [intOf]; omega
          · have hnb : ((rdP l j).f1 == node) = false := by simpa using hn
            have HE2 : Aside0 (toN l node (j + 1) = T) := ⟨by rw [HE.out, if_neg hn]⟩
            clear hn HE
            go_wp2
            go_round
            case rel => exact ⟨j + 1, by omega, by simp, ⟨by rw [HE2.out]; exact HR2.out⟩, HB2'⟩
            case measure => simp [intOf]; omega
        · obtain rfl : j = l.length := by omega
          have hnl2 : ¬ (l.length : Int) < (l.length : Int) := by omega
          obtain ⟨ki, hki⟩ := (ints_same (toN l node l.length) (by have := toN_len l node l.length; omega)).rounds
          have HKI := Aside0.mk hki
          obtain ⟨A1, c1, hv⟩ := Kd.R_slice HR2.out
          subst hv
          clear hki
          go_wp2_with fail
          refine (bag_To _ _ _ _ node _ (HA.out.below HB2'.out) (fun q hq => by have := HOK2.out q hq; omega) (by omega)).mono ?_
          rintro e w11 ⟨v11, rfl, hr11, hb11⟩
          obtain ⟨A11, c11, hv⟩ := Kd.R_slice hr11
          subst hv
          have HR11 := Aside0.mk (Kd.R_reads' hr11).2
          have HR2b := Aside0.mk (Kd.R_reads' (Kd.R_below HR2.out hb11)).2
          have HB11 := Aside0.mk (below_after HB2'.out (Nat.le_refl _) hb11)
          clear hr11 hb11
          go_wp2_with fail
          refine (changeoverref01_Ints.calls ki _ _ _ _ _ _ _ _ HR11.out.2 HR11.out.1 HR2b.out.2 HR2b.out.1 HKI.out).mono ?_
          rintro e w12 ⟨rfl, m12, rfl⟩
          go_wp2_with fail
          refine (bag_awake _).mono ?_
          rintro e w13 ⟨rfl, hb13⟩
          have HB13 := Aside0.mk (below_after (pw_below_drewN HB11.out m12) (Nat.le_refl _) hb13)
          clear hb13
          go_wp2
          go_ret
          exact ⟨rfl, below_after HB.out (Nat.le_refl _) HB13.out⟩
theorem BagDoes_calls (A0 : Option Addr) (c0 : Nat) (L : List S34) (node : Int) (w : World) (hr0 : Kd.C k34 w A0 L.length L) (hc0 : L.length ≤ c0) (hn : L.length < 9223372036854775807) :
    Calls Try.prog 3 #[.slice A0 L.length c0, .int .i64 node] w (BagFullPost w) := by
  obtain ⟨k, hL⟩ := (largeS_ev L hn).rounds
  by_cases hs : SmallS L
  · simp only [hs, not_true_eq_false, decide_false] at hL
    exact BagDoes_go k A0 c0 L node w hr0 hc0 hL hs
  · simp only [hs, not_false_eq_true, decide_true] at hL
    exact BagDoes_large k A0 c0 L node w hr0 hc0 hL
end Go.Proofs.Ytncmkcggkgahnaa.PBag
