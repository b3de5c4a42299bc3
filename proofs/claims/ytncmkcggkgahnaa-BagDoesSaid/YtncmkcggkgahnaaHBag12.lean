-- By the session: contracts proved by hand.
import Derived.Test.YtncmkcggkgahnaaHBag11
namespace Go.Proofs.Ytncmkcggkgahnaa.PBag
open Go.RowKit Go.Proofs.YtncmkcggkgahnaaW.PrintWords Go.Proofs.YtncmkcggkgahnaaW.PrintLast Go.Proofs.YtncmkcggkgahnaaW.PrintMore
set_option linter.unusedVariables false
set_option linter.unusedSimpArgs false
open Classical in
theorem bytes_same (d : List Int) (hn : d.length < 9223372036854775807) : Ev (fun k => changeoverref01_Same.f k d d) true := by
  have key : ∀ (m i : Nat), i + m = d.length → Ev (fun k => changeoverref01_Same.l0 k d d i) true := by
    intro m
    induction m with
    | zero =>
      intro i hi
      exact Ev.step (f := fun _ => some true) (fun k => by simp only [changeoverref01_Same.l0]; rw [if_neg (by omega)]) (Ev.now _)
    | succ m ih =>
      intro i hi
      have hw : wrap64 ((i : Int) + 1) = ((i + 1 : Nat) : Int) := by unfold wrap64; omega
      refine Ev.step (f := fun k => changeoverref01_Same.l0 k d d ((i + 1 : Nat) : Int)) (fun k => by
        simp only [changeoverref01_Same.l0, if_true]
        rw [if_pos (show (i : Int) < (d.length : Int) by omega), if_pos (Int.natCast_nonneg i), if_pos (show (i : Int) < (d.length : Int) by omega), hw]) (ih (i + 1) (by omega))
  unfold changeoverref01_Same.f
  simp only [if_true]
  exact key d.length 0 (by omega)
theorem packet_same (p : S30) (hn : p.f2.length < 9223372036854775807) : ∃ k, changeoverref38_Same.f k p.f0 p.f1 p.f2 p.f0 p.f1 p.f2 = some true := by
  obtain ⟨k, h⟩ := (bytes_same p.f2 hn).rounds
  exact ⟨k, by unfold changeoverref38_Same.f; rw [if_pos rfl, if_pos rfl, h]; rfl⟩
theorem rdP_rep (p : S30) (n i : Nat) (h : i < n) : rdP (List.replicate n p) i = p := by simp [rdP, List.getD_eq_getElem?_getD, h]
theorem rep_take (p : S30) (n : Nat) : takeP (List.replicate (n + 1) p) (n : Int) = p ∧ decide ((0 : Int) ≤ (n : Int) ∧ (n : Int) < ((List.replicate (n + 1) p).length : Int)) = true ∧ takeL (List.replicate (n + 1) p) (n : Int) = List.replicate n p := by
  have hl : (List.replicate (n + 1) p).length = n + 1 := List.length_replicate
  refine ⟨?_, by rw [hl]; exact decide_eq_true (by omega), ?_⟩
  · unfold takeP
    rw [hl, if_pos (by omega), Int.toNat_natCast]
    exact rdP_rep p (n + 1) n (by omega)
  · rw [takeL_yes (by rw [hl]; omega), List.take_replicate, List.drop_replicate, Nat.min_eq_left (by omega), Nat.sub_self]
    simp
theorem full_take (p : S30) : takeP (List.replicate 512 p) 511 = p ∧ decide ((0 : Int) ≤ 511 ∧ (511 : Int) < ((List.replicate 512 p).length : Int)) = true ∧ takeL (List.replicate 512 p) 511 = List.replicate 511 p := rep_take p 511
theorem rep_tw (p : S30) (n : Nat) (hn : 0 < n) (hok : putOk [] p = true) : twiceOk (List.replicate n p) 0 = decide (n < 512) ∧ twiceL (List.replicate n p) 0 = (if n < 512 then List.replicate (n + 1) p else List.replicate n p) := by
  have hl : (List.replicate n p).length = n := List.length_replicate
  have h1 : rdP (List.replicate n p) (0 : Int).toNat = p := rdP_rep p n 0 hn
  have h2 : putOk (List.replicate n p) p = decide (n < 512) := by rw [putOk_any, hok, hl]; rfl
  have h3 : decide ((0 : Int) ≤ 0 ∧ (0 : Int) < ((List.replicate n p).length : Int)) = true := decide_eq_true (by rw [hl]; omega)
  refine ⟨?_, ?_⟩
  · unfold twiceOk
    rw [h1, h2, h3, Bool.true_and]
  · unfold twiceL putL
    rw [if_pos (of_decide_eq_true h3), h1, h2]
    by_cases h : n < 512
    · rw [if_pos (decide_eq_true h), if_pos h, ← List.replicate_succ']
    · rw [if_neg (by simpa using h), if_neg h]
theorem full_tw1 (p : S30) (hok : putOk [] p = true) : twiceOk (List.replicate 511 p) 0 = true ∧ twiceL (List.replicate 511 p) 0 = List.replicate 512 p := by
  have h := rep_tw p 511 (by omega) hok
  rw [if_pos (by omega)] at h
  exact h
theorem full_tw2 (p : S30) (hok : putOk [] p = true) : twiceOk (List.replicate 512 p) 0 = false ∧ twiceL (List.replicate 512 p) 0 = List.replicate 512 p := by
  have h := rep_tw p 512 (by omega) hok
  rw [if_neg (by omega)] at h
  exact h
/-- the beginning of the law: up to the bag that is new -/
def BagFullPost (w : World) (e : Ending) (w' : World) : Prop := e = .returned (.bool true) ∧ Below w.heap.size w w'
set_option maxHeartbeats 8000000 in
set_option maxRecDepth 100000 in
theorem BagFull_large (p : S30) (A : Option Addr) (c : Nat) (more : Int) (w : World) (hbig : 50 < p.f2.length) :
    Calls Try.prog 4 #[.agg #[.int .i64 p.f0, .int .i64 p.f1, .slice A p.f2.length c], .int .u8 more] w (BagFullPost w) := by
  have hb : (50 : Int) < (p.f2.length : Int) := by omega
  have HB1 := Aside0.mk (below_alloc (Below.refl w.heap.size w) (Obj.cells #[Value.int .i64 p.f0, Value.int .i64 p.f1, Value.slice A p.f2.length c] 30))
  go_enter Try.func4, Try.ntmps4
  go_wp2_with fail
  refine (bag_awake _).mono ?_
  rintro e w2 ⟨rfl, hb2⟩
  have HB2 := Aside0.mk (below_after HB1.out (Nat.le_refl _) hb2)
  clear hb2
  go_wp2
  go_ret
  exact ⟨rfl, HB2.out⟩
set_option maxHeartbeats 8000000 in
set_option maxRecDepth 100000 in
theorem BagFull_go (p : S30) (A : Option Addr) (c : Nat) (more : Int) (w : World) (hC : Kd.C (Kd.int .u8) w A p.f2.length p.f2) (hc : p.f2.length ≤ c) (hm : 0 ≤ more ∧ more ≤ 255) (hsm : ¬ 50 < p.f2.length) :
    Calls Try.prog 4 #[.agg #[.int .i64 p.f0, .int .i64 p.f1, .slice A p.f2.length c], .int .u8 more] w (BagFullPost w) := by
  have hb : ¬ (50 : Int) < (p.f2.length : Int) := by omega
  have HB1 := Aside0.mk (below_alloc (Below.refl w.heap.size w) (Obj.cells #[Value.int .i64 p.f0, Value.int .i64 p.f1, Value.slice A p.f2.length c] 30))
  have hk2 := blk_new w (Obj.cells #[Value.int .i64 p.f0, Value.int .i64 p.f1, Value.slice A p.f2.length c] 30)
  have HK2 := Aside0.mk hk2
  have HC := Aside0.mk hC
  have HCC := Aside0.mk hc
  have hpl : p.f2.length < 140737488355328 := by omega
  clear hk2 hC hc
  go_enter Try.func4, Try.ntmps4
  go_wp2_with fail
  refine (bag_Take_nil _ _).mono ?_
  rintro e w2 ⟨rfl, hb2⟩
  have HB2 := Aside0.mk hb2
  have hk := blk_below HK2.out hb2
  have y0 : w2.cell? ⟨w.heap.size, 0, none⟩ = some (.int .i64 p.f0) := blk_cell hk 0
  have y1 : w2.cell? ⟨w.heap.size, 1, none⟩ = some (.int .i64 p.f1) := blk_cell hk 1
  have y2 : w2.cell? ⟨w.heap.size, 2, none⟩ = some (.slice A p.f2.length c) := blk_cell hk 2
  have hw2 : w.heap.size < w2.heap.size := blk_lt hk
  clear hb2 hk
  go_wp2_with fail
  refine (bag_Put_nil _ _ _ _).mono ?_
  rintro e w3 ⟨rfl, hb3⟩
  have HB3 := Aside0.mk (below_after (below_alloc HB2.out (Obj.cells #[Value.int .i64 0, Value.int .i64 0, Value.slice none 0 0] 30)) (Nat.le_refl _) hb3)
  clear hb3 y0 y1 y2
  go_wp2_with fail
  refine (bag_Lose_nil _ _).mono ?_
  rintro e w4 ⟨rfl, hb4⟩
  have HB4 := Aside0.mk (below_after HB3.out (Nat.le_refl _) hb4)
  clear hb4
  go_wp2_with fail
  refine (bag_Twice_nil _ _).mono ?_
  rintro e w5 ⟨rfl, m5, rfl⟩
  go_wp2_with fail
  refine (bag_Len_nil _).mono ?_
  rintro e w6 ⟨rfl, m6, rfl⟩
  go_wp2_with fail
  refine (bag_List_nil _).mono ?_
  rintro e w7 ⟨rfl, m7, rfl⟩
  go_wp2_with fail
  refine (bag_To_nil _ _).mono ?_
  rintro e w8 ⟨rfl, hb8⟩
  have HB8 := Aside0.mk (below_after (show Below (w.alloc (Obj.cells #[Value.int .i64 p.f0, Value.int .i64 p.f1, Value.slice A p.f2.length c] 30)).heap.size (w.alloc (Obj.cells #[Value.int .i64 p.f0, Value.int .i64 p.f1, Value.slice A p.f2.length c] 30)) _ from by (repeat (first | exact HB4.out | apply pw_below_drewN))) (Nat.le_refl _) hb8)
  clear hb8
  go_wp2_with fail
  refine (bag_new _).mono ?_
  rintro e w9 ⟨rfl, hat9, hb9⟩
  have HA9 := Aside0.mk hat9
  have HB9 := Aside0.mk (below_after HB8.out (Nat.le_refl _) hb9)
  have HB89 := Aside0.mk hb9
  have hk := blk_below HK2.out HB9.out
  have y0 : w9.cell? ⟨w.heap.size, 0, none⟩ = some (.int .i64 p.f0) := blk_cell hk 0
  have y1 : w9.cell? ⟨w.heap.size, 1, none⟩ = some (.int .i64 p.f1) := blk_cell hk 1
  have y2 : w9.cell? ⟨w.heap.size, 2, none⟩ = some (.slice A p.f2.length c) := blk_cell hk 2
  clear hat9 hb9 hk
  have HK8 := Aside0.mk (blk_below HK2.out HB8.out)
  have HC8 := Aside0.mk (Kd.C_below HC.out (below_after HB1.out (Nat.le_refl _) HB8.out))
  have HC9 := Aside0.mk (Kd.C_below HC.out (below_after HB1.out (Nat.le_refl _) HB9.out))
  have hn0 : (reps p 0).length = 0 := by unfold reps; split <;> simp
  have hr0 : reps p 0 = [] := by unfold reps; split <;> simp
  rcases hok : putOk [] p with _ | _
  · go_wp2_with fail
    refine (refDo_no1 (fun _ => True) [] none 0 1 0 p A c w9 (Kd.V_nil _ _ _ _ _) rfl hok).mono ?_
    rintro e w10 ⟨v10, A10, c10, rfl, hv10, hl10, hc10, hb10⟩
    obtain ⟨Av, cv, hvv⟩ := Kd.V_slice hv10
    subst hvv
    have HB10 := Aside0.mk hb10
    clear hv10 hl10 hc10 hb10 y0 y1 y2
    go_wp2
    go_loopw [12, 13] (fun nv jv wr => ∃ i : Nat, i ≤ 600 ∧ nv = .int .i64 0 ∧ jv = .int .i64 (i : Int) ∧ Aside0 (∃ P, BagAt wr w8.heap.size w8.heap.size P []) ∧ Aside0 (Below w8.heap.size w8 wr)) (fun _ jv _ => 700 - (intOf jv).toNat)
    case atStart => exact ⟨0, by omega, rfl, rfl, ⟨_, HA9.out.below (below_alloc HB10.out _)⟩, ⟨below_after HB89.out (Nat.le_refl _) (below_alloc HB10.out _)⟩⟩
    case round =>
      obtain ⟨i, hi, rfl, rfl, HA, HB⟩ := hrel
      obtain ⟨P, hA⟩ := HA.out
      have HA2 := Aside0.mk hA
      clear hA HA
      by_cases hlt : (i : Int) < 512 + more % 8
      · have hk := blk_below HK8.out HB.out
        have y0 : wr.cell? ⟨w.heap.size, 0, none⟩ = some (.int .i64 p.f0) := blk_cell hk 0
        have y1 : wr.cell? ⟨w.heap.size, 1, none⟩ = some (.int .i64 p.f1) := blk_cell hk 1
        have y2 : wr.cell? ⟨w.heap.size, 2, none⟩ = some (.slice A p.f2.length c) := blk_cell hk 2
        have HCr := Aside0.mk (Kd.C_below HC8.out HB.out)
        clear hk
        have hwi : IntKind.i64.wrap ((i : Int) + 1) = (i : Int) + 1 := by rw [IntKind.wrap_i64]; omega
        go_wp2_with fail
        refine (bag_Put _ _ _ [] p A c _ HA2.out HCr.out HCC.out hpl).mono ?_
        rw [hok]
        rintro e w11 ⟨rfl, hs⟩
        obtain ⟨P2, hat, _⟩ := hs.at_
        have e0 : putL [] p = [] := by unfold putL; rw [hok]; rfl
        rw [e0] at hat
        have HA3 := Aside0.mk hat
        have HB3 := Aside0.mk (HB.out.trans hs.below)
        clear hs hat e0 y0 y1 y2
        go_wp2
        go_round
        case rel => exact ⟨i + 1, by omega, rfl, by simp, ⟨_, HA3.out⟩, ⟨HB3.out⟩⟩
        case measure => simp [intOf]; omega
      · go_wp2_with fail
        refine (bag_awake _).mono ?_
        rintro e w12 ⟨rfl, hb12⟩
        have HB12 := Aside0.mk (below_after HB.out (Nat.le_refl _) hb12)
        clear hb12
        go_wp2
        go_ret
        exact ⟨rfl, below_after (below_after HB1.out (Nat.le_refl _) HB8.out) (Nat.le_refl _) HB12.out⟩
  · go_wp2_with fail
    refine (refDo_yes1 (fun _ => True) [] none 0 1 0 p A c w9 (Kd.V_nil _ _ _ _ _) (Kd.F_mono (Kd.C_F (Kd.heap_int .u8) HC9.out) (fun _ _ => trivial)) HCC.out rfl hok).mono ?_
    rintro e w10 ⟨v10, A10, c10, rfl, hv10, hl10, hc10, hb10⟩
    obtain ⟨Av, cv, hvv⟩ := Kd.V_slice hv10
    subst hvv
    have HB10 := Aside0.mk hb10
    clear hv10 hl10 hc10 hb10 y0 y1 y2
    go_wp2
    go_loopw [12, 13] (fun nv jv wr => ∃ i : Nat, i ≤ 600 ∧ (i : Int) ≤ 512 + more % 8 ∧ nv = .int .i64 ((min i 512 : Nat) : Int) ∧ jv = .int .i64 (i : Int) ∧ Aside0 (∃ P, BagAt wr w8.heap.size w8.heap.size P (reps p i)) ∧ Aside0 (Below w8.heap.size w8 wr)) (fun _ jv _ => 700 - (intOf jv).toNat)
    case atStart => exact ⟨0, by omega, by omega, rfl, rfl, ⟨_, by rw [hr0]; exact HA9.out.below (below_alloc HB10.out _)⟩, ⟨below_after HB89.out (Nat.le_refl _) (below_alloc HB10.out _)⟩⟩
    case round =>
      obtain ⟨i, hi, hiN, rfl, rfl, HA, HB⟩ := hrel
      obtain ⟨P, hA⟩ := HA.out
      have HA2 := Aside0.mk hA
      clear hA HA
      by_cases hlt : (i : Int) < 512 + more % 8
      · have hk := blk_below HK8.out HB.out
        have y0 : wr.cell? ⟨w.heap.size, 0, none⟩ = some (.int .i64 p.f0) := blk_cell hk 0
        have y1 : wr.cell? ⟨w.heap.size, 1, none⟩ = some (.int .i64 p.f1) := blk_cell hk 1
        have y2 : wr.cell? ⟨w.heap.size, 2, none⟩ = some (.slice A p.f2.length c) := blk_cell hk 2
        have HCr := Aside0.mk (Kd.C_below HC8.out HB.out)
        clear hk
        have hwi : IntKind.i64.wrap ((i : Int) + 1) = (i : Int) + 1 := by rw [IntKind.wrap_i64]; omega
        obtain ⟨hp1, hp2⟩ := reps_put p i
        rw [hok, Bool.true_and] at hp2
        have HP1 := Aside0.mk hp1
        clear hp1
        go_wp2_with fail
        refine (bag_Put _ _ _ (reps p i) p A c _ HA2.out HCr.out HCC.out hpl).mono ?_
        rw [hp2, HP1.out]
        by_cases h512 : i < 512
        · rw [decide_eq_true h512]
          rintro e w11 ⟨rfl, hs⟩
          obtain ⟨P2, hat, _⟩ := hs.at_
          have HA3 := Aside0.mk hat
          have HB3 := Aside0.mk (HB.out.trans hs.below)
          clear hs hat y0 y1 y2 hp2
          have hwm : IntKind.i64.wrap (((min i 512 : Nat) : Int) + 1) = ((min (i + 1) 512 : Nat) : Int) := by rw [IntKind.wrap_i64]; omega
          obtain ⟨mm, hmm⟩ : ∃ mm, mm = ((min i 512 : Nat) : Int) := ⟨_, rfl⟩
          rw [← hmm] at hwm ⊢
          clear hmm
          go_wp2
          go_round
          case rel => exact ⟨i + 1, by omega, by omega, rfl, by simp, ⟨_, HA3.out⟩, ⟨HB3.out⟩⟩
          case measure => simp [intOf]; omega
        · rw [decide_eq_false h512]
          rintro e w11 ⟨rfl, hs⟩
          obtain ⟨P2, hat, _⟩ := hs.at_
          have HA3 := Aside0.mk hat
          have HB3 := Aside0.mk (HB.out.trans hs.below)
          clear hs hat y0 y1 y2 hp2
          go_wp2
          go_round
          case rel => exact ⟨i + 1, by omega, by omega, by simp; omega, by simp, ⟨_, HA3.out⟩, ⟨HB3.out⟩⟩
          case measure => simp [intOf]; omega
      · have hi512 : 512 ≤ i := by omega
        have hmin : ((min i 512 : Nat) : Int) = 512 := by omega
        have hL : reps p i = List.replicate 512 p := by unfold reps; rw [if_pos hok, show min i 512 = 512 by omega]
        rw [hL] at HA2
        rw [hmin]
        have HTake := Aside0.mk (full_take p)
        have HTw1 := Aside0.mk (full_tw1 p hok)
        have HTw2 := Aside0.mk (full_tw2 p hok)
        obtain ⟨ks, hks⟩ := packet_same p (by omega)
        have HKS := Aside0.mk hks
        have hdr : ∀ n, ∀ q ∈ List.replicate n p, q.f2.length < 140737488355328 := fun n q hq => by rw [List.eq_of_mem_replicate hq]; exact hpl
        have HDR := Aside0.mk hdr
        clear hL hmin hks hdr hr0 hn0
        go_wp2_with fail
        refine (bag_Take _ _ _ _ 511 _ HA2.out (by rw [List.length_replicate]; omega)).mono ?_
        rw [HTake.out.1, HTake.out.2.1, HTake.out.2.2]
        rintro e w11 ⟨A2, c2, rfl, hl2, hC2, hs⟩
        obtain ⟨P3, hat3, _⟩ := hs.at_
        have HA3 := Aside0.mk hat3
        have HB3 := Aside0.mk (HB.out.trans hs.below)
        have HC2 := Aside0.mk hC2
        have HL2 := Aside0.mk hl2
        have hk := blk_below HK8.out HB3.out
        have y0 : w11.cell? ⟨w.heap.size, 0, none⟩ = some (.int .i64 p.f0) := blk_cell hk 0
        have y1 : w11.cell? ⟨w.heap.size, 1, none⟩ = some (.int .i64 p.f1) := blk_cell hk 1
        have y2 : w11.cell? ⟨w.heap.size, 2, none⟩ = some (.slice A p.f2.length c) := blk_cell hk 2
        have hw11 : w.heap.size < w11.heap.size := blk_lt hk
        have HCr := Aside0.mk (Kd.C_below HC8.out HB3.out)
        clear hs hat3 hl2 hC2 hk
        go_wp2_with fail
        refine (changeoverref38_Same.calls ks p.f0 p.f1 A2 c2 p.f2 p.f0 p.f1 A c p.f2 true _ (Kd.C_alloc HC2.out _) HL2.out (Kd.C_alloc HCr.out _) HCC.out HKS.out).mono ?_
        rintro e w12 ⟨rfl, hb12⟩
        have HB12 := Aside0.mk (below_after (below_alloc (Below.refl w11.heap.size w11) (Obj.cells #[Value.int .i64 p.f0, Value.int .i64 p.f1, Value.slice A2 p.f2.length c2] 30)) (Nat.le_refl _) hb12)
        clear hb12
        go_wp2_with fail
        refine (bag_Twice _ _ _ _ 0 _ (HA3.out.below HB12.out) (HDR.out 511)).mono ?_
        rw [HTw1.out.1, HTw1.out.2]
        rintro e w13 ⟨rfl, hs⟩
        obtain ⟨P4, hat4, _⟩ := hs.at_
        have HA4 := Aside0.mk hat4
        have HB4' := Aside0.mk ((below_after HB3.out (Nat.le_refl _) HB12.out).trans hs.below)
        clear hs hat4 y0 y1 y2
        go_wp2_with fail
        refine (bag_Twice _ _ _ _ 0 _ HA4.out (HDR.out 512)).mono ?_
        rw [HTw2.out.1, HTw2.out.2]
        rintro e w14 ⟨rfl, hs⟩
        have HB5 := Aside0.mk (HB4'.out.trans hs.below)
        clear hs
        go_wp2_with fail
        refine (bag_awake _).mono ?_
        rintro e w15 ⟨rfl, hb15⟩
        have HB15 := Aside0.mk (below_after HB5.out (Nat.le_refl _) hb15)
        clear hb15
        go_wp2
        go_ret
        exact ⟨rfl, below_after (below_after HB1.out (Nat.le_refl _) HB8.out) (Nat.le_refl _) HB15.out⟩
theorem BagFull_calls (p : S30) (A : Option Addr) (c : Nat) (more : Int) (w : World) (hC : Kd.C (Kd.int .u8) w A p.f2.length p.f2) (hc : p.f2.length ≤ c) (hm : 0 ≤ more ∧ more ≤ 255) :
    Calls Try.prog 4 #[.agg #[.int .i64 p.f0, .int .i64 p.f1, .slice A p.f2.length c], .int .u8 more] w (BagFullPost w) := by
  by_cases h : 50 < p.f2.length
  · exact BagFull_large p A c more w h
  · exact BagFull_go p A c more w hC hc hm h
end Go.Proofs.Ytncmkcggkgahnaa.PBag
