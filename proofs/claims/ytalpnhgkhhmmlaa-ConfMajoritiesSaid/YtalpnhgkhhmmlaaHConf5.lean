-- By the session: contracts proved by hand.
import Derived.Test.YtalpnhgkhhmmlaaPConfx0
import Derived.Test.YtalpnhgkhhmmlaaHGen
import Derived.Test.YtalpnhgkhhmmlaaPConfx1
import Derived.Test.YtalpnhgkhhmmlaaPConfx3
namespace Go.Proofs.Ytalpnhgkhhmmlaa.PConf
open Go.RowKit Go.Proofs.Ytalpnhgkhhmmlaa Go.Proofs.YtalpnhgkhhmmlaaW.PrintWords Go.Proofs.YtalpnhgkhhmmlaaW.PrintLast Go.Proofs.YtalpnhgkhhmmlaaW.PrintMore
attribute [local go_sem] max2_int min2_int max_two min_two
set_option linter.unusedVariables false
set_option linter.unusedSimpArgs false
/-! conf.Change: function 11 -/

theorem block_of_add' {a : Addr} {n : Nat} : (a.add n).block = a.block := by unfold Addr.add; split <;> rfl
def changeFrom (l0 : List S39) (a1 : Int) : Int := mx (wrap64 (a1 + 4)) (rd_T39 l0 ((l0.length : Int) - 1)).f0
def conf_Change.f (k : Nat) (l0 : List S39) (a1 : Int) (a2 : Int) (a3 : Int) : Option (List S39 × Int) :=
  (conf_Check.f k l0).bind fun t => if t = 0 then (if a1 < 1 ∨ a1 > 4294967292 then some ([], 6) else if 0 < l0.length ∧ l0.length < 1000000000000 then ((conf_changed.f k (rd_T39 l0 ((l0.length : Int) - 1)).f1 a2 a3).bind fun m => if m.2 = true then ((conf_clone.f k l0).bind fun out =>
      if out.length = l0.length then some ((if changeFrom l0 a1 = (rd_T39 l0 ((l0.length : Int) - 1)).f0 then out.take (out.length - 1) else out) ++ [⟨changeFrom l0 a1, m.1⟩], 0) else none) else some ([], 16)) else none) else some ([], t)
theorem conf_Change.mono : ∀ a0 a1 a2 a3 k, LeO (conf_Change.f k a0 a1 a2 a3) (conf_Change.f (k + 1) a0 a1 a2 a3) := by
  intro a0 a1 a2 a3 k
  unfold conf_Change.f
  repeat' first
      | (with_reducible exact conf_Check.mono _ _)
      | (with_reducible exact conf_changed.mono _ _ _ _)
      | (with_reducible exact conf_clone.mono _ _)
      | (with_reducible exact LeO.refl _)
      | (with_reducible exact LeO.none _)
      | (with_reducible refine LeO.ite ?_ ?_)
      | (with_reducible refine LeO.bind ?_ (fun _ => ?_))
theorem info39' : (Try.prog.info? 39).map (fun i => (i.zero, i.size, i.bytes)) = some (some (.agg #[(.int .i64 0), (.slice none 0 0)]), 2, 32) := by kernel_rfl
set_option maxHeartbeats 4000000 in
set_option maxRecDepth 100000 in
theorem conf_Change.calls (k : Nat) (A0 : Option Addr) (c0 : Nat) (l0 : List S39) (a1 : Int) (a2 : Int) (a3 : Int) (r1 : List S39) (r2 : Int) (w : World) (hr0 : Kd.C k39 w A0 l0.length l0) (hc0 : l0.length ≤ c0) (h : conf_Change.f k l0 a1 a2 a3 = some (r1, r2)) :
    Calls Try.prog 11 #[.slice A0 l0.length c0, .int .i64 a1, .int .i64 a2, .int .i64 a3] w fun e w' => ∃ v0_ : Value, e = .returned (.tuple #[v0_, .int .i64 r2]) ∧ Kd.V k39 39 w' w.heap.size (fun k_ => (w.heap.size ≤ k_)) v0_ r1 ∧ Below w.heap.size w w' := by
  have hu39 := Try.underlying39
  unfold conf_Change.f at h
  replace h := Option.bind_eq_some_iff.mp h
  obtain ⟨t, ht, h⟩ := h
  have HR := Aside0.mk hr0
  have HT := Aside0.mk ht
  have HC0 := Aside0.mk hc0
  clear hr0 ht hc0
  by_cases hz : t = 0
  case neg =>
    rw [if_neg hz] at h
    obtain ⟨rfl, rfl⟩ := Prod.mk.inj (Option.some.inj h)
    have hzb : (t != 0) = true := by simpa using hz
    clear h hz
    go_enter Try.func11, Try.ntmps11
    go_wp2_with (go_at_call 19; refine (conf_Check.calls k _ _ _ _ _ HR.out HC0.out HT.out).mono ?_; rintro e w1 ⟨rfl, hb1⟩; have HB1 := Aside0.mk hb1; clear hb1)
    go_ret2
    exact ⟨_, rfl, Kd.V_nil _ _ _ _ _, HB1.out⟩
  case pos =>
    subst hz
    rw [if_pos rfl] at h
    by_cases hran : a1 < 1 ∨ a1 > 4294967292
    · rw [if_pos hran] at h
      obtain ⟨rfl, rfl⟩ := Prod.mk.inj (Option.some.inj h)
      clear h
      rcases hran with hran | hran
      all_goals
        go_enter Try.func11, Try.ntmps11
        go_wp2_with (go_at_call 19; refine (conf_Check.calls k _ _ _ _ _ HR.out HC0.out HT.out).mono ?_; rintro e w1 ⟨rfl, hb1⟩; have HB1 := Aside0.mk hb1; clear hb1)
        go_ret2
        exact ⟨_, rfl, Kd.V_nil _ _ _ _ _, HB1.out⟩
    · rw [if_neg hran] at h
      by_cases hlen : 0 < l0.length ∧ l0.length < 1000000000000
      case neg => rw [if_neg hlen] at h; cases h
      rw [if_pos hlen] at h
      obtain ⟨hlen, hbig⟩ := hlen
      replace h := Option.bind_eq_some_iff.mp h
      obtain ⟨⟨m, ok⟩, hm, h⟩ := h
      obtain ⟨ad, A1, c1, rfl, hx0, hx1, hl1, hC1⟩ := at_T39 HR.out ((l0.length : Int) - 1) (by omega) (by omega)
      obtain ⟨L, hL⟩ : ∃ L, L = rd_T39 l0 ((l0.length : Int) - 1) := ⟨_, rfl⟩
      rw [← hL] at h hm hx0 hx1 hl1 hC1
      have HM := Aside0.mk hm
      have HCL := Aside0.mk hC1
      have HLL := Aside0.mk hl1
      have hn1 : ((l0.length : Int) - 1).toNat = l0.length - 1 := by omega
      rw [hn1] at hx0 hx1
      have HL := Aside0.mk hL
      clear hm hC1 hL hn1 hl1
      have hr1 : ¬ a1 < 1 := fun h => hran (.inl h)
      have hr2 : ¬ a1 > 4294967292 := fun h => hran (.inr h)
      clear hran
      by_cases hok : ok = true
      case neg =>
        obtain rfl : ok = false := by simpa using hok
        simp at h
        obtain ⟨rfl, rfl⟩ := h
        go_enter Try.func11, Try.ntmps11
        go_wp2_with (go_at_call 19; refine (conf_Check.calls k _ _ _ _ _ HR.out HC0.out HT.out).mono ?_; rintro e w1 ⟨rfl, hb1⟩; have HB1 := Aside0.mk hb1; have y0 := pw_cell_below hb1 hx0; have y1 := pw_cell_below hb1 hx1; clear hb1)
        go_wp2_with (go_at_call 34; refine (conf_changed.calls k _ _ _ _ _ _ _ _ (Kd.C_alloc (Kd.C_below HCL.out HB1.out) _) HLL.out HM.out).mono ?_; rintro e w2 ⟨vm, rfl, hrm, hb2⟩; have HB2 := Aside0.mk hb2; clear hb2 hrm)
        go_ret2
        exact ⟨_, rfl, Kd.V_nil _ _ _ _ _, below_then (below_alloc HB1.out _) (by have := HB1.out.size; simp; omega) HB2.out⟩
      subst hok
      simp only [if_true] at h
      replace h := Option.bind_eq_some_iff.mp h
      obtain ⟨out, hout, h⟩ := h
      have HO := Aside0.mk hout
      clear hout
      by_cases hol : out.length = l0.length
      case neg => rw [if_neg hol] at h; cases h
      rw [if_pos hol] at h
      obtain ⟨h1, h2⟩ := Prod.mk.inj (Option.some.inj h)
      subst h2
      have HR1 := Aside0.mk h1
      have HOL := Aside0.mk hol
      clear h h1 hol
      have hw4 : IntKind.i64.wrap (a1 + 4) = a1 + 4 := by rw [IntKind.wrap_i64]; omega
      have hcf : changeFrom l0 a1 = mx (a1 + 4) L.f0 := by unfold changeFrom; rw [← HL.out]; congr 1; unfold wrap64; omega
      rw [hcf] at HR1
      clear hcf
      rcases Int.lt_trichotomy (a1 + 4) L.f0 with hlt | heq | hgt
      · have hmx : mx (a1 + 4) L.f0 = L.f0 := by unfold mx; split <;> omega
        rw [hmx, if_pos rfl] at HR1
        clear hmx
        have hmax : a1 + 4 < L.f0 := hlt
        go_enter Try.func11, Try.ntmps11
        go_wp2_with (go_at_call 19; refine (conf_Check.calls k _ _ _ _ _ HR.out HC0.out HT.out).mono ?_; rintro e w1 ⟨rfl, hb1⟩; have HB1 := Aside0.mk hb1; have y0 := pw_cell_below hb1 hx0; have y1 := pw_cell_below hb1 hx1; clear hb1)
        go_wp2_with (go_at_call 34; refine (conf_changed.calls k _ _ _ _ _ _ _ _ (Kd.C_alloc (Kd.C_below HCL.out HB1.out) _) HLL.out HM.out).mono ?_; rintro e w2 ⟨vm, rfl, hrm, hb2⟩; obtain ⟨Am, cm, hvm⟩ := Kd.R_slice hrm; subst hvm; have HB2 := Aside0.mk hb2; have HRM := Aside0.mk hrm; have z0 := pw_cell_below hb2 (show _ = some (.int .i64 L.f0) from (blk_cell (heap_alloc_new w1 _) 0)); clear hb2 hrm)
        have HBW2 := Aside0.mk (below_then (below_alloc HB1.out (Obj.cells #[Value.int IntKind.i64 L.f0, Value.slice A1 L.f1.length c1] 39)) (by have := HB1.out.size; simp; omega) HB2.out)
        go_wp2_with fail
        refine (conf_clone.calls k _ _ _ _ _ (Kd.C_below HR.out HBW2.out) HC0.out HO.out).mono ?_
        rintro e w3 ⟨vo, rfl, hso, hb3⟩
        have HB3 := Aside0.mk hb3
        have HSO := Aside0.mk hso
        have x0 := pw_cell_below hb3 z0
        obtain ⟨g, cg, hvo, hgb, hgl, _⟩ := Kd.N_form (Kd.S_N hso) (by rw [HOL.out]; omega)
        subst hvo
        clear hb3 hso
        simp only [HOL.out]
        have HBW3 := Aside0.mk (below_then HBW2.out HBW2.out.size HB3.out)
        have HN : Aside0 (Kd.N k39 39 w3 w.heap.size (fun k_ => w.heap.size ≤ k_) (.slice (some ⟨g, 0, none⟩) out.length cg) out) := ⟨by
          have h1 := Kd.R_bound (Kd.S_R HSO.out)
          have h2 := Kd.R_N (Kd.R_mono (ok' := fun k_ => w.heap.size ≤ k_) h1 (fun k hk => Nat.le_trans HBW2.out.size hk.2.1))
          exact Kd.N_lower h2 HBW2.out.size⟩
        have HPF := Aside0.mk (k39_mkF w3 (fun k_ => w.heap.size ≤ k_ ∧ k_ < w2.heap.size) ⟨L.f0, m⟩ (Kd.R_reads' HRM.out).2.1 (by
          have h1 := Kd.R_F (Kd.R_below (Kd.R_bound HRM.out) HB3.out)
          exact Kd.F_mono h1 (fun k hk => ⟨Nat.le_trans (Nat.le_trans HB1.out.size (by simp)) hk.2.1, hk.2.2.1⟩)))
        have HGB := Aside0.mk hgb
        obtain ⟨i0, hi0, hz0, hzs, hzb⟩ : ∃ i0, Try.prog.info? 39 = some i0 ∧ i0.zero = some (.agg #[(.int .i64 0), (.slice none 0 0)]) ∧ i0.size = 2 ∧ i0.bytes = 32 := by
          obtain ⟨i0, hi, h⟩ := Option.map_eq_some_iff.1 info39'
          simp only [Prod.mk.injEq] at h
          exact ⟨i0, hi, h.1, h.2.1, h.2.2⟩
        have HOlds : Aside0 (∃ olds : List Value, olds.length = (l0.length - 1) * 2 ∧ Reps (fun p c => Kd.FK k39 w3 (fun k_ => w.heap.size ≤ k_) p c) 2 (out.take (out.length - 1)) olds ∧ (∀ j u, olds[j]? = some u → w3.cell? ((⟨g, 0, none⟩ : Addr).add j) = some u) ∧ ∀ u ∈ olds, u.oneCell' = true) := ⟨by
          have h1 := Kd.F_rows (Kd.F_take (m := out.length - 1) (Kd.N_F HN.out) (by omega))
          have hl : (out.take (out.length - 1)).length = out.length - 1 := by simp
          rcases Nat.eq_zero_or_pos (out.length - 1) with h0 | h0
          · refine ⟨[], by rw [← HOL.out, h0]; rfl, by rw [h0, List.take_zero]; exact Reps.none _ _, by simp, by simp⟩
          · obtain ⟨news, hnr, hnc⟩ := ReadsRow.inner_ h1
            refine ⟨news, by rw [hnr.1, hl, HOL.out]; rfl, hnr, hnc, Kd.reps_one hnr (by decide) (fun p c hp => Kd.K_one k39 (Kd.FK_now hp))⟩⟩
        obtain ⟨olds, ho1, ho2, ho3, ho4⟩ := HOlds.out
        have HO1 := Aside0.mk ho1
        have HO2 := Aside0.mk ho2
        have HO3 := Aside0.mk ho3
        clear ho1 ho2 ho3 ho4 HOlds
        have hcap : l0.length ≤ cg := by have := (Kd.N_reads' HN.out).2.1; rw [HOL.out] at this; exact this
        have hb1 : (0 : Int) ≤ (l0.length : Int) - 1 := by omega
        have hb2 : (l0.length : Int) - 1 ≤ (cg : Int) := by omega
        have htn : ((l0.length : Int) - 1).toNat = l0.length - 1 := by omega
        go_wp2_with (at_builtin; refine wpList_append_grows _ rfl (.tmp 62) (.tmp 66) 22 rfl 39 i0 _ 2 32 Try.underlying22 hi0 hz0 hzs hzb rfl (by omega) (some ⟨g, 0, none⟩) (l0.length - 1) (l0.length - 1) olds rfl (by intro h; cases h) HO1.out (fun b hb j u hu => by injection hb with hb; subst hb; rw [World.cell?_alloc_lt _ _ _ (by rw [block_of_add']; exact hgl)]; exact HO3.out j u hu) ⟨w3.heap.size, 0, none⟩ 1 1 [.int .i64 (L.f0), .slice Am m.length cm] rfl rfl (World.news_of_block (cs := #[.int .i64 (L.f0), .slice Am m.length cm]) (t := 39) (fr := (0, 0)) (heap_alloc_new w3 _)) (by simp [Value.oneCell']) (by omega) (by unfold maxLen; omega) (by omega) ?_)
        intro v' w4 hown hg4
        have HOwn := Aside0.mk hown
        have HG4 := Aside0.mk hg4
        clear hown hg4
        go_wp2
        go_ret2
        refine ⟨_, rfl, ?_, ?_⟩
        · rw [← HR1.out]
          have hb4 : Below w3.heap.size w3 w4 := ((Below.refl _ _).alloc (Nat.le_refl _) _).grown HG4.out (by simp) (fun k hk => by cases hk)
          have hlen2 : (out.take (out.length - 1) ++ [(⟨L.f0, m⟩ : S39)]).length = l0.length - 1 + 1 := by simp [HOL.out]
          refine Gen.Kd.V_of_own (base := w3.heap.size + 1) (cs := olds ++ [.int .i64 (L.f0), .slice Am m.length cm]) ?_ ?_ ?_
          · rw [hlen2]
            have hz_ : w4.ownsRow (w3.heap.size + 1) 39 2 v' (l0.length - 1 + 1) (olds ++ [.int .i64 (L.f0), .slice Am m.length cm]) := by simpa using HOwn.out
            exact hz_
          · refine Kd.reps_append (HO2.out.imp_ (fun p c hp => Kd.FK_below hp hb4)) ?_
            have hq : Kd.FK k39 w4 (fun k_ => w.heap.size ≤ k_) (⟨L.f0, m⟩ : S39) [.int .i64 (L.f0), .slice Am m.length cm] := Kd.FK_mono (Kd.FK_below HPF.out hb4) (fun k hk => hk.1)
            skip
            exact (Reps.none _ _).snoc hq rfl
          · intro k hk
            have := own_base HOwn.out k hk
            have := HBW3.out.size
            simp at *
            omega
        · exact (below_alloc HBW3.out _).grown HG4.out (by have := HBW3.out.size; simp; omega) (fun k hk => by cases hk)
      · have hmx : mx (a1 + 4) L.f0 = L.f0 := by unfold mx; split <;> omega
        rw [hmx, if_pos rfl] at HR1
        clear hmx
        have HEQ := Aside0.mk heq
        have hnl : ¬ (a1 + 4 < L.f0) := by omega
        have hbe : ((a1 + 4) == L.f0) = true := by simpa using heq
        clear heq
        go_enter Try.func11, Try.ntmps11
        go_wp2_with (go_at_call 19; refine (conf_Check.calls k _ _ _ _ _ HR.out HC0.out HT.out).mono ?_; rintro e w1 ⟨rfl, hb1⟩; have HB1 := Aside0.mk hb1; have y0 := pw_cell_below hb1 hx0; have y1 := pw_cell_below hb1 hx1; clear hb1)
        go_wp2_with (go_at_call 34; refine (conf_changed.calls k _ _ _ _ _ _ _ _ (Kd.C_alloc (Kd.C_below HCL.out HB1.out) _) HLL.out HM.out).mono ?_; rintro e w2 ⟨vm, rfl, hrm, hb2⟩; obtain ⟨Am, cm, hvm⟩ := Kd.R_slice hrm; subst hvm; have HB2 := Aside0.mk hb2; have HRM := Aside0.mk hrm; have z0 := pw_cell_below hb2 (show _ = some (.int .i64 L.f0) from (blk_cell (heap_alloc_new w1 _) 0)); clear hb2 hrm)
        have HBW2 := Aside0.mk (below_then (below_alloc HB1.out (Obj.cells #[Value.int IntKind.i64 L.f0, Value.slice A1 L.f1.length c1] 39)) (by have := HB1.out.size; simp; omega) HB2.out)
        go_wp2_with fail
        refine (conf_clone.calls k _ _ _ _ _ (Kd.C_below HR.out HBW2.out) HC0.out HO.out).mono ?_
        rintro e w3 ⟨vo, rfl, hso, hb3⟩
        have HB3 := Aside0.mk hb3
        have HSO := Aside0.mk hso
        have x0 := pw_cell_below hb3 z0
        obtain ⟨g, cg, hvo, hgb, hgl, _⟩ := Kd.N_form (Kd.S_N hso) (by rw [HOL.out]; omega)
        subst hvo
        clear hb3 hso
        simp only [HOL.out]
        have HBW3 := Aside0.mk (below_then HBW2.out HBW2.out.size HB3.out)
        have HN : Aside0 (Kd.N k39 39 w3 w.heap.size (fun k_ => w.heap.size ≤ k_) (.slice (some ⟨g, 0, none⟩) out.length cg) out) := ⟨by
          have h1 := Kd.R_bound (Kd.S_R HSO.out)
          have h2 := Kd.R_N (Kd.R_mono (ok' := fun k_ => w.heap.size ≤ k_) h1 (fun k hk => Nat.le_trans HBW2.out.size hk.2.1))
          exact Kd.N_lower h2 HBW2.out.size⟩
        have HPF := Aside0.mk (k39_mkF w3 (fun k_ => w.heap.size ≤ k_ ∧ k_ < w2.heap.size) ⟨a1 + 4, m⟩ (Kd.R_reads' HRM.out).2.1 (by
          have h1 := Kd.R_F (Kd.R_below (Kd.R_bound HRM.out) HB3.out)
          exact Kd.F_mono h1 (fun k hk => ⟨Nat.le_trans (Nat.le_trans HB1.out.size (by simp)) hk.2.1, hk.2.2.1⟩)))
        have HGB := Aside0.mk hgb
        obtain ⟨i0, hi0, hz0, hzs, hzb⟩ : ∃ i0, Try.prog.info? 39 = some i0 ∧ i0.zero = some (.agg #[(.int .i64 0), (.slice none 0 0)]) ∧ i0.size = 2 ∧ i0.bytes = 32 := by
          obtain ⟨i0, hi, h⟩ := Option.map_eq_some_iff.1 info39'
          simp only [Prod.mk.injEq] at h
          exact ⟨i0, hi, h.1, h.2.1, h.2.2⟩
        have HOlds : Aside0 (∃ olds : List Value, olds.length = (l0.length - 1) * 2 ∧ Reps (fun p c => Kd.FK k39 w3 (fun k_ => w.heap.size ≤ k_) p c) 2 (out.take (out.length - 1)) olds ∧ (∀ j u, olds[j]? = some u → w3.cell? ((⟨g, 0, none⟩ : Addr).add j) = some u) ∧ ∀ u ∈ olds, u.oneCell' = true) := ⟨by
          have h1 := Kd.F_rows (Kd.F_take (m := out.length - 1) (Kd.N_F HN.out) (by omega))
          have hl : (out.take (out.length - 1)).length = out.length - 1 := by simp
          rcases Nat.eq_zero_or_pos (out.length - 1) with h0 | h0
          · refine ⟨[], by rw [← HOL.out, h0]; rfl, by rw [h0, List.take_zero]; exact Reps.none _ _, by simp, by simp⟩
          · obtain ⟨news, hnr, hnc⟩ := ReadsRow.inner_ h1
            refine ⟨news, by rw [hnr.1, hl, HOL.out]; rfl, hnr, hnc, Kd.reps_one hnr (by decide) (fun p c hp => Kd.K_one k39 (Kd.FK_now hp))⟩⟩
        obtain ⟨olds, ho1, ho2, ho3, ho4⟩ := HOlds.out
        have HO1 := Aside0.mk ho1
        have HO2 := Aside0.mk ho2
        have HO3 := Aside0.mk ho3
        clear ho1 ho2 ho3 ho4 HOlds
        have hcap : l0.length ≤ cg := by have := (Kd.N_reads' HN.out).2.1; rw [HOL.out] at this; exact this
        have hb1 : (0 : Int) ≤ (l0.length : Int) - 1 := by omega
        have hb2 : (l0.length : Int) - 1 ≤ (cg : Int) := by omega
        have htn : ((l0.length : Int) - 1).toNat = l0.length - 1 := by omega
        go_wp2_with (at_builtin; refine wpList_append_grows _ rfl (.tmp 62) (.tmp 66) 22 rfl 39 i0 _ 2 32 Try.underlying22 hi0 hz0 hzs hzb rfl (by omega) (some ⟨g, 0, none⟩) (l0.length - 1) (l0.length - 1) olds rfl (by intro h; cases h) HO1.out (fun b hb j u hu => by injection hb with hb; subst hb; rw [World.cell?_alloc_lt _ _ _ (by rw [block_of_add']; exact hgl)]; exact HO3.out j u hu) ⟨w3.heap.size, 0, none⟩ 1 1 [.int .i64 (a1 + 4), .slice Am m.length cm] rfl rfl (World.news_of_block (cs := #[.int .i64 (a1 + 4), .slice Am m.length cm]) (t := 39) (fr := (0, 0)) (heap_alloc_new w3 _)) (by simp [Value.oneCell']) (by omega) (by unfold maxLen; omega) (by omega) ?_)
        intro v' w4 hown hg4
        have HOwn := Aside0.mk hown
        have HG4 := Aside0.mk hg4
        clear hown hg4
        go_wp2
        go_ret2
        refine ⟨_, rfl, ?_, ?_⟩
        · rw [← HR1.out]
          have hb4 : Below w3.heap.size w3 w4 := ((Below.refl _ _).alloc (Nat.le_refl _) _).grown HG4.out (by simp) (fun k hk => by cases hk)
          have hlen2 : (out.take (out.length - 1) ++ [(⟨L.f0, m⟩ : S39)]).length = l0.length - 1 + 1 := by simp [HOL.out]
          refine Gen.Kd.V_of_own (base := w3.heap.size + 1) (cs := olds ++ [.int .i64 (a1 + 4), .slice Am m.length cm]) ?_ ?_ ?_
          · rw [hlen2]
            have hz_ : w4.ownsRow (w3.heap.size + 1) 39 2 v' (l0.length - 1 + 1) (olds ++ [.int .i64 (a1 + 4), .slice Am m.length cm]) := by simpa using HOwn.out
            exact hz_
          · refine Kd.reps_append (HO2.out.imp_ (fun p c hp => Kd.FK_below hp hb4)) ?_
            have hq : Kd.FK k39 w4 (fun k_ => w.heap.size ≤ k_) (⟨a1 + 4, m⟩ : S39) [.int .i64 (a1 + 4), .slice Am m.length cm] := Kd.FK_mono (Kd.FK_below HPF.out hb4) (fun k hk => hk.1)
            rw [← HEQ.out]
            exact (Reps.none _ _).snoc hq rfl
          · intro k hk
            have := own_base HOwn.out k hk
            have := HBW3.out.size
            simp at *
            omega
        · exact (below_alloc HBW3.out _).grown HG4.out (by have := HBW3.out.size; simp; omega) (fun k hk => by cases hk)
      · have hmx : ¬ (mx (a1 + 4) L.f0 = L.f0) := by unfold mx; split <;> omega
        have hmx2 : mx (a1 + 4) L.f0 = a1 + 4 := by unfold mx; split <;> omega
        rw [if_neg hmx, hmx2] at HR1
        clear hmx hmx2
        have hnl : ¬ (a1 + 4 < L.f0) := by omega
        have hbe : ((a1 + 4) == L.f0) = false := by simp; omega
        go_enter Try.func11, Try.ntmps11
        go_wp2_with (go_at_call 19; refine (conf_Check.calls k _ _ _ _ _ HR.out HC0.out HT.out).mono ?_; rintro e w1 ⟨rfl, hb1⟩; have HB1 := Aside0.mk hb1; have y0 := pw_cell_below hb1 hx0; have y1 := pw_cell_below hb1 hx1; clear hb1)
        go_wp2_with (go_at_call 34; refine (conf_changed.calls k _ _ _ _ _ _ _ _ (Kd.C_alloc (Kd.C_below HCL.out HB1.out) _) HLL.out HM.out).mono ?_; rintro e w2 ⟨vm, rfl, hrm, hb2⟩; obtain ⟨Am, cm, hvm⟩ := Kd.R_slice hrm; subst hvm; have HB2 := Aside0.mk hb2; have HRM := Aside0.mk hrm; have z0 := pw_cell_below hb2 (show _ = some (.int .i64 L.f0) from (blk_cell (heap_alloc_new w1 _) 0)); clear hb2 hrm)
        have HBW2 := Aside0.mk (below_then (below_alloc HB1.out (Obj.cells #[Value.int IntKind.i64 L.f0, Value.slice A1 L.f1.length c1] 39)) (by have := HB1.out.size; simp; omega) HB2.out)
        go_wp2_with fail
        refine (conf_clone.calls k _ _ _ _ _ (Kd.C_below HR.out HBW2.out) HC0.out HO.out).mono ?_
        rintro e w3 ⟨vo, rfl, hso, hb3⟩
        have HB3 := Aside0.mk hb3
        have HSO := Aside0.mk hso
        have x0 := pw_cell_below hb3 z0
        obtain ⟨g, cg, hvo, hgb, hgl, _⟩ := Kd.N_form (Kd.S_N hso) (by rw [HOL.out]; omega)
        subst hvo
        clear hb3 hso
        simp only [HOL.out]
        have HBW3 := Aside0.mk (below_then HBW2.out HBW2.out.size HB3.out)
        have HN : Aside0 (Kd.N k39 39 w3 w.heap.size (fun k_ => w.heap.size ≤ k_) (.slice (some ⟨g, 0, none⟩) out.length cg) out) := ⟨by
          have h1 := Kd.R_bound (Kd.S_R HSO.out)
          have h2 := Kd.R_N (Kd.R_mono (ok' := fun k_ => w.heap.size ≤ k_) h1 (fun k hk => Nat.le_trans HBW2.out.size hk.2.1))
          exact Kd.N_lower h2 HBW2.out.size⟩
        have HPF := Aside0.mk (k39_mkF w3 (fun k_ => w.heap.size ≤ k_ ∧ k_ < w2.heap.size) ⟨a1 + 4, m⟩ (Kd.R_reads' HRM.out).2.1 (by
          have h1 := Kd.R_F (Kd.R_below (Kd.R_bound HRM.out) HB3.out)
          exact Kd.F_mono h1 (fun k hk => ⟨Nat.le_trans (Nat.le_trans HB1.out.size (by simp)) hk.2.1, hk.2.2.1⟩)))
        have HGB := Aside0.mk hgb
        have HN2 : Aside0 (Kd.N k39 39 w3 w.heap.size (fun k_ => w.heap.size ≤ k_) (.slice (some ⟨g, 0, none⟩) l0.length cg) out) := ⟨by have := HN.out; rwa [HOL.out] at this⟩
        have HOK : Aside0 (∀ k, (w.heap.size ≤ k ∧ k < w2.heap.size) → w.heap.size ≤ k ∧ some k ≠ (Value.slice (some ⟨g, 0, none⟩) l0.length cg).ownBlock) := ⟨fun k hk => ⟨hk.1, fun he => by have h1 : k = g := (by simpa [Value.ownBlock] using he); have := HGB.out; omega⟩⟩
        have HFR : Aside0 (∀ k, w3.heap.size ≤ k → w.heap.size ≤ k) := ⟨fun k hk => by have := HBW3.out.size; omega⟩
        have HLB : Aside0 ((out.length + 1) * 32 ≤ 140737488355328) := ⟨by rw [HOL.out]; omega⟩
        have HLO : Aside0 (l0.length = out.length) := ⟨HOL.out.symm⟩
        go_wp2_with (at_builtin; refine Kd.N_append k39 (w0 := w) w.heap.size rfl (.tmp 62) (.tmp 66) 22 39 (.agg #[(.int .i64 0), (.slice none 0 0)]) 32 rfl Try.underlying22 info39' rfl (by decide) (by omega) _ out ⟨a1 + 4, m⟩ [.int .i64 (a1 + 4), .slice Am m.length cm] (fun k_ => w.heap.size ≤ k_) (fun k_ => w.heap.size ≤ k_ ∧ k_ < w2.heap.size) rfl rfl HPF.out HOK.out HFR.out HN2.out HBW3.out HBW3.out.size HLB.out ?_)
        intro v' w4 hN4 hB4 hg4 hat4
        have HN4 := Aside0.mk hN4
        have HB4 := Aside0.mk hB4
        clear hN4 hB4 hg4 hat4
        go_wp2
        go_ret2
        exact ⟨_, rfl, by rw [← HR1.out]; exact Kd.N_V HN4.out, HB4.out⟩
end Go.Proofs.Ytalpnhgkhhmmlaa.PConf
