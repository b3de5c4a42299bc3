-- By the session: contracts proved by hand.
import Derived.Test.YtncmkcggkgahnaaHBag6
namespace Go.Proofs.Ytncmkcggkgahnaa.PBag
open Go.RowKit Go.Proofs.YtncmkcggkgahnaaW.PrintWords Go.Proofs.YtncmkcggkgahnaaW.PrintLast Go.Proofs.YtncmkcggkgahnaaW.PrintMore
set_option linter.unusedVariables false
set_option linter.unusedSimpArgs false
theorem BagStep.then {w w1 w2 : World} {base b : Nat} {P : Nat → Prop} {l : List S30} (h : BagStep w w1 base b P l) (hb : Below w1.heap.size w1 w2) (hB : base ≤ w.heap.size) : BagStep w w2 base b P l := by
  obtain ⟨⟨P', h1, h2⟩, h3, h4⟩ := h
  refine ⟨⟨P', h1.below hb, h2⟩, ⟨Nat.le_trans h3.1 hb.size, fun k hk hn => (hb.block k (Nat.lt_of_lt_of_le hk h3.1)).trans (h3.2 k hk hn)⟩, below_after h4 hB hb⟩
theorem BagStep.undrew {w w2 : World} {m base b : Nat} {P : Nat → Prop} {l : List S30} (h : BagStep (w.drewN m) w2 base b P l) : BagStep w w2 base b P l := ⟨h.at_, h.kept, ⟨h.below.os, h.below.tape, h.below.output, h.below.size, h.below.block⟩⟩
set_option maxHeartbeats 4000000 in
theorem bag_Lose (b base : Nat) (P : Nat → Prop) (l : List S30) (n : Int) (w : World) (h : BagAt w base b P l) (hlt : l.length < 3518437208882) :
    Calls Try.prog 21 #[.pointer (some ⟨b, 0, none⟩), .int .i64 n] w fun e w' => e = .returned (.bool (decide (0 ≤ n ∧ n < (l.length : Int)))) ∧ BagStep w w' base b P (takeL l n) := by
  have HBA := Aside0.mk h
  have HBW : base ≤ w.heap.size := Nat.le_trans h.1 (Nat.le_of_lt h.lt)
  clear h
  go_enter Try.func21, Try.ntmps21
  go_wp2_with fail
  refine (bag_Take b base P l n _ HBA.out hlt).mono ?_
  rintro e w1 ⟨A2, c2, rfl, hl2, hC2, hs⟩
  have HS := Aside0.mk hs
  clear hs hC2 hl2
  go_wp2
  go_ret
  refine ⟨by simp, HS.out.then ?_ HBW⟩
  first
    | exact below_alloc (Below.refl _ _) _
    | exact Below.setCell (Below.setCell (Below.setCell (below_alloc (Below.refl _ _) _) (Nat.le_refl _) _) (Nat.le_refl _) _) (Nat.le_refl _) _
theorem bag_Lose_nil (n : Int) (w : World) : Calls Try.prog 21 #[.pointer none, .int .i64 n] w fun e w' => e = .returned (.bool false) ∧ Below w.heap.size w w' := by
  go_enter Try.func21, Try.ntmps21
  go_wp2_with fail
  refine (bag_Take_nil n _).mono ?_
  rintro e w1 ⟨rfl, hb⟩
  have HB := Aside0.mk hb
  clear hb
  go_wp2
  go_ret
  exact ⟨rfl, below_after HB.out (Nat.le_refl _) (below_alloc (Below.refl _ _) _)⟩
def twiceOk (l : List S30) (n : Int) : Bool := decide (0 ≤ n ∧ n < (l.length : Int)) && putOk l (rdP l n.toNat)
def twiceL (l : List S30) (n : Int) : List S30 := if 0 ≤ n ∧ n < (l.length : Int) then putL l (rdP l n.toNat) else l
set_option maxHeartbeats 4000000 in
theorem bag_Twice (b base : Nat) (P : Nat → Prop) (l : List S30) (n : Int) (w : World) (h : BagAt w base b P l) (hd : ∀ p ∈ l, p.f2.length < 140737488355328) :
    Calls Try.prog 22 #[.pointer (some ⟨b, 0, none⟩), .int .i64 n] w fun e w' => e = .returned (.bool (twiceOk l n)) ∧ BagStep w w' base b P (twiceL l n) := by
  have HBA := Aside0.mk h
  by_cases hi : 0 ≤ n ∧ n < (l.length : Int)
  · obtain ⟨i, rfl⟩ := Int.eq_ofNat_of_zero_le hi.1
    have hil : i < l.length := by omega
    have hlti := hi.2
    have hib : decide (0 ≤ (i : Int) ∧ (i : Int) < (l.length : Int)) = true := decide_eq_true hi
    have e1 : twiceOk l (i : Int) = putOk l (rdP l i) := by unfold twiceOk; rw [hib]; simp
    have e2 : twiceL l (i : Int) = putL l (rdP l i) := by unfold twiceL; rw [if_pos hi]; simp
    rw [e1, e2]
    obtain ⟨A, c, hx, hlc, hC⟩ := h.cell
    obtain ⟨ad, A2, c2, rfl, hx0, hx1, hx2, hl2, hC2⟩ := at_T30 hC (i : Int) (by omega) (by omega)
    rw [rdP_T30] at hx0 hx1 hx2 hl2 hC2
    rw [Int.toNat_natCast] at hx0 hx1 hx2
    have hdi : (rdP l i).f2.length < 140737488355328 := hd _ (by unfold rdP; rw [List.getD_eq_getElem?_getD, List.getElem?_eq_getElem hil]; exact List.getElem_mem hil)
    have HL2 := Aside0.mk hl2
    have HC2 := Aside0.mk hC2
    clear h e1 e2 hl2 hC2 hC hi
    go_enter Try.func22, Try.ntmps22
    go_wp2_with fail
    refine (bag_is b base P l _ _ HBA.out).mono ?_
    rw [hib]
    rintro e w1 ⟨rfl, m1, rfl⟩
    go_wp2_with fail
    refine (bag_Put b base P l (rdP l i) A2 c2 _ (HBA.out.drewN m1) (Kd.C_drewN HC2.out m1) HL2.out hdi).mono ?_
    rintro e w2 ⟨rfl, hs⟩
    have HS := Aside0.mk hs
    clear hs
    go_wp2
    go_ret
    exact ⟨by simp, BagStep.undrew HS.out⟩
  · have hib : decide (0 ≤ n ∧ n < (l.length : Int)) = false := decide_eq_false hi
    have e1 : twiceOk l n = false := by unfold twiceOk; rw [hib]; rfl
    have e2 : twiceL l n = l := by unfold twiceL; rw [if_neg hi]
    rw [e1, e2]
    clear h hi e1 e2
    go_enter Try.func22, Try.ntmps22
    go_wp2_with fail
    refine (bag_is b base P l _ _ HBA.out).mono ?_
    rw [hib]
    rintro e w1 ⟨rfl, m1, rfl⟩
    go_wp2
    go_ret
    exact ⟨rfl, BagStep.quiet HBA.out (pw_below_drewN (Below.refl _ _) _)⟩
theorem bag_Twice_nil (n : Int) (w : World) : Calls Try.prog 22 #[.pointer none, .int .i64 n] w fun e w' => e = .returned (.bool false) ∧ Drawn0 w w' := by
  go_enter Try.func22, Try.ntmps22
  go_wp2_with fail
  refine (bag_is_nil _ _).mono ?_
  rintro e w1 ⟨rfl, m1, rfl⟩
  go_wp2
  go_ret
  exact ⟨rfl, ⟨m1, rfl⟩⟩
theorem bag_Put_nil (f0 f1 : Int) (v : Value) (w : World) : Calls Try.prog 20 #[.pointer none, .agg #[.int .i64 f0, .int .i64 f1, v]] w fun e w' => e = .returned (.bool false) ∧ Below w.heap.size w w' := by
  go_enter Try.func20, Try.ntmps20
  go_wp2
  go_ret
  exact ⟨rfl, below_alloc (Below.refl _ _) _⟩
theorem bag_List_nil (w : World) : Calls Try.prog 16 #[.pointer none] w fun e w' => e = .returned (.slice none 0 0) ∧ Drawn0 w w' := by
  go_enter Try.func16, Try.ntmps16
  go_wp2
  go_ret
  exact ⟨rfl, Drawn0.refl _⟩
/-! New -/
theorem bag_new (w : World) : Calls Try.prog 10 #[] w fun e w' => e = .returned (.pointer (some ⟨w.heap.size, 0, none⟩)) ∧ BagAt w' w.heap.size w.heap.size (fun _ => False) [] ∧ Below w.heap.size w w' := by
  have HK := Aside0.mk (heap_alloc_new w (Obj.cells #[.slice none 0 0] 70))
  go_enter Try.func10, Try.ntmps10
  go_wp2
  go_ret
  exact ⟨rfl, ⟨Nat.le_refl _, fun h => h, fun k hk => hk.elim, _, HK.out, Kd.R_nil _ _ _ _ _⟩, below_alloc (Below.refl _ _) _⟩

/-! List -/
set_option maxHeartbeats 8000000 in
set_option maxRecDepth 100000 in
theorem bag_List (b base : Nat) (P : Nat → Prop) (l : List S30) (w : World) (h : BagAt w base b P l) (hd : ∀ p ∈ l, p.f2.length < 140737488355328) (hlt : l.length < 1000000000) :
    Calls Try.prog 16 #[.pointer (some ⟨b, 0, none⟩)] w fun e w' => ∃ v, e = .returned v ∧ Kd.R k30 30 w' w.heap.size (fun _ => True) v l ∧ Below w.heap.size w w' := by
  have HBA := Aside0.mk h
  obtain ⟨Ab, cb, hx, hlc, hC⟩ := h.cell
  have HC := Aside0.mk hC
  clear h hC
  go_enter Try.func16, Try.ntmps16
  go_wp2
  go_loopw [3, 13] (fun v j wr => ∃ i : Nat, i ≤ l.length ∧ j = .int .i64 (i : Int) ∧ Aside0 (Kd.R k30 30 wr w.heap.size (fun _ => True) v (l.take i)) ∧ Aside0 (Below w.heap.size w wr)) (fun _ j _ => l.length + 1 - (intOf j).toNat)
  case atStart => exact ⟨0, Nat.zero_le _, rfl, ⟨Kd.R_nil _ _ _ _ _⟩, ⟨Below.refl _ _⟩⟩
  case round =>
    obtain ⟨i, hi, rfl, HR, HB⟩ := hrel
    rcases Nat.lt_or_ge i l.length with hil | hil
    · obtain ⟨ad, A2, c2, rfl, hx0, hx1, hx2, hl2, hC2⟩ := at_T30 HC.out (i : Int) (by omega) (by omega)
      rw [rdP_T30] at hx0 hx1 hx2 hl2 hC2
      rw [Int.toNat_natCast] at hx0 hx1 hx2
      have hdi : (rdP l i).f2.length < 140737488355328 := hd _ (by unfold rdP; rw [List.getD_eq_getElem?_getD, List.getElem?_eq_getElem hil]; exact List.getElem_mem hil)
      have HL2 := Aside0.mk hl2
      have HC2 := Aside0.mk hC2
      have y0 := pw_cell_below HB.out hx0
      have y1 := pw_cell_below HB.out hx1
      have y2 := pw_cell_below HB.out hx2
      have hlti : (i : Int) < (l.length : Int) := by omega
      have hwi : IntKind.i64.wrap ((i : Int) + 1) = (i : Int) + 1 := by rw [IntKind.wrap_i64]; omega
      have e1 : l.take (i + 1) = l.take i ++ [rdP l i] := by
        rw [List.take_succ_eq_append_getElem hil]
        simp [rdP, List.getD_eq_getElem?_getD, List.getElem?_eq_getElem hil]
      have hlen : (l.take i).length = i := by rw [List.length_take]; omega
      obtain ⟨L, hL⟩ : ∃ L, L = l.take i := ⟨_, rfl⟩
      rw [← hL] at HR e1 hlen
      have HE := Aside0.mk e1
      have HLEN := Aside0.mk hlen
      clear hL
      obtain ⟨A1, c1, hv⟩ := Kd.R_slice HR.out
      subst hv
      clear hx0 hx1 hx2 hl2 hC2 e1 hlen
      have HB1 := Aside0.mk (below_alloc HB.out (Obj.cells #[Value.int .i64 (rdP l i).f0, Value.int .i64 (rdP l i).f1, Value.slice A2 (rdP l i).f2.length c2] 30))
      have hsz1 : (wr.alloc (Obj.cells #[Value.int .i64 (rdP l i).f0, Value.int .i64 (rdP l i).f1, Value.slice A2 (rdP l i).f2.length c2] 30)).heap.size = wr.heap.size + 1 := by simp
      go_wp2_with fail
      refine (bag_copied.calls (rdP l i).f0 (rdP l i).f1 A2 c2 (rdP l i).f2 (rdP l i).f0 (rdP l i).f1 (rdP l i).f2 _ (Kd.C_below HC2.out HB1.out) HL2.out (by simp [bag_copied.f, slices_Clone_byte_byte.f, hdi])).mono ?_
      rintro e w3 ⟨v3, rfl, h3, hb3⟩
      obtain ⟨A3, c3, hv3⟩ := Kd.R_slice h3
      subst hv3
      rw [hsz1] at h3
      have hb13 : Below wr.heap.size wr w3 := below_after (below_alloc (Below.refl _ _) _) (Nat.le_refl _) hb3
      have HM := Aside0.mk (k30_mkM w3 w.heap.size (fun k => wr.heap.size + 1 ≤ k) (rdP l i) (Kd.R_mono (Kd.R_bound (Kd.R_lower h3 (base' := wr.heap.size + 1) (Nat.le_refl _))) (fun k hk => hk.2.1) |> fun h => Kd.R_lower h (by have := HB.out.size; omega)))
      have HR3 := Aside0.mk (Kd.R_below HR.out hb13)
      have HB3 := Aside0.mk (below_after HB.out (Nat.le_refl _) hb13)
      have HOK : Aside0 (∀ k, wr.heap.size + 1 ≤ k → True ∧ some k ≠ (Value.slice A1 L.length c1).ownBlock) := ⟨fun k hk => ⟨trivial, fun h => by
        obtain ⟨inner, ho⟩ := Kd.R_own HR.out
        have := own_lt ho k h.symm
        omega⟩⟩
      clear h3 hb3 hb13 HR HB hsz1
      go_wp2_with (refine Kd.R_append k30 (w0 := w) w.heap.size rfl (.tmp 17) (.tmp 20) 27 30 _ 40 rfl Try.underlying27 info30p (by decide) (by decide) (by decide) (.slice A1 L.length c1) L (rdP l i) _ (fun _ => True) (fun k => wr.heap.size + 1 ≤ k) (by first | rfl | simp [Act.eval, Act.put]) (by first | rfl | simp [Act.eval, Act.put]) HM.out HOK.out (fun _ _ => trivial) HR3.out HB3.out HB3.out.size (by rw [HLEN.out]; omega) ?_; intro v4 w4 hr4 hb4 hg4 hat4; have HR4 := Aside0.mk hr4; have HB4 := Aside0.mk hb4; clear hr4 hb4 hg4 hat4)
      go_round
      case rel => exact ⟨i + 1, by omega, by simp, ⟨by rw [HE.out]; exact HR4.out⟩, ⟨HB4.out⟩⟩
      case measure => simp [intOf]; omega
    · obtain rfl : i = l.length := by omega
      have HR5 : Aside0 (Kd.R k30 30 wr w.heap.size (fun _ => True) _ l) := ⟨by have := HR.out; rwa [List.take_length] at this⟩
      have hnl : ¬ (l.length : Int) < (l.length : Int) := by omega
      clear HR
      go_wp2
      go_ret
      exact ⟨_, rfl, HR5.out, HB.out⟩
end Go.Proofs.Ytncmkcggkgahnaa.PBag
