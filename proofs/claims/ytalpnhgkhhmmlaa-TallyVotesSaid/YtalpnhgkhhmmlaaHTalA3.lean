-- By the session: contracts proved by hand.
import Derived.Test.YtalpnhgkhhmmlaaHTalA2
import Derived.Test.YtalpnhgkhhmmlaaHTal6
import Derived.Shelf.Abstract
import Derived.Maps.Own
import Derived.Maps.OwnOps
import Derived.Maps.OwnSet
import Derived.Maps.Views
import Derived.Lib.Hide
import Derived.Laws.BitsAllLaws
namespace Go.Proofs.Ytalpnhgkhhmmlaa.PTal
open Go.Maps
open Go.RowKit Go.Shelf Go.Proofs.YtalpnhgkhhmmlaaW.PrintWords Go.Proofs.YtalpnhgkhhmmlaaW.PrintLast Go.Proofs.YtalpnhgkhhmmlaaW.PrintMore
set_option linter.unusedVariables false
set_option linter.unusedSimpArgs false
/-! Nodes, Won: functions 26, 25 -/
def nodesOf (c : Nat) (m : Nat) : List Int := List.map (α := Nat) (fun k => (k : Int)) ((List.range m).filter (fun k => decide (c / 2 ^ k % 2 = 1)))
theorem nodesOf_succ (c m : Nat) : nodesOf c (m + 1) = nodesOf c m ++ (if c / 2 ^ m % 2 = 1 then [(m : Int)] else []) := by
  unfold nodesOf
  rw [List.range_succ, List.filter_append, List.map_append]
  congr 1
  by_cases h : c / 2 ^ m % 2 = 1 <;> simp [h]
theorem bit_shift (c : Nat) (hc : c < 1024) (k : Nat) (hk : k < 10) : (bits BinOp.and IntKind.u64 ((c : Int) / 2 ^ k) 1 == 1) = decide (c / 2 ^ k % 2 = 1) := by
  have e : ((c : Int) / 2 ^ k) = ((c / 2 ^ k : Nat) : Int) := by simp
  have hle : c / 2 ^ k ≤ c := Nat.div_le_self _ _
  rw [e, show (1 : Int) = ((1 : Nat) : Int) from rfl, u64_and_nat _ 1 (by omega) (by omega), nat_mask1]
  generalize c / 2 ^ k = q
  rcases Nat.mod_two_eq_zero_or_one q with h | h <;> rw [h] <;> rfl
theorem nodesOf_len (c m : Nat) : (nodesOf c m).length ≤ m := by
  unfold nodesOf
  rw [List.length_map]
  exact Nat.le_trans (List.length_filter_le _ _) (by simp)
set_option maxHeartbeats 4000000 in
set_option maxRecDepth 100000 in
theorem nodes_any (p bm n : Nat) (r0 r1 low i : Int) (D : DataW Unit) (w : World) (h : TallyAt w p bm n r0 r1 low D) (hwf : (Lit.int .i64 i).wf = true) (c : Nat) (hc : c < 1024) (hD : D.atKey (.int .i64 i) (.lit (.int .u64 0)) = .lit (.int .u64 (c : Int))) :
    Calls Try.prog 26 #[.pointer (some ⟨p, 0, none⟩), .int .i64 i] w fun e w' => ∃ v, e = .returned v ∧ w'.ownsRow w.heap.size 3 1 v (nodesOf c 10).length ((nodesOf c 10).map (Value.int .i64)) ∧ Below w.heap.size w w' := by
  obtain ⟨i0, hi, hz0, hz1, hz2⟩ := info_parts info3'
  have HD := Aside0.mk hD
  have HA := Aside0.mk h
  clear h hD
  go_enter Try.func26, Try.ntmps26
  go_wp2
  go_loopw [5, 9] (fun v m wr => ∃ k : Nat, k ≤ 10 ∧ m = .int .i64 k ∧ Aside0 (wr.ownsRow w.heap.size 3 1 v (nodesOf c k).length ((nodesOf c k).map (Value.int .i64))) ∧ Aside0 (Below w.heap.size w wr)) (fun _ m _ => 10 - (intOf m).toNat)
  case atStart => exact ⟨0, by omega, rfl, ⟨show w.ownsRow _ 3 1 (.slice none 0 0) 0 [] from World.ownsRow_nil _ _ _ _⟩, ⟨Below.refl _ _⟩⟩
  case round =>
    obtain ⟨k, hk, rfl, HR, HB⟩ := hrel
    have HT := Aside0.mk (HA.out.below HB.out)
    obtain ⟨c0, c1, c2, c3⟩ := HT.out.cells
    have hm := HT.out.hm
    by_cases hlt : k < 10
    · have ht := bit_shift c hc k hlt
      have HS := Aside0.mk (nodesOf_succ c k)
      have hnl := nodesOf_len c k
      by_cases hb : c / 2 ^ k % 2 = 1
      · rw [decide_eq_true hb] at ht
        have HS' := Aside0.mk (HS.out.trans (by rw [if_pos hb]))
        clear HS hb
        go_wp2_with (first
          | (at_lookup; refine wpList_lookup_own_int _ rfl _ _ 70 rfl 3 73 .u64 law3 Try.underlying70 Try.underlying73 (zero73 _) bm n _ rfl hm _ _ rfl (keyOf_int_mk Try.underlying3 hwf) ?_; intro c' hat hwc; obtain rfl : c' = (c : Int) := by (rw [HD.out] at hat; injection hat with hat; injection hat with _ hat; exact hat.symm))
          | (at_builtin; refine wpList_append_own _ rfl _ _ 33 rfl w.heap.size 3 i0 (.int .i64 0) 1 8 Try.underlying33 hi hz0 hz1 hz2 rfl (by decide) _ _ _ rfl (HR.out.alloc _) ⟨wr.heap.size, 0, none⟩ 1 1 [.int .i64 (k : Int)] rfl rfl (cell_one_new _ _ _) (by simp [Value.oneCell']) (by unfold maxLen; omega) (by omega) (by have := HB.out.size; simp; omega) ?_; intro v' w1 hown' hgrow _; have HR1 := Aside0.mk hown'; have HB1 := Aside0.mk ((below_alloc HB.out _).grown hgrow (by have := HB.out.size; simp; omega) (own_base HR.out)); clear hown' hgrow)
          | go_in)
        go_roundw
        case rel => exact ⟨k + 1, by omega, by go_num, ⟨by rw [HS'.out]; simpa using HR1.out⟩, ⟨HB1.out⟩⟩
        case measure => simp [intOf]; omega
      · rw [decide_eq_false hb] at ht
        have HS' := Aside0.mk (HS.out.trans (by rw [if_neg hb, List.append_nil]))
        clear HS hb
        go_wp2_with (first
          | (at_lookup; refine wpList_lookup_own_int _ rfl _ _ 70 rfl 3 73 .u64 law3 Try.underlying70 Try.underlying73 (zero73 _) bm n _ rfl hm _ _ rfl (keyOf_int_mk Try.underlying3 hwf) ?_; intro c' hat hwc; obtain rfl : c' = (c : Int) := by (rw [HD.out] at hat; injection hat with hat; injection hat with _ hat; exact hat.symm))
          | go_in)
        go_roundw
        case rel => exact ⟨k + 1, by omega, by go_num, ⟨by rw [HS'.out]; exact HR.out⟩, ⟨HB.out⟩⟩
        case measure => simp [intOf]; omega
    · obtain rfl : k = 10 := by omega
      go_wp2
      go_ret
      exact ⟨_, rfl, HR.out, HB.out⟩
theorem nodes_C {w : World} {b : Nat} {v : Value} {l : List Int} (h : w.ownsRow b 3 1 v l.length (l.map (Value.int .i64))) : ∃ A c, v = .slice A l.length c ∧ l.length ≤ c ∧ Kd.C (Kd.int .i64) w A l.length l := by
  obtain ⟨A, c, e, hr⟩ := own_reads (k := .i64) (xs := l) h
  subst e
  exact ⟨A, c, rfl, own_cap h, C_of_int hr⟩
set_option maxHeartbeats 1000000 in
theorem nodes_nil (i : Int) (w : World) : Calls Try.prog 26 #[.pointer none, .int .i64 i] w fun e w' => e = .returned (.slice none 0 0) ∧ Below w.heap.size w w' := by
  go_enter Try.func26, Try.ntmps26
  go_wp2
  go_ret
  exact ⟨rfl, Below.refl _ _⟩
set_option maxHeartbeats 1000000 in
theorem won_nil (i : Int) (A : Option Addr) (n c : Nat) (w : World) : Calls Try.prog 25 #[.pointer none, .int .i64 i, .slice A n c] w fun e w' => e = .returned (.bool false) ∧ Below w.heap.size w w' := by
  go_enter Try.func25, Try.ntmps25
  go_wp2
  go_ret
  exact ⟨rfl, Below.refl _ _⟩
set_option maxHeartbeats 1000000 in
theorem won_any (p bm n : Nat) (r0 r1 low i : Int) (D : DataW Unit) (w : World) (h : TallyAt w p bm n r0 r1 low D) (hwf : (Lit.int .i64 i).wf = true) (c : Nat) (hc : c < 1024) (hD : D.atKey (.int .i64 i) (.lit (.int .u64 0)) = .lit (.int .u64 (c : Int)))
    (A : Option Addr) (l : List Int) (cap : Nat) (hr : Kd.C (Kd.int .i64) w A l.length l) (hl : l.length ≤ cap) (hlt : l.length < 1000000000000) :
    Calls Try.prog 25 #[.pointer (some ⟨p, 0, none⟩), .int .i64 i, .slice A l.length cap] w fun e w' => e = .returned (.bool (majOf l (nodesOf c 10))) ∧ Below w.heap.size w w' := by
  have hcn := nodes_any p bm n r0 r1 low i D w h hwf c hc hD
  have HN := Aside0.mk hcn
  have HR := Aside0.mk hr
  have hnl := nodesOf_len c 10
  clear h hD hr hcn
  go_enter Try.func25, Try.ntmps25
  go_wp2_with (first
    | (go_at_call 26; refine HN.out.mono ?_; rintro e w1 ⟨v, rfl, hrow, hb⟩; obtain ⟨A1, c1, rfl, hc1, hC1⟩ := nodes_C hrow; have HC1 := Aside0.mk hC1; have HB1 := Aside0.mk hb; clear hrow hb hC1)
    | (go_at_call 33; refine (conf_Majority.calls A cap l A1 c1 (nodesOf c 10) _ _ (Kd.C_below HR.out HB1.out) hl HC1.out hc1 (by unfold conf_Majority.f; rw [if_pos ⟨hlt, by omega⟩])).mono ?_; rintro e w2 ⟨rfl, hb2⟩; have HB2 := Aside0.mk hb2; clear hb2))
  go_ret
  exact ⟨rfl, below_then HB1.out HB1.out.size HB2.out⟩
end Go.Proofs.Ytalpnhgkhhmmlaa.PTal
