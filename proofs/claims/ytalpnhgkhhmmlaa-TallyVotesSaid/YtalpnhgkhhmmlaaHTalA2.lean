-- By the session: contracts proved by hand.
import Derived.Test.YtalpnhgkhhmmlaaHTalA1
import Derived.Shelf.Abstract
import Derived.Maps.Own
import Derived.Maps.OwnOps
import Derived.Maps.OwnSet
import Derived.Maps.Views
import Derived.Lib.Hide
import Derived.Laws.BitsAllLaws
namespace Go.Proofs.Ytalpnhgkhhmmlaa.PTal
open Go.Maps
open Go.RowKit Go.Shelf Go.Proofs.YtalpnhgkhhmmlaaW.PrintWords Go.Proofs.YtalpnhgkhhmmlaaW.PrintLast Go.Proofs.YtalpnhgkhhmmlaaW.PrintMore
set_option linter.unusedVariables false
set_option linter.unusedSimpArgs false
theorem wf_u64s {c : Nat} (h : c < 1024) : (Lit.int .u64 (c : Int)).wf = true := by
  exact WalkArith.wf_u64 (by omega)
theorem pow_small {x : Int} (h0 : ¬ x < 1) (h1 : ¬ x > 9) : 2 ^ x.toNat < 1024 := by
  have : x.toNat ≤ 9 := by omega
  calc 2 ^ x.toNat ≤ 2 ^ 9 := Nat.pow_le_pow_right (by decide) this
    _ < 1024 := by decide
theorem wrap_pow {x : Int} (h0 : ¬ x < 1) (h1 : ¬ x > 9) : IntKind.u64.wrap (2 ^ x.toNat) = ((2 ^ x.toNat : Nat) : Int) := by
  have := pow_small h0 h1
  rw [IntKind.wrap_u64]
  have e : (2 : Int) ^ x.toNat = ((2 ^ x.toNat : Nat) : Int) := by simp
  rw [e]
  generalize 2 ^ x.toNat = P at this ⊢
  omega
theorem bit_test {x : Int} (h0 : ¬ x < 1) (h1 : ¬ x > 9) (c : Nat) (hc : c < 1024) : (bits BinOp.and IntKind.u64 (c : Int) (IntKind.u64.wrap (2 ^ x.toNat)) != 0) = decide (c / 2 ^ x.toNat % 2 = 1) := by
  have hp := pow_small h0 h1
  have hpos : 0 < 2 ^ x.toNat := Nat.pow_pos (by decide)
  rw [wrap_pow h0 h1, u64_and_nat c _ (by omega) (by omega), nat_bit]
  rcases Nat.mod_two_eq_zero_or_one (c / 2 ^ x.toNat) with h | h
  · rw [h]; simp
  · rw [h]
    generalize 2 ^ x.toNat = P at hpos ⊢
    simp
    omega
theorem bit_or {x : Int} (h0 : ¬ x < 1) (h1 : ¬ x > 9) (c : Nat) (hc : c < 1024) : bits BinOp.or IntKind.u64 (c : Int) (IntKind.u64.wrap (2 ^ x.toNat)) = ((c ||| 2 ^ x.toNat : Nat) : Int) := by
  have hp := pow_small h0 h1
  rw [wrap_pow h0 h1, u64_or_nat c _ (by omega) (by omega)]
theorem or_lt {x : Int} (h0 : ¬ x < 1) (h1 : ¬ x > 9) (c : Nat) (hc : c < 1024) : c ||| 2 ^ x.toNat < 1024 := Nat.or_lt_two_pow (n := 10) hc (pow_small h0 h1)
set_option maxHeartbeats 4000000 in
set_option maxRecDepth 100000 in
theorem vote_again (p bm n : Nat) (r0 r1 low i x : Int) (D : DataW Unit) (w : World) (h : TallyAt w p bm n r0 r1 low D) (n0 : ¬ i < 1) (n1 : ¬ i > 4294967296) (n2 : ¬ i ≤ low) (n3 : ¬ x < 1) (n4 : ¬ x > 9) (c : Nat) (hc : c < 1024) (hD : D.atKey (.int .i64 i) (.lit (.int .u64 0)) = .lit (.int .u64 (c : Int))) (hbit : decide (c / 2 ^ x.toNat % 2 = 1) = true) :
    Calls Try.prog 24 #[.pointer (some ⟨p, 0, none⟩), .agg #[.int .i64 r0, .int .i64 r1], .int .i64 i, .int .i64 x] w fun e w' => e = .returned (.bool false) ∧ Below w.heap.size w w' := by
  obtain ⟨c0, c1, c2, c3⟩ := h.cells
  have g0 : decide (i < 1) = false := decide_eq_false n0
  have g1 : decide (4294967296 < i) = false := decide_eq_false n1
  have g2 : decide (i ≤ low) = false := decide_eq_false n2
  have g3 : decide (x < 1) = false := decide_eq_false n3
  have g4 : decide (9 < x) = false := decide_eq_false n4
  have hpl : p < w.heap.size := blk_lt h.hp
  have hm := h.hm
  have hbl := hm.lt
  have hwf : (Lit.int .i64 i).wf = true := WalkArith.wf_i64 (by omega)
  have ht := bit_test n3 n4 c hc
  rw [hbit] at ht
  have HD := Aside0.mk hD
  have HA := Aside0.mk h
  clear h hD hbit
  go_enter Try.func24, Try.ntmps24
  go_wp2
  go_quiet (fail)
  go_wp2_with (first
    | (at_lookup; refine wpList_lookup_own_int _ rfl _ _ 70 rfl 3 73 .u64 law3 Try.underlying70 Try.underlying73 (zero73 _) bm n _ rfl (hm.alloc _) _ _ rfl (keyOf_int_mk Try.underlying3 hwf) ?_; intro c' hat hwc; obtain rfl : c' = (c : Int) := by (rw [HD.out] at hat; injection hat with hat; injection hat with _ hat; exact hat.symm))
    | go_in)
  go_ret
  exact ⟨rfl, pw_below_drewN (below_alloc (Below.refl _ _) _) _⟩
set_option maxHeartbeats 4000000 in
set_option maxRecDepth 100000 in
theorem vote_counts (p bm n : Nat) (r0 r1 low i x : Int) (D : DataW Unit) (w : World) (h : TallyAt w p bm n r0 r1 low D) (n0 : ¬ i < 1) (n1 : ¬ i > 4294967296) (n2 : ¬ i ≤ low) (n3 : ¬ x < 1) (n4 : ¬ x > 9) (c : Nat) (hc : c < 1024) (hD : D.atKey (.int .i64 i) (.lit (.int .u64 0)) = .lit (.int .u64 (c : Int))) (hn : n < 1000000) (hbit : decide (c / 2 ^ x.toNat % 2 = 1) = false) :
    Calls Try.prog 24 #[.pointer (some ⟨p, 0, none⟩), .agg #[.int .i64 r0, .int .i64 r1], .int .i64 i, .int .i64 x] w fun e w' => e = .returned (.bool true) ∧ TallyAt w' p bm (n + 1) r0 r1 low (D.put (.int .i64 i) (.lit (.int .u64 ((c ||| 2 ^ x.toNat : Nat) : Int)))) ∧ Kpt (fun k => k = bm) w w' := by
  obtain ⟨c0, c1, c2, c3⟩ := h.cells
  have g0 : decide (i < 1) = false := decide_eq_false n0
  have g1 : decide (4294967296 < i) = false := decide_eq_false n1
  have g2 : decide (i ≤ low) = false := decide_eq_false n2
  have g3 : decide (x < 1) = false := decide_eq_false n3
  have g4 : decide (9 < x) = false := decide_eq_false n4
  have hpl : p < w.heap.size := blk_lt h.hp
  have hm := h.hm
  have hbl := hm.lt
  have hwf : (Lit.int .i64 i).wf = true := WalkArith.wf_i64 (by omega)
  have ht := bit_test n3 n4 c hc
  rw [hbit] at ht
  have HD := Aside0.mk hD
  have HA := Aside0.mk h
  clear h hD hbit
  have ho := bit_or n3 n4 c hc
  have hol := or_lt n3 n4 c hc
  go_enter Try.func24, Try.ntmps24
  go_wp2
  go_quiet (fail)
  go_wp2_with (first
    | (at_lookup; refine wpList_lookup_own_int _ rfl _ _ 70 rfl 3 73 .u64 law3 Try.underlying70 Try.underlying73 (zero73 _) bm n _ rfl (hm.alloc _) _ _ rfl (keyOf_int_mk Try.underlying3 hwf) ?_; intro c' hat hwc; obtain rfl : c' = (c : Int) := by (rw [HD.out] at hat; injection hat with hat; injection hat with _ hat; exact hat.symm))
    | (at_mapUpdate; refine wpList_mapUpdate_own _ rfl _ _ _ 70 rfl 3 73 law3 Try.underlying70 _ bm n _ rfl (hm.alloc _) (by unfold maxLen; omega) _ _ _ rfl rfl (keyOf_int_mk Try.underlying3 hwf) _ [] (plainElem_int Try.underlying73 (wf_u64s hol)) ?_; intro w2 hown2 hgrow2)
    | go_in)
  go_ret
  refine ⟨rfl, ⟨?_, hown2⟩, ?_⟩
  · exact (hgrow2.block p (by simp; omega) (by simpa using HA.out.ne)).trans ((Below.heap_alloc w _ p hpl).trans HA.out.hp)
  · exact ((Kpt.alloc _ _ _).trans (Kpt.drewN _ _ _)).trans (Kpt.of_grown hgrow2 (fun k e => by cases e; rfl))
end Go.Proofs.Ytalpnhgkhhmmlaa.PTal
