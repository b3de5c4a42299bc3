-- By the session: contracts proved by hand.
import Derived.Test.YtalpnhgkhhmmlaaHTalA5
import Derived.Test.YtalpnhgkhhmmlaaTPlain0
import Derived.RegionTactic
import Derived.ChangeAlike
import Derived.StillTailTactics
import Derived.Shelf.SlMaps.DeleteFunc
import Derived.Shelf.Abstract
import Derived.Maps.Own
import Derived.Maps.OwnOps
import Derived.Maps.OwnSet
import Derived.Maps.Views
import Derived.Lib.Hide
import Derived.Laws.BitsAllLaws
namespace Go.Proofs.Ytalpnhgkhhmmlaa.PTal
open Go.Maps
open Go.RowKit Go.Shelf Go.Proofs.YtalpnhgkhhmmlaaW.PrintWords Go.Proofs.YtalpnhgkhhmmlaaW.PrintLast Go.Proofs.YtalpnhgkhhmmlaaW.PrintMore
set_option linter.unusedVariables false
set_option linter.unusedSimpArgs false
/-! changeoverlaw34.awake: function 22 -/
theorem pairwise_mem_eq : ∀ {a b : List Int}, a.Pairwise (· < ·) → b.Pairwise (· < ·) → (∀ x, x ∈ a ↔ x ∈ b) → a = b
  | [], [], _, _, _ => rfl
  | [], y :: b, _, _, h => absurd ((h y).2 (by simp)) (by simp)
  | x :: a, [], _, _, h => absurd ((h x).1 (by simp)) (by simp)
  | x :: a, y :: b, ha, hb, h => by
    obtain ⟨ha1, ha2⟩ := List.pairwise_cons.1 ha
    obtain ⟨hb1, hb2⟩ := List.pairwise_cons.1 hb
    have hxy : x = y := by
      have h1 := (h x).1 (by simp)
      have h2 := (h y).2 (by simp)
      rcases List.mem_cons.1 h1 with h1 | h1
      · exact h1
      · rcases List.mem_cons.1 h2 with h2 | h2
        · exact h2.symm
        · have := ha1 y h2; have := hb1 x h1; omega
    subst hxy
    congr 1
    refine pairwise_mem_eq ha2 hb2 (fun z => ⟨fun hz => ?_, fun hz => ?_⟩)
    · have := ha1 z hz
      rcases List.mem_cons.1 ((h z).1 (by simp [hz])) with e | e
      · omega
      · exact e
    · have := hb1 z hz
      rcases List.mem_cons.1 ((h z).2 (by simp [hz])) with e | e
      · omega
      · exact e
def va : Int → Nat := upd (fun _ => 0) 7 2
def vb : Int → Nat := upd va 7 10
set_option maxHeartbeats 4000000 in
set_option maxRecDepth 100000 in
theorem awake34 (w : World) : Calls Try.prog 22 #[] w fun e w' => e = .returned (.bool true) ∧ Below w.heap.size w w' := by
  have k1 : cnt 1 1 0 (fun _ => 0) 1 1 7 1 = true := by decide
  have k2 : cnt 1 1 0 va 1 1 7 3 = true := by decide
  have k3 : cnt 1 1 0 vb 1 1 7 3 = false := by decide
  have u1 : upd (fun _ => 0) 7 (0 ||| 2 ^ (1 : Int).toNat) = va := rfl
  have u2 : upd va 7 (va 7 ||| 2 ^ (3 : Int).toNat) = vb := rfl
  have c1 := fun (p bm : Nat) (W : World) (h : TallyAt W p bm 0 1 1 0 (.map [])) => vote_any p bm 0 1 1 0 1 1 7 1 _ _ W h VRep.empty (by omega)
  have c2 := fun (p bm : Nat) (D : DataW Unit) (W : World) (h : TallyAt W p bm 1 1 1 0 D) (hV : VRep D va) => vote_any p bm 1 1 1 0 1 1 7 3 _ _ W h hV (by omega)
  have c3 := fun (p bm : Nat) (D : DataW Unit) (W : World) (h : TallyAt W p bm 2 1 1 0 D) (hV : VRep D vb) => vote_any p bm 2 1 1 0 1 1 7 3 _ _ W h hV (by omega)
  simp only [k1, k2, k3, u1, u2, if_true, if_false, Bool.false_eq_true] at c1 c2 c3
  have hmaj : majOf [1, 2, 3] (nodesOf (vb 7) 10) = true := by rw [maj_firsts]; decide
  have HC1 := Aside0.mk c1
  have HC2 := Aside0.mk c2
  have HC3 := Aside0.mk c3
  have HM := Aside0.mk hmaj
  clear c1 c2 c3 u1 u2 k1 k2 k3 hmaj
  go_enter Try.func22, Try.ntmps22
  go_wp2_with fail
  refine (new_any 1 1 _).mono ?_
  rintro e W1 ⟨p, bm, rfl, hT1, hp1, hb1, hp2, hb2, hB1⟩
  have hx1 : W1.heap[w.heap.size]? = some (.cells #[.int .i64 1, .int .i64 1] 46 (0, 0)) := (hB1.block _ (by simp)).trans (heap_alloc_new w _)
  have HT1 := Aside0.mk hT1
  have HB1 := Aside0.mk (below_then (below_alloc (Below.refl w.heap.size w) (Obj.cells #[Value.int IntKind.i64 1, Value.int IntKind.i64 1] 46)) (by simp) hB1)
  rw [World.size_alloc] at hp1 hb1
  have hne : w.heap.size ≠ bm := by omega
  have HX1 := Aside0.mk hx1
  have y0 : W1.cell? ⟨w.heap.size, 0, none⟩ = some (.int .i64 1) := blk_cell hx1 0
  have y1 : W1.cell? ⟨w.heap.size, 1, none⟩ = some (.int .i64 1) := blk_cell hx1 1
  clear hT1 hB1 hx1
  go_wp2_with fail
  refine (HC1.out p bm _ HT1.out).mono ?_
  rintro e W2 ⟨D1, rfl, hT2, hV2, hk2⟩
  have HT2 := Aside0.mk hT2
  have HV2 := Aside0.mk hV2
  have HX2 := Aside0.mk (hk2.blk HX1.out hne)
  have HB2 := Aside0.mk (hk2.below HB1.out HB1.out.size (fun k hk => by subst hk; omega))
  have z0 : W2.cell? ⟨w.heap.size, 0, none⟩ = some (.int .i64 1) := blk_cell HX2.out 0
  have z1 : W2.cell? ⟨w.heap.size, 1, none⟩ = some (.int .i64 1) := blk_cell HX2.out 1
  clear hT2 hV2 hk2 y0 y1
  go_wp2_with fail
  refine (HC2.out p bm D1 _ HT2.out HV2.out).mono ?_
  rintro e W3 ⟨D2, rfl, hT3, hV3, hk3⟩
  have HT3 := Aside0.mk hT3
  have HV3 := Aside0.mk hV3
  have HX3 := Aside0.mk (hk3.blk HX2.out hne)
  have HB3 := Aside0.mk (hk3.below HB2.out HB2.out.size (fun k hk => by subst hk; omega))
  have y0 : W3.cell? ⟨w.heap.size, 0, none⟩ = some (.int .i64 1) := blk_cell HX3.out 0
  have y1 : W3.cell? ⟨w.heap.size, 1, none⟩ = some (.int .i64 1) := blk_cell HX3.out 1
  clear hT3 hV3 hk3 z0 z1
  go_wp2_with fail
  refine (HC3.out p bm D2 _ HT3.out HV3.out).mono ?_
  rintro e W4 ⟨D3, rfl, hT4, hV4, hk4⟩
  have HT4 := Aside0.mk hT4
  have HV4 := Aside0.mk hV4
  have HB4 := Aside0.mk (hk4.below HB3.out HB3.out.size (fun k hk => by subst hk; omega))
  clear hT4 hV4 hk4 y0 y1
  go_wp2_with fail
  have hl3 : Kd.C (Kd.int .i64) (W4.alloc (Obj.cells #[Value.int IntKind.i64 1, Value.int IntKind.i64 2, Value.int IntKind.i64 3] 3)) (some ⟨W4.heap.size, 0, none⟩) ([1, 2, 3] : List Int).length [1, 2, 3] :=
    C_of_int (own_reads' (own_lit W4 0 3 .i64 [1, 2, 3] (Nat.zero_le _) (by simp)))
  have HL3 := Aside0.mk hl3
  clear hl3
  refine (won_any p bm _ 1 1 0 7 D3 _ (HT4.out.below (below_alloc (Below.refl _ _) _)) (WalkArith.wf_i64 (by omega)) (vb 7) (HV4.out.lt 7) (HV4.out.look 7) _ [1, 2, 3] 3 HL3.out (by simp) (by simp)).mono ?_
  rintro e W5 ⟨rfl, hb5⟩
  rw [HM.out]
  have HT5 := Aside0.mk ((HT4.out.below (below_alloc (Below.refl _ _) (Obj.cells #[Value.int IntKind.i64 1, Value.int IntKind.i64 2, Value.int IntKind.i64 3] 3))).below hb5)
  have HB5 := Aside0.mk (below_then (below_alloc HB4.out (Obj.cells #[Value.int IntKind.i64 1, Value.int IntKind.i64 2, Value.int IntKind.i64 3] 3)) (by have := HB4.out.size; simp; omega) hb5)
  clear hb5
  go_wp2_with fail
  refine (open_any p bm _ 1 1 0 D3 _ HT5.out (by omega)).mono ?_
  rintro e W6 ⟨v, S, rfl, hrow, hlen, hso, hmem, hb6⟩
  obtain rfl : S = [7] := pairwise_mem_eq hso (by simp) (fun x => by
    rw [hmem, HV4.out.has]
    simp only [decide_eq_true_eq, List.mem_singleton]
    unfold vb va upd
    by_cases e : x = 7 <;> simp [e])
  obtain ⟨A6, c6, rfl, hc6, hC6⟩ := nodes_C hrow
  have HC6 := Aside0.mk hC6
  have HB6 := Aside0.mk (below_then HB5.out HB5.out.size hb6)
  clear hrow hso hmem hb6 hC6
  go_wp2_with fail
  have hl7 : Kd.C (Kd.int .i64) (W6.alloc (Obj.cells #[Value.int IntKind.i64 7] 3)) (some ⟨W6.heap.size, 0, none⟩) ([7] : List Int).length [7] :=
    C_of_int (own_reads' (own_lit W6 0 3 .i64 [7] (Nat.zero_le _) (by simp)))
  obtain ⟨k, hk⟩ := (ints_ev [7] [7] (by simp)).rounds
  refine (changeoverref01_Ints.calls k A6 c6 [7] _ 1 [7] _ _ (Kd.C_alloc HC6.out _) hc6 hl7 (by simp) hk).mono ?_
  rintro e W7 ⟨rfl, ⟨m7, rfl⟩⟩
  go_wp2
  go_ret
  exact ⟨rfl, pw_below_drewN (below_alloc HB6.out _) _⟩
end Go.Proofs.Ytalpnhgkhhmmlaa.PTal
