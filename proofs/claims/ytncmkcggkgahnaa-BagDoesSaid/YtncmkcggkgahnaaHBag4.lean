-- By the session: contracts proved by hand.
import Derived.Test.YtncmkcggkgahnaaHBag3
namespace Go.Proofs.Ytncmkcggkgahnaa.PBag
open Go.RowKit Go.Proofs.YtncmkcggkgahnaaW.PrintWords Go.Proofs.YtncmkcggkgahnaaW.PrintLast Go.Proofs.YtncmkcggkgahnaaW.PrintMore
set_option linter.unusedVariables false
set_option linter.unusedSimpArgs false
set_option maxHeartbeats 4000000 in
set_option maxRecDepth 100000 in
theorem bag_Put (b base : Nat) (P : Nat → Prop) (l : List S30) (p : S30) (A : Option Addr) (c : Nat) (w : World) (h : BagAt w base b P l) (hr : Kd.C (Kd.int .u8) w A p.f2.length p.f2) (hc : p.f2.length ≤ c) (hl : p.f2.length < 140737488355328) :
    Calls Try.prog 20 #[.pointer (some ⟨b, 0, none⟩), .agg #[.int .i64 p.f0, .int .i64 p.f1, .slice A p.f2.length c]] w fun e w' => e = .returned (.bool (putOk l p)) ∧ BagStep w w' base b P (putL l p) := by
  obtain ⟨Ab, cb, hx, _⟩ := h.cell
  have HB := Aside0.mk h
  have HR := Aside0.mk hr
  have HC := Aside0.mk hc
  have hbl := h.lt
  clear h hr hc
  have HB1 := Aside0.mk (below_alloc (Below.refl w.heap.size w) (Obj.cells #[Value.int IntKind.i64 p.f0, Value.int IntKind.i64 p.f1, Value.slice A p.f2.length c] 30))
  have no : ∀ (w' : World), putOk l p = false → Below w.heap.size w w' → BagStep w w' base b P (putL l p) := fun w' hp hb => by
    unfold putL
    rw [hp]
    exact BagStep.quiet HB.out hb
  by_cases hf : 1 ≤ p.f0 ∧ p.f0 ≤ 9
  case neg =>
    have hfb : decide (1 ≤ p.f0 ∧ p.f0 ≤ 9) = false := decide_eq_false hf
    have hok : putOk l p = false := by unfold putOk; exact decide_eq_false (fun h => hf h.1)
    rw [hok]
    (try clear he)
    go_enter Try.func20, Try.ntmps20
    go_wp2_with fail
    refine (bag_node p.f0 _).mono ?_
    rw [hfb]
    rintro e w1 ⟨rfl, m1, rfl⟩
    go_wp2
    go_ret
    exact ⟨rfl, no _ hok (pw_below_drewN HB1.out _)⟩
  have hfb : decide (1 ≤ p.f0 ∧ p.f0 ≤ 9) = true := decide_eq_true hf
  by_cases ht : 1 ≤ p.f1 ∧ p.f1 ≤ 9
  case neg =>
    have htb : decide (1 ≤ p.f1 ∧ p.f1 ≤ 9) = false := decide_eq_false ht
    have hok : putOk l p = false := by unfold putOk; exact decide_eq_false (fun h => ht h.2.1)
    rw [hok]
    (try clear he)
    go_enter Try.func20, Try.ntmps20
    go_wp2_with fail
    refine (bag_node p.f0 _).mono ?_
    rw [hfb]
    rintro e w1 ⟨rfl, m1, rfl⟩
    go_wp2_with fail
    refine (bag_node p.f1 _).mono ?_
    rw [htb]
    rintro e w2 ⟨rfl, m2, rfl⟩
    go_wp2
    go_ret
    exact ⟨rfl, no _ hok (by repeat (first | exact HB1.out | apply pw_below_drewN))⟩
  have htb : decide (1 ≤ p.f1 ∧ p.f1 ≤ 9) = true := decide_eq_true ht
  by_cases he : p.f0 = p.f1
  case pos =>
    have heb : (p.f0 == p.f1) = true := by simpa using he
    have hok : putOk l p = false := by unfold putOk; exact decide_eq_false (fun h => h.2.2.1 he)
    rw [hok]
    clear he
    go_enter Try.func20, Try.ntmps20
    go_wp2_with fail
    refine (bag_node p.f0 _).mono ?_
    rw [hfb]
    rintro e w1 ⟨rfl, m1, rfl⟩
    go_wp2_with fail
    refine (bag_node p.f1 _).mono ?_
    rw [htb]
    rintro e w2 ⟨rfl, m2, rfl⟩
    go_wp2
    go_ret
    exact ⟨rfl, no _ hok (by repeat (first | exact HB1.out | apply pw_below_drewN))⟩
  by_cases hfull : l.length < 512
  case neg =>
    have hfl : (512 : Int) ≤ (l.length : Int) := by omega
    have heb : (p.f0 == p.f1) = false := by simpa using he
    have hok : putOk l p = false := by unfold putOk; exact decide_eq_false (fun h => hfull h.2.2.2)
    rw [hok]
    (try clear he)
    go_enter Try.func20, Try.ntmps20
    go_wp2_with fail
    refine (bag_node p.f0 _).mono ?_
    rw [hfb]
    rintro e w1 ⟨rfl, m1, rfl⟩
    go_wp2_with fail
    refine (bag_node p.f1 _).mono ?_
    rw [htb]
    rintro e w2 ⟨rfl, m2, rfl⟩
    have y0 := pw_cell_below HB1.out hx
    go_wp2
    go_ret
    exact ⟨rfl, no _ hok (by repeat (first | exact HB1.out | apply pw_below_drewN))⟩
  have hok : putOk l p = true := by unfold putOk; exact decide_eq_true ⟨hf, ht, he, hfull⟩
  unfold putL
  rw [hok]
  exact bag_Put_yes b base P l p A c w HB.out HR.out HC.out hl hf ht he hfull
end Go.Proofs.Ytncmkcggkgahnaa.PBag
