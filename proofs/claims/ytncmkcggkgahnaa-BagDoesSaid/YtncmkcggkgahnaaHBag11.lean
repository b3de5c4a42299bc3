-- By the session: contracts proved by hand.
import Derived.Test.YtncmkcggkgahnaaHBag10
namespace Go.Proofs.Ytncmkcggkgahnaa.PBag
open Go.RowKit Go.Proofs.YtncmkcggkgahnaaW.PrintWords Go.Proofs.YtncmkcggkgahnaaW.PrintLast Go.Proofs.YtncmkcggkgahnaaW.PrintMore
set_option linter.unusedVariables false
set_option linter.unusedSimpArgs false
def pk0 : S30 := ⟨1, 2, []⟩
theorem pk_put0 : putOk [] pk0 = true ∧ putL [] pk0 = [pk0] := ⟨by decide, by simp [putL, show putOk [] pk0 = true by decide]⟩
theorem pk_twice : twiceOk [pk0] 0 = true ∧ twiceL [pk0] 0 = [pk0, pk0] := by
  have h : putOk [pk0] (rdP [pk0] 0) = true := by decide
  refine ⟨by simp [twiceOk, h], ?_⟩
  unfold twiceL putL
  rw [if_pos (by simp), show (0 : Int).toNat = 0 from rfl, h]
  rfl
theorem pk_lose : takeL [pk0, pk0] 1 = [pk0] := by simp [takeL]
set_option maxHeartbeats 8000000 in
set_option maxRecDepth 100000 in
theorem bag_awake (w : World) : Calls Try.prog 9 #[] w fun e w' => e = .returned (.bool true) ∧ Below w.heap.size w w' := by
  go_enter Try.func9, Try.ntmps9
  go_wp2_with fail
  refine (bag_new _).mono ?_
  rintro e w1 ⟨rfl, hat, hb1⟩
  have HA1 := Aside0.mk hat
  have HB1 := Aside0.mk hb1
  clear hat hb1
  have hput := fun (W : World) (P : Nat → Prop) (h : BagAt W w.heap.size w.heap.size P []) => bag_Put w.heap.size w.heap.size P [] pk0 none 0 W h (Kd.C_nil _ _) (Nat.le_refl _) (by decide)
  rw [pk_put0.1, pk_put0.2] at hput
  have HPut := Aside0.mk hput
  have htw := fun (W : World) (P : Nat → Prop) (h : BagAt W w.heap.size w.heap.size P [pk0]) => bag_Twice w.heap.size w.heap.size P [pk0] 0 W h (by simp [pk0])
  rw [pk_twice.1, pk_twice.2] at htw
  have HTw := Aside0.mk htw
  have hlo := fun (W : World) (P : Nat → Prop) (h : BagAt W w.heap.size w.heap.size P [pk0, pk0]) => bag_Lose w.heap.size w.heap.size P [pk0, pk0] 1 W h (by decide)
  rw [pk_lose] at hlo
  have HLo := Aside0.mk hlo
  clear hput htw hlo
  go_wp2_with fail
  refine (HPut.out _ _ HA1.out).mono ?_
  rintro e w2 ⟨rfl, hs2⟩
  obtain ⟨P2, hat2, _⟩ := hs2.at_
  have HA2 := Aside0.mk hat2
  have HB2 := Aside0.mk (HB1.out.trans hs2.below)
  clear hat2 hs2
  go_wp2_with fail
  refine (HTw.out _ _ HA2.out).mono ?_
  rintro e w3 ⟨rfl, hs3⟩
  obtain ⟨P3, hat3, _⟩ := hs3.at_
  have HA3 := Aside0.mk hat3
  have HB3 := Aside0.mk (HB2.out.trans hs3.below)
  clear hat3 hs3
  go_wp2_with fail
  refine (bag_Len _ _ _ _ _ HA3.out).mono ?_
  rintro e w4 ⟨rfl, m4, rfl⟩
  go_wp2_with fail
  refine (HLo.out _ _ (HA3.out.drewN m4)).mono ?_
  rintro e w5 ⟨rfl, hs5⟩
  obtain ⟨P5, hat5, _⟩ := hs5.at_
  have HA5 := Aside0.mk hat5
  have HB5 := Aside0.mk ((pw_below_drewN HB3.out m4).trans hs5.below)
  clear hat5 hs5
  go_wp2_with fail
  refine (bag_Len _ _ _ _ _ HA5.out).mono ?_
  rintro e w6 ⟨rfl, m6, rfl⟩
  go_wp2
  go_ret
  exact ⟨by simp, pw_below_drewN HB5.out _⟩

/-! BagFull -/
theorem BagAt.lower {w : World} {base base' b : Nat} {P : Nat → Prop} {l : List S30} (h : BagAt w base b P l) (hb : base' ≤ base) : BagAt w base' b P l := by
  obtain ⟨h1, h2, h3, v, h4, h5⟩ := h
  exact ⟨Nat.le_trans hb h1, h2, fun k hk => ⟨Nat.le_trans hb (h3 k hk).1, (h3 k hk).2⟩, v, h4, Kd.R_lower h5 hb⟩
def reps (p : S30) (i : Nat) : List S30 := if putOk [] p then List.replicate (min i 512) p else []
theorem putOk_any (l : List S30) (p : S30) : putOk l p = (putOk [] p && decide (l.length < 512)) := by
  unfold putOk
  by_cases h : ((1 ≤ p.f0 ∧ p.f0 ≤ 9) ∧ (1 ≤ p.f1 ∧ p.f1 ≤ 9) ∧ p.f0 ≠ p.f1)
  · by_cases h2 : l.length < 512
    · simp [h, h2]
    · simp [h2]
  · rw [decide_eq_false (fun h3 => h ⟨h3.1, h3.2.1, h3.2.2.1⟩), decide_eq_false (fun h3 => h ⟨h3.1, h3.2.1, h3.2.2.1⟩)]
    rfl
theorem reps_put (p : S30) (i : Nat) : putL (reps p i) p = reps p (i + 1) ∧ putOk (reps p i) p = (putOk [] p && decide (i < 512)) := by
  by_cases h : putOk [] p = true
  · have hl : reps p i = List.replicate (min i 512) p := by unfold reps; rw [if_pos h]
    have hl1 : reps p (i + 1) = List.replicate (min (i + 1) 512) p := by unfold reps; rw [if_pos h]
    have hk := putOk_any (reps p i) p
    rw [h, hl, List.length_replicate] at hk
    by_cases hi : i < 512
    · have hm : decide (min i 512 < 512) = true := decide_eq_true (by omega)
      rw [hm] at hk
      refine ⟨?_, by rw [hl, hk, h, decide_eq_true hi]⟩
      unfold putL
      rw [hl, hk, hl1]
      simp only [if_true, Bool.and_self]
      rw [show min i 512 = i by omega, show min (i + 1) 512 = i + 1 by omega, List.replicate_succ']
    · have hm : decide (min i 512 < 512) = false := decide_eq_false (by omega)
      rw [hm] at hk
      refine ⟨?_, by rw [hl, hk, h, decide_eq_false hi]⟩
      unfold putL
      rw [hl, hk, hl1]
      simp only [Bool.and_false, Bool.false_eq_true, if_false]
      rw [show min i 512 = 512 by omega, show min (i + 1) 512 = 512 by omega]
  · have h' : putOk [] p = false := by simpa using h
    have hl : reps p i = [] := by unfold reps; rw [if_neg h]
    have hl1 : reps p (i + 1) = [] := by unfold reps; rw [if_neg h]
    rw [hl, hl1, h']
    exact ⟨by unfold putL; rw [if_neg h], rfl⟩
end Go.Proofs.Ytncmkcggkgahnaa.PBag
