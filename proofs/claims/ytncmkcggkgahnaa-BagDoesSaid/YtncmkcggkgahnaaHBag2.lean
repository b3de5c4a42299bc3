-- By the session: contracts proved by hand.
import Derived.Test.YtncmkcggkgahnaaPBagx1
import Derived.Test.YtncmkcggkgahnaaPBagx2
import Derived.Test.YtncmkcggkgahnaaHGen
namespace Go.Proofs.Ytncmkcggkgahnaa.PBag
open Go.RowKit Go.Proofs.YtncmkcggkgahnaaW.PrintWords Go.Proofs.YtncmkcggkgahnaaW.PrintLast Go.Proofs.YtncmkcggkgahnaaW.PrintMore
set_option linter.unusedVariables false
set_option linter.unusedSimpArgs false
/-- A bag at block b, its rows among the blocks P, all from base on. -/
def BagAt (w : World) (base b : Nat) (P : Nat → Prop) (l : List S30) : Prop :=
  base ≤ b ∧ ¬ P b ∧ (∀ k, P k → base ≤ k ∧ k < w.heap.size) ∧ ∃ v, w.heap[b]? = some (.cells #[v] 70 (0, 0)) ∧ Kd.R k30 30 w base P v l
theorem BagAt.lt {w : World} {base b : Nat} {P : Nat → Prop} {l : List S30} (h : BagAt w base b P l) : b < w.heap.size := by
  obtain ⟨_, _, _, v, hb, _⟩ := h
  exact (Array.getElem?_eq_some_iff.1 hb).1
theorem BagAt.move {w w1 : World} {base b : Nat} {P : Nat → Prop} {l : List S30} (h : BagAt w base b P l) (hs : w.heap.size ≤ w1.heap.size) (hm : ∀ k, k = b ∨ P k → w1.heap[k]? = w.heap[k]?) : BagAt w1 base b P l := by
  obtain ⟨h1, h2, h3, v, hb, hr⟩ := h
  exact ⟨h1, h2, fun k hk => ⟨(h3 k hk).1, Nat.lt_of_lt_of_le (h3 k hk).2 hs⟩, v, (hm b (.inl rfl)).trans hb, Kd.R_move hr (fun k hk => hm k (.inr hk))⟩
theorem BagAt.below {w w1 : World} {base b : Nat} {P : Nat → Prop} {l : List S30} (h : BagAt w base b P l) (hb : Below w.heap.size w w1) : BagAt w1 base b P l :=
  h.move hb.size (fun k hk => hb.block k (by
    rcases hk with rfl | hk
    · exact h.lt
    · exact (h.2.2.1 k hk).2))
theorem BagAt.drewN {w : World} {base b : Nat} {P : Nat → Prop} {l : List S30} (h : BagAt w base b P l) (m : Nat) : BagAt (w.drewN m) base b P l := h.below (pw_below_drewN (Below.refl _ _) m)
theorem BagAt.kept {w w1 : World} {base b : Nat} {P S : Nat → Prop} {l : List S30} (h : BagAt w base b P l) (hk : Kept w w1 S) (hd : ∀ k, k = b ∨ P k → ¬ S k) : BagAt w1 base b P l :=
  h.move hk.1 (fun k hk' => hk.2 k (by
    rcases hk' with rfl | hk'
    · exact h.lt
    · exact (h.2.2.1 k hk').2) (hd k hk'))
theorem BagAt.cell {w : World} {base b : Nat} {P : Nat → Prop} {l : List S30} (h : BagAt w base b P l) : ∃ A c, w.cell? ⟨b, 0, none⟩ = some (.slice A l.length c) ∧ l.length ≤ c ∧ k30.C w A l.length l := by
  obtain ⟨_, _, _, v, hb, hr⟩ := h
  obtain ⟨A, c, rfl, hl, hc⟩ := Kd.R_reads hr
  exact ⟨A, c, blk_cell hb 0, hl, hc⟩
theorem BagAt.C {w : World} {base b : Nat} {P : Nat → Prop} {l : List S30} (h : BagAt w base b P l) {A : Option Addr} {c : Nat} (hx : w.cell? ⟨b, 0, none⟩ = some (.slice A l.length c)) : l.length ≤ c ∧ k30.C w A l.length l := by
  obtain ⟨A', c', h1, h2, h3⟩ := h.cell
  rw [h1] at hx
  injection hx with hx
  injection hx with hx1 hx2 hx3
  subst hx1; subst hx3
  exact ⟨h2, h3⟩
/-! Len -/
theorem bag_Len (b base : Nat) (P : Nat → Prop) (l : List S30) (w : World) (h : BagAt w base b P l) : Calls Try.prog 14 #[.pointer (some ⟨b, 0, none⟩)] w fun e w' => e = .returned (.int .i64 (l.length : Int)) ∧ Drawn0 w w' := by
  obtain ⟨A, c, hx, _⟩ := h.cell
  go_enter Try.func14, Try.ntmps14
  go_wp2
  go_ret
  exact ⟨rfl, Drawn0.refl _⟩
theorem bag_Len_nil (w : World) : Calls Try.prog 14 #[.pointer none] w fun e w' => e = .returned (.int .i64 0) ∧ Drawn0 w w' := by
  go_enter Try.func14, Try.ntmps14
  go_wp2
  go_ret
  exact ⟨rfl, Drawn0.refl _⟩
/-! is -/
theorem bag_is (b base : Nat) (P : Nat → Prop) (l : List S30) (n : Int) (w : World) (h : BagAt w base b P l) : Calls Try.prog 38 #[.pointer (some ⟨b, 0, none⟩), .int .i64 n] w fun e w' => e = .returned (.bool (decide (0 ≤ n ∧ n < (l.length : Int)))) ∧ Drawn0 w w' := by
  obtain ⟨A, c, hx, _⟩ := h.cell
  by_cases h0 : 0 ≤ n
  · by_cases h1 : n < (l.length : Int)
    · go_enter Try.func38, Try.ntmps38
      go_wp2
      go_ret
      exact ⟨by first | (simp [h0, h1]; done) | (simp; omega), Drawn0.refl _⟩
    · go_enter Try.func38, Try.ntmps38
      go_wp2
      go_ret
      exact ⟨by first | (simp [h0, h1]; done) | (simp; omega), Drawn0.refl _⟩
  · go_enter Try.func38, Try.ntmps38
    go_wp2
    go_ret
    exact ⟨by first | (simp [h0]; done) | (simp; omega), Drawn0.refl _⟩
theorem bag_is_nil (n : Int) (w : World) : Calls Try.prog 38 #[.pointer none, .int .i64 n] w fun e w' => e = .returned (.bool false) ∧ Drawn0 w w' := by
  go_enter Try.func38, Try.ntmps38
  go_wp2
  go_ret
  exact ⟨rfl, Drawn0.refl _⟩
/-! Put's node -/
theorem bag_node (n : Int) (w : World) : Calls Try.prog 40 #[.int .i64 n] w fun e w' => e = .returned (.bool (decide (1 ≤ n ∧ n ≤ 9))) ∧ Drawn0 w w' := by
  by_cases h0 : 1 ≤ n
  · go_enter Try.func40, Try.ntmps40
    go_wp2
    go_ret
    exact ⟨by first | (simp [h0]; done) | (simp; omega), Drawn0.refl _⟩
  · go_enter Try.func40, Try.ntmps40
    go_wp2
    go_ret
    exact ⟨by first | (simp [h0]; done) | (simp; omega), Drawn0.refl _⟩
/-! Put -/
def putOk (l : List S30) (p : S30) : Bool := decide ((1 ≤ p.f0 ∧ p.f0 ≤ 9) ∧ (1 ≤ p.f1 ∧ p.f1 ≤ 9) ∧ p.f0 ≠ p.f1 ∧ l.length < 512)
def putL (l : List S30) (p : S30) : List S30 := if putOk l p then l ++ [p] else l
/-- What behind a step of the bag is as it was: all but the bag's own. -/
structure BagStep (w w' : World) (base b : Nat) (P : Nat → Prop) (l' : List S30) : Prop where
  at_ : ∃ P', BagAt w' base b P' l' ∧ ∀ k, P' k → P k ∨ w.heap.size ≤ k
  kept : Kept w w' (fun k => k = b ∨ P k)
  below : Below base w w'
theorem BagStep.quiet {w w' : World} {base b : Nat} {P : Nat → Prop} {l : List S30} (h : BagAt w base b P l) (hb : Below w.heap.size w w') : BagStep w w' base b P l :=
  ⟨⟨P, h.below hb, fun k hk => .inl hk⟩, Kept.of_below hb _, hb.mono (Nat.le_trans h.1 (Nat.le_of_lt h.lt))⟩
end Go.Proofs.Ytncmkcggkgahnaa.PBag
