-- By the session: contracts proved by hand.
import Derived.Test.YtncmkcggkgahnaaHBag17
namespace Go.Proofs.Ytncmkcggkgahnaa.PBag
open Go.RowKit Go.Proofs.YtncmkcggkgahnaaW.PrintWords Go.Proofs.YtncmkcggkgahnaaW.PrintLast Go.Proofs.YtncmkcggkgahnaaW.PrintMore
set_option linter.unusedVariables false
set_option linter.unusedSimpArgs false
/-! a step, by its parts -/
def stepL (l : List S30) (kd n : Int) (p : S30) : List S30 := if kd = 1 then putL l p else if kd = 2 ∨ kd = 3 then takeL l n else if kd = 4 then twiceL l n else l
def stepQ (l : List S30) (kd n : Int) : S30 := if kd = 2 then takeP l n else z30
def stepOk (l : List S30) (kd n : Int) (p : S30) : Bool := if kd = 1 then putOk l p else if kd = 2 ∨ kd = 3 then decide (0 ≤ n ∧ n < (l.length : Int)) else if kd = 4 then twiceOk l n else false
theorem do_all (b base : Nat) (P : Nat → Prop) (l : List S30) (kd n : Int) (p : S30) (A : Option Addr) (c : Nat) (w : World) (h : BagAt w base b P l) (hr : Kd.C (Kd.int .u8) w A p.f2.length p.f2) (hc : p.f2.length ≤ c) (hl : p.f2.length < 140737488355328) (hlt : l.length < 3518437208882) (hd : ∀ p ∈ l, p.f2.length < 140737488355328) :
    Calls Try.prog 11 #[.pointer (some ⟨b, 0, none⟩), .agg #[.int .i64 kd, .int .i64 n, .int .i64 p.f0, .int .i64 p.f1, .slice A p.f2.length c]] w fun e w' => StepPost w w' base b P (stepL l kd n p) (stepQ l kd n) (stepOk l kd n p) e := by
  unfold stepL stepQ stepOk
  by_cases h1 : kd = 1
  · subst h1
    simp only [if_true, if_neg (show ¬ (1 : Int) = 2 by omega)]
    exact do_put b base P l n p A c w h hr hc hl
  by_cases h2 : kd = 2
  · subst h2
    simp only [if_neg (show ¬ (2 : Int) = 1 by omega), true_or, if_true]
    exact do_take b base P l n p A c w h hlt
  by_cases h3 : kd = 3
  · subst h3
    simp only [if_neg (show ¬ (3 : Int) = 1 by omega), or_true, if_true, if_neg (show ¬ (3 : Int) = 2 by omega)]
    exact do_lose b base P l n p A c w h hlt
  by_cases h4 : kd = 4
  · subst h4
    simp only [if_neg (show ¬ (4 : Int) = 1 by omega), if_neg (show ¬ ((4 : Int) = 2 ∨ (4 : Int) = 3) by omega), if_true, if_neg (show ¬ (4 : Int) = 2 by omega)]
    exact do_twice b base P l n p A c w h hd
  · simp only [if_neg h1, if_neg (fun h => h.elim h2 h3 : ¬ (kd = 2 ∨ kd = 3)), if_neg h4, if_neg h2]
    exact do_none b base P l kd n p A c w h h1 h2 h3 h4
theorem ref_all (X : Nat → Prop) (l : List S30) (Al : Option Addr) (cl : Nat) (kd n : Int) (p : S30) (A : Option Addr) (c : Nat) (w : World) (hV : Kd.V k30 30 w 0 X (.slice Al l.length cl) l) (hF : Kd.F (Kd.int .u8) w X A p.f2.length p.f2) (hc : p.f2.length ≤ c) (hl : l.length < 100000) :
    Calls Try.prog 12 #[.slice Al l.length cl, .agg #[.int .i64 kd, .int .i64 n, .int .i64 p.f0, .int .i64 p.f1, .slice A p.f2.length c]] w fun e w' => DoPost w w' X (stepL l kd n p) (stepQ l kd n) (stepOk l kd n p) e := by
  unfold stepL stepQ stepOk
  by_cases h1 : kd = 1
  · subst h1
    simp only [if_true, if_neg (show ¬ (1 : Int) = 2 by omega)]
    unfold putL
    rcases hp : putOk l p with _ | _
    · exact refDo_no1 X l Al cl 1 n p A c w hV rfl hp
    · exact refDo_yes1 X l Al cl 1 n p A c w hV hF hc rfl hp
  simp only [if_neg h1]
  by_cases hb : doBad l kd n
  · have hbad := refDo_bad X l Al cl kd n p A c w hV h1 hb
    have e1 : (if kd = 2 ∨ kd = 3 then takeL l n else if kd = 4 then twiceL l n else l) = l := by
      unfold doBad at hb
      by_cases hn : 0 ≤ n ∧ n < (l.length : Int)
      · rw [if_neg (by omega), if_neg (by omega)]
      · unfold takeL twiceL
        rw [if_neg hn, if_neg hn]
        split
        · rfl
        · split <;> rfl
    have e2 : (if kd = 2 then takeP l n else z30) = z30 := by
      unfold doBad at hb
      by_cases hn : 0 ≤ n ∧ n < (l.length : Int)
      · rw [if_neg (by omega)]
      · unfold takeP; rw [if_neg hn]; split <;> rfl
    have e3 : (if kd = 2 ∨ kd = 3 then decide (0 ≤ n ∧ n < (l.length : Int)) else if kd = 4 then twiceOk l n else false) = false := by
      unfold doBad at hb
      by_cases hn : 0 ≤ n ∧ n < (l.length : Int)
      · rw [if_neg (by omega), if_neg (by omega)]
      · unfold twiceOk; rw [decide_eq_false hn]; split
        · rfl
        · split <;> rfl
    rw [e1, e2, e3]
    exact hbad
  · unfold doBad at hb
    obtain ⟨i, rfl⟩ := Int.eq_ofNat_of_zero_le (show 0 ≤ n by omega)
    have hi : i < l.length := by omega
    have hn : 0 ≤ (i : Int) ∧ (i : Int) < (l.length : Int) := by omega
    by_cases h4 : kd = 4
    · subst h4
      rw [if_neg (by omega), if_pos rfl, if_neg (by omega), if_neg (by omega), if_pos rfl]
      unfold twiceL twiceOk putL
      rw [if_pos hn, decide_eq_true hn, Int.toNat_natCast, Bool.true_and]
      rcases hp : putOk l (rdP l i) with _ | _
      · exact refDo_no4 X l Al cl 4 i p A c w hV hi rfl hp
      · exact refDo_yes4 X l Al cl 4 i p A c w hV hi rfl hp
    · have h23 : kd = 2 ∨ kd = 3 := by omega
      rw [if_pos h23, if_pos h23, takeL_yes hi, decide_eq_true hn]
      refine refDo_take X l Al cl kd i p A c w hV hi hl h23 _ ?_
      unfold takeP
      rw [if_pos hn, Int.toNat_natCast]
      rcases h23 with h | h <;> subst h <;> rfl
end Go.Proofs.Ytncmkcggkgahnaa.PBag
