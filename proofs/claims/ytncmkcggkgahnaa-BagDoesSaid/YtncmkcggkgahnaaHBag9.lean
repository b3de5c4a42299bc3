-- By the session: contracts proved by hand.
import Derived.Test.YtncmkcggkgahnaaHBag8
namespace Go.Proofs.Ytncmkcggkgahnaa.PBag
open Go.RowKit Go.Proofs.YtncmkcggkgahnaaW.PrintWords Go.Proofs.YtncmkcggkgahnaaW.PrintLast Go.Proofs.YtncmkcggkgahnaaW.PrintMore
set_option linter.unusedVariables false
set_option linter.unusedSimpArgs false
/-! changeoverref38.Do -/
def doBad (l : List S30) (kd n : Int) : Prop := n < 0 ∨ n ≥ (l.length : Int) ∨ kd < 1 ∨ kd > 4
/-- What is told behind a step of the reference. -/
def DoPost (w w' : World) (X : Nat → Prop) (l' : List S30) (q : S30) (ok : Bool) (e : Ending) : Prop :=
  ∃ v A c, e = .returned (.tuple #[v, .agg #[.int .i64 q.f0, .int .i64 q.f1, .slice A q.f2.length c], .bool ok]) ∧ Kd.V k30 30 w' 0 (fun k => X k ∨ w.heap.size ≤ k) v l' ∧ q.f2.length ≤ c ∧ Kd.C (Kd.int .u8) w' A q.f2.length q.f2 ∧ Below w.heap.size w w'

def doW (w : World) (kd n : Int) (p : S30) (A : Option Addr) (c : Nat) : World := ((((w.alloc (Obj.cells #[Value.int .i64 kd, Value.int .i64 n, Value.int .i64 p.f0, Value.int .i64 p.f1, Value.slice A p.f2.length c] 34)).alloc (Obj.cells #[Value.int .i64 0, Value.int .i64 0, Value.slice none 0 0] 30)).alloc (Obj.cells #[Value.int .i64 0, Value.int .i64 0, Value.slice none 0 0] 30)).alloc (Obj.cells #[Value.int .i64 p.f0, Value.int .i64 p.f1, Value.slice A p.f2.length c] 30))
theorem doW_below (w : World) (kd n : Int) (p : S30) (A : Option Addr) (c : Nat) : Below w.heap.size w (doW w kd n p A c) := below_alloc (below_alloc (below_alloc (below_alloc (Below.refl _ _) _) _) _) _
theorem doW_size (w : World) (kd n : Int) (p : S30) (A : Option Addr) (c : Nat) : (doW w kd n p A c).heap.size = w.heap.size + 4 := by simp [doW]
theorem doW_0 (w : World) (kd n : Int) (p : S30) (A : Option Addr) (c : Nat) : (doW w kd n p A c).heap[w.heap.size]? = some (.cells #[.int .i64 kd, .int .i64 n, .int .i64 p.f0, .int .i64 p.f1, .slice A p.f2.length c] 34 (0, 0)) := blk_alloc (blk_alloc (blk_alloc (blk_new w _) _) _) _
theorem doW_1 (w : World) (kd n : Int) (p : S30) (A : Option Addr) (c : Nat) : (doW w kd n p A c).heap[w.heap.size + 1]? = some (.cells #[.int .i64 0, .int .i64 0, .slice none 0 0] 30 (0, 0)) := blk_alloc (blk_alloc (heap_alloc2_new w _ _) _) _
theorem doW_2 (w : World) (kd n : Int) (p : S30) (A : Option Addr) (c : Nat) : (doW w kd n p A c).heap[w.heap.size + 2]? = some (.cells #[.int .i64 0, .int .i64 0, .slice none 0 0] 30 (0, 0)) := by
  unfold doW
  refine blk_alloc ?_ _
  have h := heap_alloc2_new (w.alloc (Obj.cells #[Value.int .i64 kd, Value.int .i64 n, Value.int .i64 p.f0, Value.int .i64 p.f1, Value.slice A p.f2.length c] 34)) (Obj.cells #[Value.int .i64 0, Value.int .i64 0, Value.slice none 0 0] 30) (Obj.cells #[Value.int .i64 0, Value.int .i64 0, Value.slice none 0 0] 30)
  simpa using h
theorem doW_3 (w : World) (kd n : Int) (p : S30) (A : Option Addr) (c : Nat) : (doW w kd n p A c).heap[w.heap.size + 3]? = some (.cells #[.int .i64 p.f0, .int .i64 p.f1, .slice A p.f2.length c] 30 (0, 0)) := by
  unfold doW
  have h := heap_alloc2_new ((w.alloc (Obj.cells #[Value.int .i64 kd, Value.int .i64 n, Value.int .i64 p.f0, Value.int .i64 p.f1, Value.slice A p.f2.length c] 34)).alloc (Obj.cells #[Value.int .i64 0, Value.int .i64 0, Value.slice none 0 0] 30)) (Obj.cells #[Value.int .i64 0, Value.int .i64 0, Value.slice none 0 0] 30) (Obj.cells #[Value.int .i64 p.f0, Value.int .i64 p.f1, Value.slice A p.f2.length c] 30)
  simpa using h
set_option maxHeartbeats 8000000 in
set_option maxRecDepth 100000 in
theorem refDo_bad (X : Nat → Prop) (l : List S30) (Al : Option Addr) (cl : Nat) (kd n : Int) (p : S30) (A : Option Addr) (c : Nat) (w : World) (hV : Kd.V k30 30 w 0 X (.slice Al l.length cl) l) (hk : ¬ kd = 1) (hbad : doBad l kd n) :
    Calls Try.prog 12 #[.slice Al l.length cl, .agg #[.int .i64 kd, .int .i64 n, .int .i64 p.f0, .int .i64 p.f1, .slice A p.f2.length c]] w fun e w' => DoPost w w' X l z30 false e := by
  have HV := Aside0.mk hV
  have HB := Aside0.mk (doW_below w kd n p A c)
  have HZ := Aside0.mk (doW_1 w kd n p A c)
  have hkb : (kd != 1) = true := by simpa using hk
  clear hV
  have cases4 : n < 0 ∨ (¬ n < 0 ∧ (l.length : Int) ≤ n) ∨ (¬ n < 0 ∧ ¬ (l.length : Int) ≤ n ∧ kd < 1) ∨ (¬ n < 0 ∧ ¬ (l.length : Int) ≤ n ∧ ¬ kd < 1 ∧ 4 < kd) := by
    unfold doBad at hbad
    omega
  clear hk hbad
  rcases cases4 with h0 | ⟨h0, h1⟩ | ⟨h0, h1, h2⟩ | ⟨h0, h1, h2, h3⟩
  all_goals
    go_enter Try.func12, Try.ntmps12
    go_wp2
    go_region
    go_wp2
    refine bodyPost_ret (results_tmp_cell_tmp rfl _ _ (w.heap.size + 1) 30 #[.int .i64 0, .int .i64 0, .slice none 0 0] (0, 0) _ rfl (blk_drew HZ.out) Try.underlying30 rfl size30) rfl ?_
    exact ⟨_, none, 0, rfl, Kd.V_mono (Kd.V_below HV.out (drew_below HB.out)) (fun _ hk => .inl hk), Nat.le_refl _, Kd.C_nil _ _, drew_below HB.out⟩
theorem putOk_no {l : List S30} {p : S30} (h : putOk l p = false) : (p.f0 < 1) ∨ (¬ p.f0 < 1 ∧ 9 < p.f0) ∨ (¬ p.f0 < 1 ∧ ¬ 9 < p.f0 ∧ p.f1 < 1) ∨ (¬ p.f0 < 1 ∧ ¬ 9 < p.f0 ∧ ¬ p.f1 < 1 ∧ 9 < p.f1) ∨ (¬ p.f0 < 1 ∧ ¬ 9 < p.f0 ∧ ¬ p.f1 < 1 ∧ ¬ 9 < p.f1 ∧ (p.f0 == p.f1) = true) ∨ (¬ p.f0 < 1 ∧ ¬ 9 < p.f0 ∧ ¬ p.f1 < 1 ∧ ¬ 9 < p.f1 ∧ (p.f0 == p.f1) = false ∧ (512 : Int) ≤ (l.length : Int)) := by
  unfold putOk at h
  rw [decide_eq_false_iff_not] at h
  by_cases g0 : p.f0 < 1
  · exact .inl g0
  by_cases g1 : 9 < p.f0
  · exact .inr (.inl ⟨g0, g1⟩)
  by_cases g2 : p.f1 < 1
  · exact .inr (.inr (.inl ⟨g0, g1, g2⟩))
  by_cases g3 : 9 < p.f1
  · exact .inr (.inr (.inr (.inl ⟨g0, g1, g2, g3⟩)))
  by_cases g4 : p.f0 = p.f1
  · exact .inr (.inr (.inr (.inr (.inl ⟨g0, g1, g2, g3, by simpa using g4⟩))))
  · refine .inr (.inr (.inr (.inr (.inr ⟨g0, g1, g2, g3, by simpa using g4, ?_⟩))))
    by_cases g5 : l.length < 512
    · exact absurd ⟨⟨by omega, by omega⟩, ⟨by omega, by omega⟩, g4, g5⟩ h
    · omega
theorem putOk_yes {l : List S30} {p : S30} (h : putOk l p = true) : ¬ p.f0 < 1 ∧ ¬ 9 < p.f0 ∧ ¬ p.f1 < 1 ∧ ¬ 9 < p.f1 ∧ (p.f0 == p.f1) = false ∧ ¬ (512 : Int) ≤ (l.length : Int) := by
  unfold putOk at h
  rw [decide_eq_true_iff] at h
  obtain ⟨⟨h0, h1⟩, ⟨h2, h3⟩, h4, h5⟩ := h
  exact ⟨by omega, by omega, by omega, by omega, by simpa using h4, by omega⟩
set_option maxHeartbeats 8000000 in
set_option maxRecDepth 100000 in
theorem refDo_no1 (X : Nat → Prop) (l : List S30) (Al : Option Addr) (cl : Nat) (kd n : Int) (p : S30) (A : Option Addr) (c : Nat) (w : World) (hV : Kd.V k30 30 w 0 X (.slice Al l.length cl) l) (hk : kd = 1) (hno : putOk l p = false) :
    Calls Try.prog 12 #[.slice Al l.length cl, .agg #[.int .i64 kd, .int .i64 n, .int .i64 p.f0, .int .i64 p.f1, .slice A p.f2.length c]] w fun e w' => DoPost w w' X l z30 false e := by
  have HV := Aside0.mk hV
  have HB := Aside0.mk (doW_below w kd n p A c)
  have HZ := Aside0.mk (doW_1 w kd n p A c)
  have hkb : (kd != 1) = false := by simpa using hk
  have hk1 : (kd == 1) = true := by simpa using hk
  have hcs := putOk_no hno
  clear hV hk hno
  rcases hcs with g0 | ⟨g0, g1⟩ | ⟨g0, g1, g2⟩ | ⟨g0, g1, g2, g3⟩ | ⟨g0, g1, g2, g3, g4⟩ | ⟨g0, g1, g2, g3, g4, g5⟩
  all_goals
    go_enter Try.func12, Try.ntmps12
    go_wp2
    go_region
    go_wp2
    refine bodyPost_ret (results_tmp_cell_tmp rfl _ _ (w.heap.size + 1) 30 #[.int .i64 0, .int .i64 0, .slice none 0 0] (0, 0) _ rfl (blk_drew HZ.out) Try.underlying30 rfl size30) rfl ?_
    exact ⟨_, none, 0, rfl, Kd.V_mono (Kd.V_below HV.out (drew_below HB.out)) (fun _ hk => .inl hk), Nat.le_refl _, Kd.C_nil _ _, drew_below HB.out⟩
end Go.Proofs.Ytncmkcggkgahnaa.PBag
