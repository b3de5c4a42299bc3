-- By the session: laws over any program (copy, clear on rows of elements of any size).
import Derived.Test.YtncmkcggkgahnaaWWords
import Derived.Test.YtncmkcggkgahnaaWLast
import Derived.Test.YtncmkcggkgahnaaWMore
import Derived.Laws.CopyOwn
import Derived.Laws.IdiomCopy
import Derived.Lib.Overlaps
import Derived.Lib.AppendZerosOnto
import Derived.Laws.Externs
import Derived.Deep.RegionLaw
import Derived.Lib.SliceRun
import Derived.Lib.Walk
import Derived.Lib.JoinLaws
import Derived.Lib.AppendZeros
namespace Go.Proofs.Ytncmkcggkgahnaa.Gen
open Go.RowKit Go.Proofs.YtncmkcggkgahnaaW.PrintWords Go.Proofs.YtncmkcggkgahnaaW.PrintLast Go.Proofs.YtncmkcggkgahnaaW.PrintMore
set_option linter.unusedVariables false
set_option linter.unusedSimpArgs false
/-! Laws over any program: copy and clear on a row that is known whole, elements of any size. -/
section
variable {P : Program}
theorem run_copyK (w : World) (dT sT ty elem : TypeId) (sz b o dLen dCap : Nat) (a : Addr) (sLen sCap : Nat) (cs : List Value)
    (hu : P.underlying dT = some (.slice elem)) (hs : (P.info? elem).map (·.size) = some sz) (hn : cs.length = Nat.min sLen dLen * sz)
    (hsrc : ∀ j v, cs[j]? = some v → w.cell? (a.add j) = some v) (hc : ∀ j, j < cs.length → (w.cell? ⟨b, o + j, none⟩).isSome = true) (hf : ∀ j, j < cs.length → w.frozen? ⟨b, o + j, none⟩ = false) (h1 : ∀ v ∈ cs, v.oneCell' = true) :
    (Builtin.copy_ #[dT, sT] ty #[.slice (some ⟨b, o, none⟩) dLen dCap, .slice (some a) sLen sCap]).run P w = .ok (goInt (Nat.min sLen dLen)) (w.setCells b o cs) := by
  have hl := run_loadCells_list (P := P) w a cs hsrc
  have hst := run_storeCells_cells (P := P) b o cs 0 w (by simpa using hc) (by simpa using hf) h1
  cases hq : P.info? elem with
  | none => simp [hq] at hs
  | some i =>
    have hi : i.size = sz := by simpa [hq] using hs
    simp only [Builtin.copy_]
    simp [run_underlying hu, Builtin.lenOf, Builtin.firstCells, sizeOf, typeInfo, hq, hi, ← hn, hl, hst]
theorem run_copyK0 (w : World) (dT sT ty elem : TypeId) (sz : Nat) (d a : Option Addr) (dLen dCap sLen sCap : Nat) (hu : P.underlying dT = some (.slice elem)) (hs : (P.info? elem).map (·.size) = some sz) (hn : Nat.min sLen dLen = 0) :
    (Builtin.copy_ #[dT, sT] ty #[.slice d dLen dCap, .slice a sLen sCap]).run P w = .ok (goInt 0) w := by
  cases hq : P.info? elem with
  | none => simp [hq] at hs
  | some i =>
    have hl : ∀ (x : Addr), (loadCells x 0).run P w = .ok #[] w := fun x => by simpa using run_loadCells_list (P := P) w x [] (by simp)
    cases d <;> cases a <;> simp [Builtin.copy_, run_underlying hu, Builtin.lenOf, Builtin.firstCells, sizeOf, typeInfo, hq, hn, storeCells, hl]
theorem setCells_splice {w : World} {g : Nat} {t : TypeId} {cur cs : List Value} {o : Nat} (hg : w.heap[g]? = some (.cells cur.toArray t (0, 0))) (hfit : o + cs.length ≤ cur.length) :
    (w.setCells g o cs).heap[g]? = some (.cells (splice cur o cs).toArray t (0, 0)) ∧ w.grownBy (w.setCells g o cs) (some g) := by
  obtain ⟨cur', h3, h4, h5⟩ := setCells_row cs o w cur.toArray hg (by simpa using hfit)
  obtain ⟨s1, s2, s3, s4⟩ := setCells_same g cs o w
  refine ⟨?_, ⟨s1, s2, s3, by rw [s4]; exact Nat.le_refl _, fun k _ hk => setCells_far cs o k (fun e => hk (by rw [e]))⟩⟩
  rw [h3]
  have : cur' = (splice cur o cs).toArray := by
    apply Array.ext'
    rw [h5]
    simp [splice, List.append_assoc]
  rw [this]
variable {ops : Array Oper} {rest : List Oper} {o : Oper} {a : Act} {Q : Exit → Act → World → Prop} {w : World}
/-- What copy leaves of a row that is known whole: 'cs' laid over 'cur' from 'off' on. -/
theorem copy_run (dT sT ty elem : TypeId) (sz : Nat) (hu : P.underlying dT = some (.slice elem)) (hsz : (P.info? elem).map (·.size) = some sz) (hs0 : 0 < sz)
    (dp sp : Option Addr) (dLen dCap sLen sCap g off : Nat) (cur : List Value) (t : TypeId) (hg : w.heap[g]? = some (.cells cur.toArray t (0, 0))) (cs : List Value) (hn : cs.length = Nat.min sLen dLen * sz)
    (hpos : 0 < cs.length → dp = some ⟨g, off, none⟩ ∧ ∃ ad, sp = some ad ∧ ∀ j v, cs[j]? = some v → w.cell? (ad.add j) = some v)
    (hfit : off + cs.length ≤ cur.length) (h1 : ∀ v ∈ cs, v.oneCell' = true) :
    ∃ w', (Builtin.copy_ #[dT, sT] ty #[.slice dp dLen dCap, .slice sp sLen sCap]).run P w = .ok (goInt (Nat.min sLen dLen)) w' ∧ w'.heap[g]? = some (.cells (splice cur off cs).toArray t (0, 0)) ∧ w.grownBy w' (some g) := by
  by_cases h0 : cs.length = 0
  · obtain rfl : cs = [] := List.eq_nil_of_length_eq_zero h0
    have hm : Nat.min sLen dLen = 0 := by
      rcases Nat.eq_zero_or_pos (Nat.min sLen dLen) with h | h
      · exact h
      · have := Nat.mul_pos h hs0
        rw [← hn] at this
        simp at this
    refine ⟨w, ?_, by simpa [splice] using hg, World.grownBy.refl w _⟩
    rw [hm]
    exact run_copyK0 w dT sT ty elem sz dp sp dLen dCap sLen sCap hu hsz hm
  · obtain ⟨rfl, ad, rfl, hsrc⟩ := hpos (by omega)
    obtain ⟨hr, hgr⟩ := setCells_splice hg hfit
    refine ⟨_, run_copyK w dT sT ty elem sz g off dLen dCap ad sLen sCap cs hu hsz hn hsrc (fun j hj => ?_) (fun j _ => blk_frozen hg _) h1, hr, hgr⟩
    rw [blk_cell hg, Array.getElem?_eq_getElem (by simp; omega)]
    rfl
theorem wpList_copyK (hgd : o.guard = none) (d s : Operand) (dT sT : TypeId)
    (ho : o.op = .call { callee := .builtin .copy, args := #[d, s], argTypes := #[dT, sT] }) (elem : TypeId) (sz : Nat) (hu : P.underlying dT = some (.slice elem)) (hsz : (P.info? elem).map (·.size) = some sz) (hs0 : 0 < sz)
    (dp sp : Option Addr) (dLen dCap sLen sCap : Nat) (hd : a.eval d = .slice dp dLen dCap) (hs : a.eval s = .slice sp sLen sCap)
    (g off : Nat) (cur : List Value) (t : TypeId) (hg : w.heap[g]? = some (.cells cur.toArray t (0, 0))) (cs : List Value) (hn : cs.length = Nat.min sLen dLen * sz)
    (hpos : 0 < cs.length → dp = some ⟨g, off, none⟩ ∧ ∃ ad, sp = some ad ∧ ∀ j v, cs[j]? = some v → w.cell? (ad.add j) = some v)
    (hfit : off + cs.length ≤ cur.length) (h1 : ∀ v ∈ cs, v.oneCell' = true)
    (h : ∀ w', Hid (w'.heap[g]? = some (.cells (splice cur off cs).toArray t (0, 0))) → w.grownBy w' (some g) → wpList P ops Q rest (a.put o.dst (goInt (Nat.min sLen dLen))) w') :
    wpList P ops Q (o :: rest) a w := by
  obtain ⟨w', hr, h2, h3⟩ := copy_run (P := P) dT sT o.type elem sz hu hsz hs0 dp sp dLen dCap sLen sCap g off cur t hg cs hn hpos hfit h1
  refine wpList_plain hgd fun K hK => ?_
  unfold Oper.wp execOp
  simp only [ho, resolve, invoke, builtin, Sem.run_bind, Sem.run_pure, Result.andThen_ok, List.map_toArray, List.map_cons, List.map_nil, hd, hs, hr]
  exact hK _ _ (h w' (show _ = _ from h2) h3)
variable {K : Act → World → Prop} {E : Prop}
theorem step_copyK (hgd : o.guard = none) (d s : Operand) (dT sT : TypeId)
    (ho : o.op = .call { callee := .builtin .copy, args := #[d, s], argTypes := #[dT, sT] }) (elem : TypeId) (sz : Nat) (hu : P.underlying dT = some (.slice elem)) (hsz : (P.info? elem).map (·.size) = some sz) (hs0 : 0 < sz)
    (dp sp : Option Addr) (dLen dCap sLen sCap : Nat) (hd : a.eval d = .slice dp dLen dCap) (hs : a.eval s = .slice sp sLen sCap)
    (g off : Nat) (cur : List Value) (t : TypeId) (hg : w.heap[g]? = some (.cells cur.toArray t (0, 0))) (cs : List Value) (hn : cs.length = Nat.min sLen dLen * sz)
    (hpos : 0 < cs.length → dp = some ⟨g, off, none⟩ ∧ ∃ ad, sp = some ad ∧ ∀ j v, cs[j]? = some v → w.cell? (ad.add j) = some v)
    (hfit : off + cs.length ≤ cur.length) (h1 : ∀ v ∈ cs, v.oneCell' = true)
    (h : ∀ w', Hid (w'.heap[g]? = some (.cells (splice cur off cs).toArray t (0, 0))) → w.grownBy w' (some g) → K (a.put o.dst (goInt (Nat.min sLen dLen))) w') :
    if Region.wanted o (yielded ops a.tmps) = true then Oper.wp P o a w K Q else E := by
  have hw : Region.wanted o (yielded ops a.tmps) = true := by simp [Region.wanted, hgd]
  rw [if_pos hw]
  obtain ⟨w', hr, h2, h3⟩ := copy_run (P := P) dT sT o.type elem sz hu hsz hs0 dp sp dLen dCap sLen sCap g off cur t hg cs hn hpos hfit h1
  unfold Oper.wp execOp
  simp only [ho, resolve, invoke, builtin, Sem.run_bind, Sem.run_pure, Result.andThen_ok, List.map_toArray, List.map_cons, List.map_nil, hd, hs, hr]
  exact h w' (show _ = _ from h2) h3
/-- clear(x), x a stretch of n elements of a row that is known whole. -/
theorem clear_run (tT ty elem : TypeId) (i0 : TypeInfo) (z : Value) (sz : Nat) (hu : P.underlying tT = some (.slice elem)) (hi : P.info? elem = some i0) (hz : i0.zero = some z) (hzs : z.cells.size = sz) (h1 : ∀ v ∈ z.cells.toList, v.oneCell' = true)
    (xp : Option Addr) (n c g off : Nat) (cur : List Value) (t : TypeId) (hg : w.heap[g]? = some (.cells cur.toArray t (0, 0))) (hpos : 0 < n → xp = some ⟨g, off, none⟩) (hfit : off + n * sz ≤ cur.length) :
    ∃ w', (Builtin.clear_ #[tT] ty #[.slice xp n c]).run P w = .ok (.tuple #[]) w' ∧ (∃ cs, cs.length = n * sz ∧ w'.heap[g]? = some (.cells (splice cur off cs).toArray t (0, 0))) ∧ w.grownBy w' (some g) := by
  rcases Nat.eq_zero_or_pos n with h0 | h0
  · subst h0
    refine ⟨w, ?_, ⟨[], by simp, by simpa [splice] using hg⟩, World.grownBy.refl w _⟩
    cases xp <;> simp [Builtin.clear_, run_underlying hu]
  · obtain rfl := hpos h0
    have hl : (Builtin.zeroCells z.cells n).toList.length = n * sz := by simp [Builtin.zeroCells, hzs]
    obtain ⟨hr, hgr⟩ := setCells_splice (cs := (Builtin.zeroCells z.cells n).toList) (o := off) hg (by rw [hl]; exact hfit)
    have hone : ∀ v ∈ (Builtin.zeroCells z.cells n).toList, v.oneCell' = true := by
      intro v hv
      simp only [Builtin.zeroCells, Array.toList_map, List.mem_map] at hv
      obtain ⟨q, hq, rfl⟩ := hv
      have hsz : 0 < z.cells.size := by
        rcases Nat.eq_zero_or_pos z.cells.size with h | h
        · simp [h] at hq
        · exact h
      have hlt : q % z.cells.size < z.cells.size := Nat.mod_lt _ hsz
      rw [getElem!_pos z.cells _ hlt]
      exact h1 _ (by rw [Array.mem_toList_iff]; exact Array.getElem_mem hlt)
    have hst := run_storeCells_cells (P := P) g off (Builtin.zeroCells z.cells n).toList 0 w (fun j hj => by rw [blk_cell hg, Array.getElem?_eq_getElem (by simp; rw [hl] at hj; omega)]; rfl) (fun j _ => blk_frozen hg _) hone
    refine ⟨_, ?_, ⟨_, hl, hr⟩, hgr⟩
    obtain ⟨n, rfl⟩ : ∃ m, n = m + 1 := ⟨n - 1, by omega⟩
    simp [Builtin.clear_, run_underlying hu, zeroValue, typeInfo, hi, hz, hst]
theorem wpList_clearK (hgd : o.guard = none) (x : Operand) (tT : TypeId) (ho : o.op = .call { callee := .builtin .clear, args := #[x], argTypes := #[tT] }) (elem : TypeId) (i0 : TypeInfo) (z : Value) (sz : Nat) (hu : P.underlying tT = some (.slice elem)) (hi : P.info? elem = some i0) (hz : i0.zero = some z) (hzs : z.cells.size = sz) (h1 : ∀ v ∈ z.cells.toList, v.oneCell' = true)
    (xp : Option Addr) (n c : Nat) (hx : a.eval x = .slice xp n c) (g off : Nat) (cur : List Value) (t : TypeId) (hg : w.heap[g]? = some (.cells cur.toArray t (0, 0))) (hpos : 0 < n → xp = some ⟨g, off, none⟩) (hfit : off + n * sz ≤ cur.length)
    (h : ∀ w' cs, cs.length = n * sz → Hid (w'.heap[g]? = some (.cells (splice cur off cs).toArray t (0, 0))) → w.grownBy w' (some g) → wpList P ops Q rest (a.put o.dst (.tuple #[])) w') : wpList P ops Q (o :: rest) a w := by
  obtain ⟨w', hr, ⟨cs, h2, h3⟩, h4⟩ := clear_run (P := P) tT o.type elem i0 z sz hu hi hz hzs h1 xp n c g off cur t hg hpos hfit
  refine wpList_plain hgd fun K hK => ?_
  unfold Oper.wp execOp
  simp only [ho, resolve, invoke, builtin, Sem.run_bind, Sem.run_pure, Result.andThen_ok, List.map_toArray, List.map_cons, List.map_nil, hx, hr]
  exact hK _ _ (h w' cs h2 (show _ = _ from h3) h4)
end
theorem seg_cells {w : World} {g e b m : Nat} {cur X : List Value} (hg : w.heap[g]? = some (.cells cur.toArray e (0, 0))) (hX : X = (cur.take m).drop b) : ∀ j v, X[j]? = some v → w.cell? ((⟨g, b, none⟩ : Addr).add j) = some v := by
  intro j v hj
  subst hX
  rw [List.getElem?_drop, List.getElem?_take] at hj
  split at hj
  · rw [show (⟨g, b, none⟩ : Addr).add j = ⟨g, b + j, none⟩ by unfold Addr.add; split <;> simp_all]
    rw [blk_cell hg]
    simpa using hj
  · cases hj
theorem splice_ins {α : Type} (cur X vs : List α) (a b m : Nat) (hX : X = (cur.take m).drop a) (hv : vs.length = b) (hm : m + b ≤ cur.length) (ha : a ≤ m) :
    (splice (splice cur (a + b) X) a vs).length = cur.length ∧ (splice (splice cur (a + b) X) a vs).take (m + b) = cur.take a ++ vs ++ X := by
  have hXl : X.length = m - a := by subst hX; simp; omega
  have h1 : (splice cur (a + b) X).length = cur.length := length_splice _ _ _ (by omega)
  refine ⟨by rw [length_splice _ _ _ (by omega), h1], ?_⟩
  have e1 : (splice cur (a + b) X).take a = cur.take a := by
    unfold splice
    rw [List.take_append_of_le_length (by rw [List.length_take]; omega), List.take_take, Nat.min_eq_left (by omega)]
  have e2 : (splice cur (a + b) X).drop (a + b) = X ++ cur.drop (a + b + X.length) := by
    unfold splice
    rw [List.drop_append, List.drop_eq_nil_of_le (by rw [List.length_take]; omega), List.nil_append, List.length_take, Nat.min_eq_left (by omega), Nat.sub_self, List.drop_zero]
  have e3 : splice (splice cur (a + b) X) a vs = (cur.take a ++ vs ++ X) ++ cur.drop (a + b + X.length) := by
    show (splice cur (a + b) X).take a ++ (vs ++ (splice cur (a + b) X).drop (a + vs.length)) = _
    rw [hv, e1, e2]
    simp only [List.append_assoc]
  rw [e3, List.take_append_of_le_length (by simp; omega), List.take_of_length_le (by simp; omega)]
section
variable {P : Program}
/-- copy, where its run is known by an equation. -/
theorem wp_copy_run (w : World) {o : Oper} {a : Act} {K : Act → World → Prop} {Q : Exit → Act → World → Prop} (d s : Operand) (t t' : TypeId)
    (ho : o.op = .call { callee := .builtin .copy, args := #[d, s], argTypes := #[t, t'] }) (v u : Value) (hd : a.eval d = v) (hs : a.eval s = u) {v' : Value} {w' : World}
    (hr : (Builtin.copy_ #[t, t'] o.type #[v, u]).run P w = .ok v' w') (h : K (a.put o.dst v') w') : o.wp P a w K Q := by
  unfold Oper.wp execOp
  simp only [ho, resolve, invoke, builtin, Sem.run_bind, Sem.run_pure, Result.andThen_ok, List.map_toArray, List.map_cons, List.map_nil, hd, hs, hr]
  exact h
theorem wpList_copy_run (w : World) {ops : Array Oper} {rest : List Oper} {o : Oper} {a : Act} {Q : Exit → Act → World → Prop} (hgd : o.guard = none) (d s : Operand) (t t' : TypeId)
    (ho : o.op = .call { callee := .builtin .copy, args := #[d, s], argTypes := #[t, t'] }) (v u : Value) (hd : a.eval d = v) (hs : a.eval s = u) {v' : Value} {w' : World}
    (hr : (Builtin.copy_ #[t, t'] o.type #[v, u]).run P w = .ok v' w') (h : wpList P ops Q rest (a.put o.dst v') w') : wpList P ops Q (o :: rest) a w :=
  wpList_plain hgd fun _ hK => wp_copy_run w d s t t' ho v u hd hs hr (hK _ _ h)
theorem step_copy_run {ops : Array Oper} {o : Oper} {a : Act} {w : World} {K : Act → World → Prop} {Q : Exit → Act → World → Prop} {E : Prop}
    (hg : o.guard = none) (d x : Operand) (dT sT : TypeId) (hop : o.op = Op.call { callee := Callee.builtin Builtin.copy, args := #[d, x], argTypes := #[dT, sT] })
    (v u : Value) (hd : a.eval d = v) (hx : a.eval x = u) {v' : Value} {w' : World} (hr : (Builtin.copy_ #[dT, sT] o.type #[v, u]).run P w = .ok v' w') (hK : K (a.put o.dst v') w') :
    if Region.wanted o (yielded ops a.tmps) = true then Oper.wp P o a w K Q else E := by
  have hw : Region.wanted o (yielded ops a.tmps) = true := by simp [Region.wanted, hg]
  rw [if_pos hw]
  exact wp_copy_run w d x dT sT hop v u hd hx hr hK
theorem wpList_append_run' (w : World) {ops : Array Oper} {rest : List Oper} {o : Oper} {a : Act} {Q : Exit → Act → World → Prop} (hgd : o.guard = none) (d s : Operand) (t t' : TypeId)
    (ho : o.op = .call { callee := .builtin .append, args := #[d, s], argTypes := #[t, t'] }) (v u : Value) (hd : a.eval d = v) (hs : a.eval s = u) {v' : Value} {w' : World}
    (hr : (Builtin.append_ #[t, t'] o.type #[v, u]).run P w = .ok v' w') (h : wpList P ops Q rest (a.put o.dst v') w') : wpList P ops Q (o :: rest) a w := by
  refine wpList_plain hgd fun K hK => ?_
  unfold Oper.wp execOp
  simp only [ho, resolve, invoke, builtin, Sem.run_bind, Sem.run_pure, Result.andThen_ok, List.map_toArray, List.map_cons, List.map_nil, hd, hs, hr]
  exact hK _ _ h
theorem step_append_run {ops : Array Oper} {o : Oper} {a : Act} {w : World} {K : Act → World → Prop} {Q : Exit → Act → World → Prop} {E : Prop}
    (hg : o.guard = none) (d x : Operand) (dT sT : TypeId) (hop : o.op = Op.call { callee := Callee.builtin Builtin.append, args := #[d, x], argTypes := #[dT, sT] })
    (v u : Value) (hd : a.eval d = v) (hx : a.eval x = u) {v' : Value} {w' : World} (hr : (Builtin.append_ #[dT, sT] o.type #[v, u]).run P w = .ok v' w') (hK : K (a.put o.dst v') w') :
    if Region.wanted o (yielded ops a.tmps) = true then Oper.wp P o a w K Q else E := by
  have hw : Region.wanted o (yielded ops a.tmps) = true := by simp [Region.wanted, hg]
  rw [if_pos hw]
  unfold Oper.wp execOp
  simp only [hop, resolve, invoke, builtin, Sem.run_bind, Sem.run_pure, Result.andThen_ok, List.map_toArray, List.map_cons, List.map_nil, hd, hx, hr]
  exact hK
end
theorem splice_ins2 {α : Type} (row X vs olds : List α) (a b : Nat) (hr : row.take a = olds) (hl : olds.length = a) (hv : vs.length = b) (hm : a + b + X.length ≤ row.length) :
    (splice (splice row a vs) (a + b) X).length = row.length ∧ (splice (splice row a vs) (a + b) X).take (a + b + X.length) = olds ++ vs ++ X := by
  have h1 : (splice row a vs).length = row.length := length_splice _ _ _ (by omega)
  refine ⟨by rw [length_splice _ _ _ (by omega), h1], ?_⟩
  have e1 : splice row a vs = (olds ++ vs) ++ row.drop (a + b) := by
    unfold splice
    rw [hr, hv, List.append_assoc]
  have hol : (olds ++ vs).length = a + b := by rw [List.length_append, hl, hv]
  have e2 : splice (splice row a vs) (a + b) X = ((olds ++ vs) ++ X) ++ (splice row a vs).drop (a + b + X.length) := by
    show (splice row a vs).take (a + b) ++ (X ++ (splice row a vs).drop (a + b + X.length)) = _
    rw [show (splice row a vs).take (a + b) = olds ++ vs by rw [e1, ← hol, List.take_left]]
    rw [List.append_assoc (olds ++ vs)]
  rw [e2, List.take_append_of_le_length (by rw [List.length_append, hol]; exact Nat.le_refl _), List.take_of_length_le (by rw [List.length_append, hol]; exact Nat.le_refl _)]
section
variable {P : Program}
theorem wpList_clear_run (w : World) {ops : Array Oper} {rest : List Oper} {o : Oper} {a : Act} {Q : Exit → Act → World → Prop} (hgd : o.guard = none) (x : Operand) (t : TypeId)
    (ho : o.op = .call { callee := .builtin .clear, args := #[x], argTypes := #[t] }) (v : Value) (hd : a.eval x = v) {v' : Value} {w' : World}
    (hr : (Builtin.clear_ #[t] o.type #[v]).run P w = .ok v' w') (h : wpList P ops Q rest (a.put o.dst v') w') : wpList P ops Q (o :: rest) a w := by
  refine wpList_plain hgd fun K hK => ?_
  unfold Oper.wp execOp
  simp only [ho, resolve, invoke, builtin, Sem.run_bind, Sem.run_pure, Result.andThen_ok, List.map_toArray, List.map_cons, List.map_nil, hd, hr]
  exact hK _ _ h
end
theorem splice_del {α : Type} (cur X Z : List α) (a m : Nat) (hm : m = a + X.length) (hl : m + Z.length ≤ cur.length) :
    (splice (splice cur a X) m Z).length = cur.length ∧ (splice (splice cur a X) m Z).take m = cur.take a ++ X := by
  have h1 : (splice cur a X).length = cur.length := length_splice _ _ _ (by omega)
  refine ⟨by rw [length_splice _ _ _ (by omega), h1], ?_⟩
  show ((splice cur a X).take m ++ (Z ++ (splice cur a X).drop (m + Z.length))).take m = _
  have hla : (cur.take a).length = a := by rw [List.length_take]; omega
  have e1 : (splice cur a X).take m = cur.take a ++ X := by
    show (cur.take a ++ (X ++ cur.drop (a + X.length))).take m = _
    rw [← List.append_assoc, List.take_append_of_le_length (by rw [List.length_append, hla]; omega), List.take_of_length_le (by rw [List.length_append, hla]; omega)]
  rw [e1, List.take_append_of_le_length (by rw [List.length_append, hla]; omega), List.take_of_length_le (by rw [List.length_append, hla]; omega)]
namespace Kd
/-- A row whose elements are known with their footprints, as a value that is only read. -/
theorem V_of_own {α : Type} {d : Kd α} {e base base' : Nat} {ok : Nat → Prop} {W : World} {v : Value} {xs : List α} {cs : List Value} (ho : W.ownsRow base e d.sz v xs.length cs) (hr : Reps (fun p c => Kd.FK d W ok p c) d.sz xs cs) (hok : ∀ k, v.ownBlock = some k → ok k) : Kd.V d e W base' ok v xs := by
  have hlt := own_lt ho
  obtain ⟨A, c, rfl⟩ := own_slice ho
  have hc : xs.length ≤ c := by
    rcases ho.2 with ⟨h, h0⟩ | ⟨g, cap, cur, h, _, _, hn, _⟩
    · omega
    · injection h with _ _ h3
      omega
  refine ⟨A, c, rfl, hc, fun W' hW => ?_⟩
  have ho' : W'.ownsRow base e d.sz (.slice A xs.length c) xs.length cs := own_move ho (fun k hk => hW k (hok k hk) (hlt k hk))
  obtain ⟨A', c', he, hR⟩ := own_reads_row ho' (R := d.K W') (hr.imp_ (fun p cc h => h W' hW)) rfl
  injection he with he
  subst he
  exact hR
end Kd
end Go.Proofs.Ytncmkcggkgahnaa.Gen
