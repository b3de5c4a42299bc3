/- For every list of configurations, every index and every kind and node of a change, the law ConfChanges answers true and the input reads as it did. Conditions: none beyond the statement. -/
import Derived.Test.YtalpnhgkhhmmlaaRows
import Derived.Test.YtalpnhgkhhmmlaaHRow
import Derived.Test.YtalpnhgkhhmmlaaHConf6a
namespace Go.Proofs.Ytalpnhgkhhmmlaa.confChanges
open Go.ChangeShapes Go.WideShapes Go.ChangeAt Go.RowKit Go.Proofs.YtalpnhgkhhmmlaaW.PrintWords Go.Proofs.YtalpnhgkhhmmlaaW.PrintLast Go.Proofs.YtalpnhgkhhmmlaaW.PrintMore Go.Proofs.Ytalpnhgkhhmmlaa.Row
open Go.ChangeMaps (open_string shut_string)
set_option linter.unusedVariables false
theorem own : ownKnob Try.prog.godebug = none := by kernel_rfl
theorem laidOut : laidOutB Try.prog = true := by kernel_rfl
open Go.Proofs.Ytalpnhgkhhmmlaa.PConf
def Wf39 (x : S39) : Prop := (Lit.int .i64 x.f0).wf = true ∧ x.f1.length ≤ maxLen ∧ ∀ z ∈ x.f1, (Lit.int .i64 z).wf = true
theorem o33 : Opn Try.prog (Kd.slice 3 (Kd.int .i64)) (fun l => l.length ≤ maxLen ∧ ∀ z ∈ l, (Lit.int .i64 z).wf = true) 33 := Opn.slice Try.underlying33 (by kernel_rfl) (Opn.int Try.underlying3)
theorem o39 : Opn Try.prog k39 Wf39 39 := Opn.mono (Opn.struct (f := fun x : S39 => (x.f0, x.f1)) (fun x => ⟨x.1, x.2⟩) (fun _ => rfl) Try.underlying39 (by kernel_rfl) (OpnFs.cons (by kernel_rfl) (OpnFs.one rfl (by kernel_rfl) (Opn.int Try.underlying3)) (OpnFs.one rfl (by kernel_rfl) o33))) (fun _ h => h)
theorem o22 : Opn Try.prog (Kd.slice 39 k39) (fun l => l.length ≤ maxLen ∧ ∀ z ∈ l, Wf39 z) 22 := Opn.slice Try.underlying22 (by kernel_rfl) o39
theorem o23 : Opn Try.prog (Kd.pair (Kd.int .i64) (Kd.int .i64)) (fun z => (Lit.int .i64 z.1).wf = true ∧ (Lit.int .i64 z.2).wf = true) 23 := Opn.arr2 Try.underlying23 (by kernel_rfl) (by kernel_rfl) (Opn.int Try.underlying3)
set_option maxRecDepth 100000 in
theorem lifted (os : Os) (started : os.Started) (H : Type) (enc : TypeId × Value → H) :
    ReturnsInHanded {} Try.checked os 3 .any (Rows.confChangesSpec.pre6 enc Try.prog Try.f3 Rows.confChangesRow.domain false) (Rows.confChangesSpec.post enc Try.prog Try.f3 false true false false) := by
  refine returnsInHanded_of_change_sized (C := Try.checked) own started (by kernel_rfl) Try.func3
    (ChangeSpec.witness6 (enc := enc) (C := Try.checked) false ⟨#[], #[.slice none 0 0, .int .i64 0, .agg #[.int .i64 0, .int .i64 0]], []⟩ 8 (by kernel_rfl) (by kernel_rfl) (by kernel_rfl) (by kernel_rfl)) ?_
  intro W base args ds gs before hval0 hW hcnd hsz0 _
  have hsz : (DataW.weightsEach Try.prog (Try.f3.params.toList ++ Rows.confChangesSpec.plain.varTypes Try.prog) (ds ++ gs)).all (· ≤ reachBytes) = true := hsz0
  have hval : ∀ (j : Nat) t v, Try.f3.params[j]? = some t → args[j]? = some v → Value.okWide Try.prog W .any base t v := hval0
  have hW' := hW
  obtain ⟨p, q, hA0, hV, rfl, hfz, hnd⟩ := hW
  have hA : DataW.TrodAll enc Try.prog W 0 (fun _ => true) true Try.f3.params.toList args.toList ds p := hA0
  rw [Try.params3] at hA hval hsz
  obtain ⟨v0, vs0, d0, ds0, p0, q0, hargs, rfl, rfl, h0, r0⟩ := trodAll_cons hA
  obtain ⟨v1, vs1, d1, ds1, p1, q1, rfl, rfl, rfl, h1, r1⟩ := trodAll_cons r0
  obtain ⟨v2, vs2, d2, ds2, p2, q2, rfl, rfl, rfl, h2, r2⟩ := trodAll_cons r1
  obtain ⟨rfl, rfl, rfl⟩ := trodAll_nil r2
  obtain rfl : args = #[v0, v1, v2] := by cases args; simp_all
  obtain ⟨rfl, rfl⟩ := trodVars_none hV
  have k0 := h0
  have lt0 : ∀ x ∈ p0, x.block < W.heap.size := by obtain ⟨m, hm⟩ := k0; exact DataW.trod_lt m _ _ _ hm
  obtain ⟨l0, A0, c0, rfl, hc0, hr0, wf0⟩ := par_slice Try.underlying22 (o22) (hval 0 22 v0 rfl rfl) h0
  have y0 : l0.length * 32 ≤ 140737488351232 := sized_row hsz (j := 0) (t := 22) rfl rfl Try.underlying22 (by kernel_rfl) h0
  obtain ⟨a1, rfl, rfl, rfl, w1⟩ := open_int Try.underlying3 (hval 1 3 v1 rfl rfl) h1
  have k2 := h2
  have lt2 : ∀ x ∈ p2, x.block < W.heap.size := by obtain ⟨m, hm⟩ := k2; exact DataW.trod_lt m _ _ _ hm
  obtain ⟨a2, cs2, rfl, hK2, wf2⟩ := par_array Try.underlying23 (o23) (hval 2 23 v2 rfl rfl) h2
  clear hsz
  clear hA0 hval0 hsz0
  obtain ⟨x, y⟩ := a2
  obtain ⟨_, _, rfl, rfl, rfl⟩ := hK2
  refine (ConfChanges_calls A0 c0 l0 a1 x y W hr0 hc0 (by omega)).mono fun e W' ⟨he, bel⟩ => ?_
  subst he
  exact ⟨_, rfl, _, _, _, [], _, [], hW', trodAll_mk1 (shut_bool Try.underlying4 _), (trodAll_cons_mk (Below.trod laidOut (by kernel_rfl) (of_decide_eq_true (by kernel_rfl)) k0 bel lt0) (trodAll_cons_mk (shut_int Try.underlying3 w1) (trodAll_cons_mk (Below.trod laidOut (by kernel_rfl) (of_decide_eq_true (by kernel_rfl)) k2 bel lt2) trodAll_mk0))), rfl, bel.frame _, fun h => by cases h⟩
theorem over : Rows.confChangesRow.holds Try.pinned (OpenSpec.ofChange Rows.confChangesSpec) :=
  OpenClaim.holds_of_wide 3 Try.f3 rfl rfl rfl rfl rfl rfl rfl ⟨rfl, rfl, rfl, rfl, rfl⟩ rfl rfl rfl rfl rfl (by kernel_rfl) Try.func3 (by kernel_rfl)
    (of_decide_eq_true (by kernel_rfl)) (by unfold Func.isWrapper; first | (rw [if_pos (by decide +kernel)]; kernel_rfl) | (rw [if_neg (by decide +kernel)]; exact ⟨rfl, rfl⟩))
    (fun os started H enc _ => lifted os started H enc)
theorem proved : Rows.ConfChangesSaid := over
end Go.Proofs.Ytalpnhgkhhmmlaa.confChanges
namespace Go.Proofs.Ytalpnhgkhhmmlaa
theorem confChanges_holds : Rows.ConfChangesSaid := confChanges.proved
end Go.Proofs.Ytalpnhgkhhmmlaa
