/- For every list of members, every two lists of nodes and every node, the law TallyCommon answers true and the inputs read as they did. Conditions: none beyond the statement. -/
import Derived.Test.YtalpnhgkhhmmlaaRows
import Derived.Test.YtalpnhgkhhmmlaaHRow
import Derived.Test.YtalpnhgkhhmmlaaHTalA7
namespace Go.Proofs.Ytalpnhgkhhmmlaa.tallyCommon
open Go.ChangeShapes Go.WideShapes Go.ChangeAt Go.RowKit Go.Proofs.YtalpnhgkhhmmlaaW.PrintWords Go.Proofs.YtalpnhgkhhmmlaaW.PrintLast Go.Proofs.YtalpnhgkhhmmlaaW.PrintMore Go.Proofs.Ytalpnhgkhhmmlaa.Row
open Go.ChangeMaps (open_string shut_string)
set_option linter.unusedVariables false
theorem own : ownKnob Try.prog.godebug = none := by kernel_rfl
theorem laidOut : laidOutB Try.prog = true := by kernel_rfl
open Go.Proofs.Ytalpnhgkhhmmlaa.PTal
theorem o33 : Opn Try.prog (Kd.slice 3 (Kd.int .i64)) (fun l => l.length ≤ maxLen ∧ ∀ z ∈ l, (Lit.int .i64 z).wf = true) 33 := Opn.slice Try.underlying33 (by kernel_rfl) (Opn.int Try.underlying3)
theorem o44 : Opn Try.prog (Kd.pair (Kd.slice 3 (Kd.int .i64)) (Kd.slice 3 (Kd.int .i64))) (fun _ => True) 44 := Opn.mono (Opn.arr2 Try.underlying44 (by kernel_rfl) (by kernel_rfl) o33) (fun _ _ => trivial)
theorem common_calls (A0 : Option Addr) (c0 : Nat) (l : List Int) (A1 : Option Addr) (c1 : Nat) (x1 : List Int) (A2 : Option Addr) (c2 : Nat) (x2 : List Int) (m : Int) (w : World)
    (hr0 : Kd.C (Kd.int .i64) w A0 l.length l) (hc0 : l.length ≤ c0) (hr1 : Kd.C (Kd.int .i64) w A1 x1.length x1) (hr2 : Kd.C (Kd.int .i64) w A2 x2.length x2) :
    Calls Try.prog 6 #[.slice A0 l.length c0, .agg #[.slice A1 x1.length c1, .slice A2 x2.length c2], .int .i64 m] w fun e w' => e = .returned (.bool true) ∧ Below w.heap.size w w' := by
  by_cases h0 : l.length > 60
  · exact common_large A0 c0 l A1 c1 x1 A2 c2 x2 m w (.inl h0)
  by_cases h1 : x1.length > 60
  · exact common_large A0 c0 l A1 c1 x1 A2 c2 x2 m w (.inr (.inl h1))
  by_cases h2 : x2.length > 60
  · exact common_large A0 c0 l A1 c1 x1 A2 c2 x2 m w (.inr (.inr h2))
  exact common_main A0 c0 l A1 c1 x1 A2 c2 x2 m w h0 h1 h2 hr0 hc0 hr1 hr2
set_option maxRecDepth 100000 in
theorem lifted (os : Os) (started : os.Started) (H : Type) (enc : TypeId × Value → H) :
    ReturnsInHanded {} Try.checked os 6 .any (Rows.tallyCommonSpec.pre6 enc Try.prog Try.f6 Rows.tallyCommonRow.domain false) (Rows.tallyCommonSpec.post enc Try.prog Try.f6 false true false false) := by
  refine returnsInHanded_of_change_sized (C := Try.checked) own started (by kernel_rfl) Try.func6
    (ChangeSpec.witness6 (enc := enc) (C := Try.checked) false ⟨#[], #[.slice none 0 0, .agg #[.slice none 0 0, .slice none 0 0], .int .i64 0], []⟩ 8 (by kernel_rfl) (by kernel_rfl) (by kernel_rfl) (by kernel_rfl)) ?_
  intro W base args ds gs before hval0 hW hcnd hsz0 _
  have hsz : (DataW.weightsEach Try.prog (Try.f6.params.toList ++ Rows.tallyCommonSpec.plain.varTypes Try.prog) (ds ++ gs)).all (· ≤ reachBytes) = true := hsz0
  have hval : ∀ (j : Nat) t v, Try.f6.params[j]? = some t → args[j]? = some v → Value.okWide Try.prog W .any base t v := hval0
  have hW' := hW
  obtain ⟨p, q, hA0, hV, rfl, hfz, hnd⟩ := hW
  have hA : DataW.TrodAll enc Try.prog W 0 (fun _ => true) true Try.f6.params.toList args.toList ds p := hA0
  rw [Try.params6] at hA hval hsz
  obtain ⟨v0, vs0, d0, ds0, p0, q0, hargs, rfl, rfl, h0, r0⟩ := trodAll_cons hA
  obtain ⟨v1, vs1, d1, ds1, p1, q1, rfl, rfl, rfl, h1, r1⟩ := trodAll_cons r0
  obtain ⟨v2, vs2, d2, ds2, p2, q2, rfl, rfl, rfl, h2, r2⟩ := trodAll_cons r1
  obtain ⟨rfl, rfl, rfl⟩ := trodAll_nil r2
  obtain rfl : args = #[v0, v1, v2] := by cases args; simp_all
  obtain ⟨rfl, rfl⟩ := trodVars_none hV
  have k0 := h0
  have lt0 : ∀ x ∈ p0, x.block < W.heap.size := by obtain ⟨m, hm⟩ := k0; exact DataW.trod_lt m _ _ _ hm
  obtain ⟨l0, A0, c0, rfl, hc0, hr0, wf0⟩ := par_slice Try.underlying33 (o33) (hval 0 33 v0 rfl rfl) h0
  have y0 : l0.length * 8 ≤ 140737488351232 := sized_row hsz (j := 0) (t := 33) rfl rfl Try.underlying33 (by kernel_rfl) h0
  have k1 := h1
  have lt1 : ∀ x ∈ p1, x.block < W.heap.size := by obtain ⟨m, hm⟩ := k1; exact DataW.trod_lt m _ _ _ hm
  obtain ⟨a1, cs1, rfl, hK1, wf1⟩ := par_array Try.underlying44 (o44) (hval 1 44 v1 rfl rfl) h1
  obtain ⟨a2, rfl, rfl, rfl, w2⟩ := open_int Try.underlying3 (hval 2 3 v2 rfl rfl) h2
  clear hsz
  clear hA0 hval0 hsz0
  obtain ⟨x, y⟩ := a1
  obtain ⟨_, _, rfl, ⟨A1, c1, rfl, hc1, hr1⟩, ⟨A2, c2, rfl, hc2, hr2⟩⟩ := hK1
  refine (common_calls A0 c0 l0 A1 c1 x A2 c2 y a2 W hr0 hc0 hr1 hr2).mono fun e W' ⟨he, bel⟩ => ?_
  subst he
  exact ⟨_, rfl, _, _, _, [], _, [], hW', trodAll_mk1 (shut_bool Try.underlying4 _), (trodAll_cons_mk (Below.trod laidOut (by kernel_rfl) (of_decide_eq_true (by kernel_rfl)) k0 bel lt0) (trodAll_cons_mk (Below.trod laidOut (by kernel_rfl) (of_decide_eq_true (by kernel_rfl)) k1 bel lt1) (trodAll_cons_mk (shut_int Try.underlying3 w2) trodAll_mk0))), rfl, bel.frame _, fun h => by cases h⟩
theorem over : Rows.tallyCommonRow.holds Try.pinned (OpenSpec.ofChange Rows.tallyCommonSpec) :=
  OpenClaim.holds_of_wide 6 Try.f6 rfl rfl rfl rfl rfl rfl rfl ⟨rfl, rfl, rfl, rfl, rfl⟩ rfl rfl rfl rfl rfl (by kernel_rfl) Try.func6 (by kernel_rfl)
    (of_decide_eq_true (by kernel_rfl)) (by unfold Func.isWrapper; first | (rw [if_pos (by decide +kernel)]; kernel_rfl) | (rw [if_neg (by decide +kernel)]; exact ⟨rfl, rfl⟩))
    (fun os started H enc _ => lifted os started H enc)
theorem proved : Rows.TallyCommonSaid := over
end Go.Proofs.Ytalpnhgkhhmmlaa.tallyCommon
namespace Go.Proofs.Ytalpnhgkhhmmlaa
theorem tallyCommon_holds : Rows.TallyCommonSaid := tallyCommon.proved
end Go.Proofs.Ytalpnhgkhhmmlaa
