/- For every list of votes, every index and every list of members, the law TallyVotes answers true and the inputs read as they did. Conditions: none beyond the statement. -/
import Derived.Test.YtalpnhgkhhmmlaaRows
import Derived.Test.YtalpnhgkhhmmlaaHRow
import Derived.Test.YtalpnhgkhhmmlaaHTalA9
namespace Go.Proofs.Ytalpnhgkhhmmlaa.tallyVotes
open Go.ChangeShapes Go.WideShapes Go.ChangeAt Go.RowKit Go.Proofs.YtalpnhgkhhmmlaaW.PrintWords Go.Proofs.YtalpnhgkhhmmlaaW.PrintLast Go.Proofs.YtalpnhgkhhmmlaaW.PrintMore Go.Proofs.Ytalpnhgkhhmmlaa.Row
open Go.ChangeMaps (open_string shut_string)
set_option linter.unusedVariables false
theorem own : ownKnob Try.prog.godebug = none := by kernel_rfl
theorem laidOut : laidOutB Try.prog = true := by kernel_rfl
open Go.Proofs.Ytalpnhgkhhmmlaa.PTal
theorem o33 : Opn Try.prog (Kd.slice 3 (Kd.int .i64)) (fun l => l.length ≤ maxLen ∧ ∀ z ∈ l, (Lit.int .i64 z).wf = true) 33 := Opn.slice Try.underlying33 (by kernel_rfl) (Opn.int Try.underlying3)
def Wf46 (x : S46) : Prop := (Lit.int .i64 x.f0).wf = true ∧ (Lit.int .i64 x.f1).wf = true
theorem o46 : Opn Try.prog k46 Wf46 46 := Opn.mono (Opn.struct (f := fun x : S46 => (x.f0, x.f1)) (fun x => ⟨x.1, x.2⟩) (fun _ => rfl) Try.underlying46 (by kernel_rfl) (OpnFs.cons (by kernel_rfl) (OpnFs.one rfl (by kernel_rfl) (Opn.int Try.underlying3)) (OpnFs.one rfl (by kernel_rfl) (Opn.int Try.underlying3)))) (fun _ h => h)
def Wf55 (x : S55) : Prop := Wf46 x.f0 ∧ (Lit.int .i64 x.f1).wf = true ∧ (Lit.int .i64 x.f2).wf = true ∧ True
theorem o55 : Opn Try.prog k55 Wf55 55 := Opn.mono (Opn.struct (f := fun x : S55 => (x.f0, x.f1, x.f2, x.f3)) (fun x => ⟨x.1, x.2.1, x.2.2.1, x.2.2.2⟩) (fun _ => rfl) Try.underlying55 (by kernel_rfl) (OpnFs.cons (by kernel_rfl) (OpnFs.one rfl (by kernel_rfl) o46) (OpnFs.cons (by kernel_rfl) (OpnFs.one rfl (by kernel_rfl) (Opn.int Try.underlying3)) (OpnFs.cons (by kernel_rfl) (OpnFs.one rfl (by kernel_rfl) (Opn.int Try.underlying3)) (OpnFs.one rfl (by kernel_rfl) (Opn.bool Try.underlying4)))))) (fun _ h => h)
theorem o53 : Opn Try.prog (Kd.slice 55 k55) (fun l => l.length ≤ maxLen ∧ ∀ z ∈ l, Wf55 z) 53 := Opn.slice Try.underlying53 (by kernel_rfl) o55
theorem votes_calls (A0 : Option Addr) (c0 : Nat) (l : List S55) (ix : Int) (A2 : Option Addr) (c2 : Nat) (ms : List Int) (w : World) (hwf : (Lit.int .i64 ix).wf = true)
    (hr0 : Kd.C k55 w A0 l.length l) (hc0 : l.length ≤ c0) (hr2 : Kd.C (Kd.int .i64) w A2 ms.length ms) (hc2 : ms.length ≤ c2) :
    Calls Try.prog 7 #[.slice A0 l.length c0, .int .i64 ix, .slice A2 ms.length c2] w fun e w' => e = .returned (.bool true) ∧ Below w.heap.size w w' := by
  by_cases h0 : l.length > 60
  · exact votes_large A0 c0 l ix A2 c2 ms w (.inl h0)
  by_cases h2 : ms.length > 60
  · exact votes_large A0 c0 l ix A2 c2 ms w (.inr h2)
  exact votes_main A0 c0 l ix A2 c2 ms w h0 h2 hwf hr0 hc0 hr2 hc2
set_option maxRecDepth 100000 in
theorem lifted (os : Os) (started : os.Started) (H : Type) (enc : TypeId × Value → H) :
    ReturnsInHanded {} Try.checked os 7 .any (Rows.tallyVotesSpec.pre6 enc Try.prog Try.f7 Rows.tallyVotesRow.domain false) (Rows.tallyVotesSpec.post enc Try.prog Try.f7 false true false false) := by
  refine returnsInHanded_of_change_sized (C := Try.checked) own started (by kernel_rfl) Try.func7
    (ChangeSpec.witness6 (enc := enc) (C := Try.checked) false ⟨#[], #[.slice none 0 0, .int .i64 0, .slice none 0 0], []⟩ 8 (by kernel_rfl) (by kernel_rfl) (by kernel_rfl) (by kernel_rfl)) ?_
  intro W base args ds gs before hval0 hW hcnd hsz0 _
  have hsz : (DataW.weightsEach Try.prog (Try.f7.params.toList ++ Rows.tallyVotesSpec.plain.varTypes Try.prog) (ds ++ gs)).all (· ≤ reachBytes) = true := hsz0
  have hval : ∀ (j : Nat) t v, Try.f7.params[j]? = some t → args[j]? = some v → Value.okWide Try.prog W .any base t v := hval0
  have hW' := hW
  obtain ⟨p, q, hA0, hV, rfl, hfz, hnd⟩ := hW
  have hA : DataW.TrodAll enc Try.prog W 0 (fun _ => true) true Try.f7.params.toList args.toList ds p := hA0
  rw [Try.params7] at hA hval hsz
  obtain ⟨v0, vs0, d0, ds0, p0, q0, hargs, rfl, rfl, h0, r0⟩ := trodAll_cons hA
  obtain ⟨v1, vs1, d1, ds1, p1, q1, rfl, rfl, rfl, h1, r1⟩ := trodAll_cons r0
  obtain ⟨v2, vs2, d2, ds2, p2, q2, rfl, rfl, rfl, h2, r2⟩ := trodAll_cons r1
  obtain ⟨rfl, rfl, rfl⟩ := trodAll_nil r2
  obtain rfl : args = #[v0, v1, v2] := by cases args; simp_all
  obtain ⟨rfl, rfl⟩ := trodVars_none hV
  have k0 := h0
  have lt0 : ∀ x ∈ p0, x.block < W.heap.size := by obtain ⟨m, hm⟩ := k0; exact DataW.trod_lt m _ _ _ hm
  obtain ⟨l0, A0, c0, rfl, hc0, hr0, wf0⟩ := par_slice Try.underlying53 (o53) (hval 0 53 v0 rfl rfl) h0
  have y0 : l0.length * 40 ≤ 140737488351232 := sized_row hsz (j := 0) (t := 53) rfl rfl Try.underlying53 (by kernel_rfl) h0
  obtain ⟨a1, rfl, rfl, rfl, w1⟩ := open_int Try.underlying3 (hval 1 3 v1 rfl rfl) h1
  have k2 := h2
  have lt2 : ∀ x ∈ p2, x.block < W.heap.size := by obtain ⟨m, hm⟩ := k2; exact DataW.trod_lt m _ _ _ hm
  obtain ⟨l2, A2, c2, rfl, hc2, hr2, wf2⟩ := par_slice Try.underlying33 (o33) (hval 2 33 v2 rfl rfl) h2
  have y2 : l2.length * 8 ≤ 140737488351232 := sized_row hsz (j := 2) (t := 33) rfl rfl Try.underlying33 (by kernel_rfl) h2
  clear hsz
  clear hA0 hval0 hsz0
  refine (votes_calls A0 c0 l0 a1 A2 c2 l2 W w1 hr0 hc0 hr2 hc2).mono fun e W' ⟨he, bel⟩ => ?_
  subst he
  exact ⟨_, rfl, _, _, _, [], _, [], hW', trodAll_mk1 (shut_bool Try.underlying4 _), (trodAll_cons_mk (Below.trod laidOut (by kernel_rfl) (of_decide_eq_true (by kernel_rfl)) k0 bel lt0) (trodAll_cons_mk (shut_int Try.underlying3 w1) (trodAll_cons_mk (Below.trod laidOut (by kernel_rfl) (of_decide_eq_true (by kernel_rfl)) k2 bel lt2) trodAll_mk0))), rfl, bel.frame _, fun h => by cases h⟩
theorem over : Rows.tallyVotesRow.holds Try.pinned (OpenSpec.ofChange Rows.tallyVotesSpec) :=
  OpenClaim.holds_of_wide 7 Try.f7 rfl rfl rfl rfl rfl rfl rfl ⟨rfl, rfl, rfl, rfl, rfl⟩ rfl rfl rfl rfl rfl (by kernel_rfl) Try.func7 (by kernel_rfl)
    (of_decide_eq_true (by kernel_rfl)) (by unfold Func.isWrapper; first | (rw [if_pos (by decide +kernel)]; kernel_rfl) | (rw [if_neg (by decide +kernel)]; exact ⟨rfl, rfl⟩))
    (fun os started H enc _ => lifted os started H enc)
theorem proved : Rows.TallyVotesSaid := over
end Go.Proofs.Ytalpnhgkhhmmlaa.tallyVotes
namespace Go.Proofs.Ytalpnhgkhhmmlaa
theorem tallyVotes_holds : Rows.TallyVotesSaid := tallyVotes.proved
end Go.Proofs.Ytalpnhgkhhmmlaa
