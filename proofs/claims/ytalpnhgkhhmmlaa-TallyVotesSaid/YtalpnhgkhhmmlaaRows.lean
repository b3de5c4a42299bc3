/-
  No cell of these rows narrows 'for every input' (looked for: loops, veiled, ifaces, maps, wideKeys, modest, calm, conditions, laid).
  DERIVED. THE GIVEN ROWS OF THIS SEAT. 6 by the template 'for every input the law returns true; each argument reads behind the call as it read before'; 0 by the template 'total and deterministic' (their statements: YtalpnhgkhhmmlaaTotals.lean).
  GIVEN WITH THE SEED: the statements are not yours to turn. If you find one false, say at which input.
  Laid BY PROGRAM, IN A SANDBOX (cutbox-rows.mjs): the forced cells as the released guide's own fill.sh prints them over the translation 96eba2ad21092e72… (all of the seat's roots in one cut). By AI agents, Wed Nov 11 2026. No macro, syntax, notation, axiom, sorry.
-/
import Derived.Test.YtalpnhgkhhmmlaaChecked
import GoSem.Claim
import GoSem.ClaimJoined
import GoSem.ClaimMapViews
import Derived.JoinedTies
import Derived.KernelRfl
namespace Go.Proofs.Ytalpnhgkhhmmlaa
/- THE CELL 'sum', in the pinned program and in every row, IS THE sha256 OF THE DUMP (.gsa) THAT YtalpnhgkhhmmlaaProg.lean LOADS. Nothing in Lean hashes anything: it is a label: what it is worth is what the hold of that sum in a sandbox is worth. -/
noncomputable def Try.pinned : Pinned := { name := "ytalpnhgkhhmmlaa", sum := "96eba2ad21092e723940ac113b3ac52fb80ba0f0c58bfd96d1ded8b93b1ab0d8", checked := Try.checked }
namespace Rows
def none {H : Type} : Left H := { results := [], args := [] }

/-- 'changeoverlaw11.ConfChanges': WHATEVER THE INPUT: true; the input reads as it did. -/
def confChangesSpec : ChangeSpec := { name := "confChanges", fn := fun _ => fun
  | [d1, d2, d3] => { results := [.lit (.bool true)], args := [d1, d2, d3] }
  | _ => none }
def confChangesRow : OpenClaim := { program := "ytalpnhgkhhmmlaa", sum := "96eba2ad21092e723940ac113b3ac52fb80ba0f0c58bfd96d1ded8b93b1ab0d8", func := "changeover/changeoverlaw11.ConfChanges", spec := "confChanges", inPlace := ["slices.overlaps[int]"], apart := false }
def ConfChangesSaid : Prop := confChangesRow.holds Try.pinned (OpenSpec.ofChange confChangesSpec)

/-- ITS FALSE NEIGHBOUR: 'it returns false'. Refute it at one input. -/
def confChangesWrong : ChangeSpec := { name := "confChanges", fn := fun _ => fun
  | [d1, d2, d3] => { results := [.lit (.bool false)], args := [d1, d2, d3] }
  | _ => none }
def ConfChangesWrongFalsely : Prop := confChangesRow.holds Try.pinned (OpenSpec.ofChange confChangesWrong)

/-- 'changeoverlaw11.ConfTrims': WHATEVER THE INPUT: true; the input reads as it did. -/
def confTrimsSpec : ChangeSpec := { name := "confTrims", fn := fun _ => fun
  | [d1, d2, d3] => { results := [.lit (.bool true)], args := [d1, d2, d3] }
  | _ => none }
def confTrimsRow : OpenClaim := { program := "ytalpnhgkhhmmlaa", sum := "96eba2ad21092e723940ac113b3ac52fb80ba0f0c58bfd96d1ded8b93b1ab0d8", func := "changeover/changeoverlaw11.ConfTrims", spec := "confTrims", inPlace := ["slices.overlaps[int]"], apart := false }
def ConfTrimsSaid : Prop := confTrimsRow.holds Try.pinned (OpenSpec.ofChange confTrimsSpec)

/-- ITS FALSE NEIGHBOUR: 'it returns false'. Refute it at one input. -/
def confTrimsWrong : ChangeSpec := { name := "confTrims", fn := fun _ => fun
  | [d1, d2, d3] => { results := [.lit (.bool false)], args := [d1, d2, d3] }
  | _ => none }
def ConfTrimsWrongFalsely : Prop := confTrimsRow.holds Try.pinned (OpenSpec.ofChange confTrimsWrong)

/-- 'changeoverlaw11.ConfAts': WHATEVER THE INPUT: true; the input reads as it did. -/
def confAtsSpec : ChangeSpec := { name := "confAts", fn := fun _ => fun
  | [d1, d2, d3] => { results := [.lit (.bool true)], args := [d1, d2, d3] }
  | _ => none }
def confAtsRow : OpenClaim := { program := "ytalpnhgkhhmmlaa", sum := "96eba2ad21092e723940ac113b3ac52fb80ba0f0c58bfd96d1ded8b93b1ab0d8", func := "changeover/changeoverlaw11.ConfAts", spec := "confAts", inPlace := ["slices.overlaps[int]"], apart := false }
def ConfAtsSaid : Prop := confAtsRow.holds Try.pinned (OpenSpec.ofChange confAtsSpec)

/-- ITS FALSE NEIGHBOUR: 'it returns false'. Refute it at one input. -/
def confAtsWrong : ChangeSpec := { name := "confAts", fn := fun _ => fun
  | [d1, d2, d3] => { results := [.lit (.bool false)], args := [d1, d2, d3] }
  | _ => none }
def ConfAtsWrongFalsely : Prop := confAtsRow.holds Try.pinned (OpenSpec.ofChange confAtsWrong)

/-- 'changeoverlaw34.TallyCommon': WHATEVER THE INPUT: true; the input reads as it did. -/
def tallyCommonSpec : ChangeSpec := { name := "tallyCommon", fn := fun _ => fun
  | [d1, d2, d3] => { results := [.lit (.bool true)], args := [d1, d2, d3] }
  | _ => none }
def tallyCommonRow : OpenClaim := { program := "ytalpnhgkhhmmlaa", sum := "96eba2ad21092e723940ac113b3ac52fb80ba0f0c58bfd96d1ded8b93b1ab0d8", func := "changeover/changeoverlaw34.TallyCommon", spec := "tallyCommon", unfollowed := true, recurses := true, apart := false }
def TallyCommonSaid : Prop := tallyCommonRow.holds Try.pinned (OpenSpec.ofChange tallyCommonSpec)

/-- ITS FALSE NEIGHBOUR: 'it returns false'. Refute it at one input. -/
def tallyCommonWrong : ChangeSpec := { name := "tallyCommon", fn := fun _ => fun
  | [d1, d2, d3] => { results := [.lit (.bool false)], args := [d1, d2, d3] }
  | _ => none }
def TallyCommonWrongFalsely : Prop := tallyCommonRow.holds Try.pinned (OpenSpec.ofChange tallyCommonWrong)

/-- 'changeoverlaw34.TallyVotes': WHATEVER THE INPUT: true; the input reads as it did. -/
def tallyVotesSpec : ChangeSpec := { name := "tallyVotes", fn := fun _ => fun
  | [d1, d2, d3] => { results := [.lit (.bool true)], args := [d1, d2, d3] }
  | _ => none }
def tallyVotesRow : OpenClaim := { program := "ytalpnhgkhhmmlaa", sum := "96eba2ad21092e723940ac113b3ac52fb80ba0f0c58bfd96d1ded8b93b1ab0d8", func := "changeover/changeoverlaw34.TallyVotes", spec := "tallyVotes", unfollowed := true, recurses := true, apart := false }
def TallyVotesSaid : Prop := tallyVotesRow.holds Try.pinned (OpenSpec.ofChange tallyVotesSpec)

/-- ITS FALSE NEIGHBOUR: 'it returns false'. Refute it at one input. -/
def tallyVotesWrong : ChangeSpec := { name := "tallyVotes", fn := fun _ => fun
  | [d1, d2, d3] => { results := [.lit (.bool false)], args := [d1, d2, d3] }
  | _ => none }
def TallyVotesWrongFalsely : Prop := tallyVotesRow.holds Try.pinned (OpenSpec.ofChange tallyVotesWrong)

/-- 'changeoverlaw11.ConfMajorities': WHATEVER THE INPUT: true; the input reads as it did. -/
def confMajoritiesSpec : ChangeSpec := { name := "confMajorities", fn := fun _ => fun
  | [d1, d2, d3] => { results := [.lit (.bool true)], args := [d1, d2, d3] }
  | _ => none }
def confMajoritiesRow : OpenClaim := { program := "ytalpnhgkhhmmlaa", sum := "96eba2ad21092e723940ac113b3ac52fb80ba0f0c58bfd96d1ded8b93b1ab0d8", func := "changeover/changeoverlaw11.ConfMajorities", spec := "confMajorities", inPlace := ["slices.overlaps[int]"], unfollowed := true, recurses := true, apart := false }
def ConfMajoritiesSaid : Prop := confMajoritiesRow.holds Try.pinned (OpenSpec.ofChange confMajoritiesSpec)

/-- ITS FALSE NEIGHBOUR: 'it returns false'. Refute it at one input. -/
def confMajoritiesWrong : ChangeSpec := { name := "confMajorities", fn := fun _ => fun
  | [d1, d2, d3] => { results := [.lit (.bool false)], args := [d1, d2, d3] }
  | _ => none }
def ConfMajoritiesWrongFalsely : Prop := confMajoritiesRow.holds Try.pinned (OpenSpec.ofChange confMajoritiesWrong)

/- THE SECOND FORM. 'bulk': how many values and letters a reading holds, each counted each time it is reached (what is shared counts as often as it is met; a slice's spare places count too). A statement '..UptoSaid' is the law's where the arguments, and the package variables that the reading takes, are together of bulk at most 1048576: NARROWER than '..Said'. Prove '..Said' where nothing that the law and all that it calls make is longer than what came in: it says more and counts as full. Else prove '..UptoSaid'. A law counts once. -/
mutual
def uptoBulk {H : Type} : DataW H → Nat
  | .lit (.string bytes) => bytes.length + 1
  | .lit _ => 1
  | .nil => 1
  | .ptr d => uptoBulk d + 1
  | .slice elems spare => uptoBulkAll elems + uptoBulkAll spare + 1
  | .agg parts => uptoBulkAll parts + 1
  | .iface _ d => uptoBulk d + 1
  | .map entries => uptoBulkEntries entries + 1
  | .held _ => 1
def uptoBulkAll {H : Type} : List (DataW H) → Nat
  | [] => 0
  | d :: r => uptoBulk d + uptoBulkAll r
def uptoBulkEntries {H : Type} : List (Lit × DataW H) → Nat
  | [] => 0
  | x :: r => uptoBulkEntry x + uptoBulkEntries r
def uptoBulkEntry {H : Type} : Lit × DataW H → Nat
  | (.string bytes, d) => bytes.length + uptoBulk d + 1
  | (_, d) => uptoBulk d + 1
 end
def uptoSmall : (H : Type) → List (DataW H) → Bool := fun _ ds => decide (uptoBulkAll ds ≤ 1048576)
def OpenSpec.upto (s : _root_.Go.ChangeSpec) : _root_.Go.OpenSpec := { _root_.Go.OpenSpec.ofChange s with cond := some uptoSmall }

/-- 'changeoverlaw11.ConfChanges', WHERE WHAT IT READS IS OF BULK AT MOST 1048576: true; the input reads as it did. -/
def confChangesUptoRow : OpenClaim := { program := "ytalpnhgkhhmmlaa", sum := "96eba2ad21092e723940ac113b3ac52fb80ba0f0c58bfd96d1ded8b93b1ab0d8", func := "changeover/changeoverlaw11.ConfChanges", spec := "confChanges", inPlace := ["slices.overlaps[int]"], apart := false, narrowed := true }
def ConfChangesUptoSaid : Prop := confChangesUptoRow.holds Try.pinned (OpenSpec.upto confChangesSpec)

/-- 'changeoverlaw11.ConfTrims', WHERE WHAT IT READS IS OF BULK AT MOST 1048576: true; the input reads as it did. -/
def confTrimsUptoRow : OpenClaim := { program := "ytalpnhgkhhmmlaa", sum := "96eba2ad21092e723940ac113b3ac52fb80ba0f0c58bfd96d1ded8b93b1ab0d8", func := "changeover/changeoverlaw11.ConfTrims", spec := "confTrims", inPlace := ["slices.overlaps[int]"], apart := false, narrowed := true }
def ConfTrimsUptoSaid : Prop := confTrimsUptoRow.holds Try.pinned (OpenSpec.upto confTrimsSpec)

/-- 'changeoverlaw11.ConfAts', WHERE WHAT IT READS IS OF BULK AT MOST 1048576: true; the input reads as it did. -/
def confAtsUptoRow : OpenClaim := { program := "ytalpnhgkhhmmlaa", sum := "96eba2ad21092e723940ac113b3ac52fb80ba0f0c58bfd96d1ded8b93b1ab0d8", func := "changeover/changeoverlaw11.ConfAts", spec := "confAts", inPlace := ["slices.overlaps[int]"], apart := false, narrowed := true }
def ConfAtsUptoSaid : Prop := confAtsUptoRow.holds Try.pinned (OpenSpec.upto confAtsSpec)

/-- 'changeoverlaw34.TallyCommon', WHERE WHAT IT READS IS OF BULK AT MOST 1048576: true; the input reads as it did. -/
def tallyCommonUptoRow : OpenClaim := { program := "ytalpnhgkhhmmlaa", sum := "96eba2ad21092e723940ac113b3ac52fb80ba0f0c58bfd96d1ded8b93b1ab0d8", func := "changeover/changeoverlaw34.TallyCommon", spec := "tallyCommon", unfollowed := true, recurses := true, apart := false, narrowed := true }
def TallyCommonUptoSaid : Prop := tallyCommonUptoRow.holds Try.pinned (OpenSpec.upto tallyCommonSpec)

/-- 'changeoverlaw34.TallyVotes', WHERE WHAT IT READS IS OF BULK AT MOST 1048576: true; the input reads as it did. -/
def tallyVotesUptoRow : OpenClaim := { program := "ytalpnhgkhhmmlaa", sum := "96eba2ad21092e723940ac113b3ac52fb80ba0f0c58bfd96d1ded8b93b1ab0d8", func := "changeover/changeoverlaw34.TallyVotes", spec := "tallyVotes", unfollowed := true, recurses := true, apart := false, narrowed := true }
def TallyVotesUptoSaid : Prop := tallyVotesUptoRow.holds Try.pinned (OpenSpec.upto tallyVotesSpec)

/-- 'changeoverlaw11.ConfMajorities', WHERE WHAT IT READS IS OF BULK AT MOST 1048576: true; the input reads as it did. -/
def confMajoritiesUptoRow : OpenClaim := { program := "ytalpnhgkhhmmlaa", sum := "96eba2ad21092e723940ac113b3ac52fb80ba0f0c58bfd96d1ded8b93b1ab0d8", func := "changeover/changeoverlaw11.ConfMajorities", spec := "confMajorities", inPlace := ["slices.overlaps[int]"], unfollowed := true, recurses := true, apart := false, narrowed := true }
def ConfMajoritiesUptoSaid : Prop := confMajoritiesUptoRow.holds Try.pinned (OpenSpec.upto confMajoritiesSpec)

end Rows
end Go.Proofs.Ytalpnhgkhhmmlaa
