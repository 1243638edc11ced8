/-
  No cell of these rows narrows 'for every input' (looked for: loops, veiled, ifaces, maps, wideKeys, modest, calm, conditions, laid).
  DERIVED. THE GIVEN ROWS OF THIS SEAT. 12 by the template 'for every input the law returns true; each argument reads behind the call as it read before'; 0 by the template 'total and deterministic' (their statements: YtkcicbigpbdjpaaTotals.lean).
  GIVEN WITH THE SEED: the statements are not yours to turn. If you find one false, say at which input.
  Laid BY PROGRAM, IN A SANDBOX (cutbox-rows.mjs): the forced cells as the released guide's own fill.sh prints them over the translation 24d97f0304574c92… (all of the seat's roots in one cut). By AI agents, Wed Nov 11 2026. No macro, syntax, notation, axiom, sorry.
-/
import Derived.Test.YtkcicbigpbdjpaaChecked
import GoSem.Claim
import GoSem.ClaimJoined
import GoSem.ClaimMapViews
import Derived.JoinedTies
import Derived.KernelRfl
namespace Go.Proofs.Ytkcicbigpbdjpaa
/- THE CELL 'sum', in the pinned program and in every row, IS THE sha256 OF THE DUMP (.gsa) THAT YtkcicbigpbdjpaaProg.lean LOADS. Nothing in Lean hashes anything: it is a label: what it is worth is what the hold of that sum in a sandbox is worth. -/
noncomputable def Try.pinned : Pinned := { name := "ytkcicbigpbdjpaa", sum := "24d97f0304574c92a06ac67df3ec996cb2aa622fa25561b63053afc979652cba", checked := Try.checked }
namespace Rows
def none {H : Type} : Left H := { results := [], args := [] }

/-- 'laws.FnReplacementSelection': WHATEVER THE INPUT: true; the input reads as it did. -/
def fnReplacementSelectionSpec : ChangeSpec := { name := "fnReplacementSelection", fn := fun _ => fun
  | [d] => { results := [.lit (.bool true)], args := [d] }
  | _ => none }
def fnReplacementSelectionRow : OpenClaim := { program := "ytkcicbigpbdjpaa", sum := "24d97f0304574c92a06ac67df3ec996cb2aa622fa25561b63053afc979652cba", func := "loop.example/g01920/laws.FnReplacementSelection", spec := "fnReplacementSelection", recurses := true, apart := false }
def FnReplacementSelectionSaid : Prop := fnReplacementSelectionRow.holds Try.pinned (OpenSpec.ofChange fnReplacementSelectionSpec)

/-- ITS FALSE NEIGHBOUR: 'it returns false'. Refute it at one input. -/
def fnReplacementSelectionWrong : ChangeSpec := { name := "fnReplacementSelection", fn := fun _ => fun
  | [d] => { results := [.lit (.bool false)], args := [d] }
  | _ => none }
def FnReplacementSelectionWrongFalsely : Prop := fnReplacementSelectionRow.holds Try.pinned (OpenSpec.ofChange fnReplacementSelectionWrong)

/-- 'laws.FnExactBuildRuns': WHATEVER THE INPUT: true; the input reads as it did. -/
def fnExactBuildRunsSpec : ChangeSpec := { name := "fnExactBuildRuns", fn := fun _ => fun
  | [d1, d2] => { results := [.lit (.bool true)], args := [d1, d2] }
  | _ => none }
def fnExactBuildRunsRow : OpenClaim := { program := "ytkcicbigpbdjpaa", sum := "24d97f0304574c92a06ac67df3ec996cb2aa622fa25561b63053afc979652cba", func := "loop.example/g01920/laws.FnExactBuildRuns", spec := "fnExactBuildRuns", apart := false }
def FnExactBuildRunsSaid : Prop := fnExactBuildRunsRow.holds Try.pinned (OpenSpec.ofChange fnExactBuildRunsSpec)

/-- ITS FALSE NEIGHBOUR: 'it returns false'. Refute it at one input. -/
def fnExactBuildRunsWrong : ChangeSpec := { name := "fnExactBuildRuns", fn := fun _ => fun
  | [d1, d2] => { results := [.lit (.bool false)], args := [d1, d2] }
  | _ => none }
def FnExactBuildRunsWrongFalsely : Prop := fnExactBuildRunsRow.holds Try.pinned (OpenSpec.ofChange fnExactBuildRunsWrong)

/-- 'laws.FnExactMergeRuns': WHATEVER THE INPUT: true; the input reads as it did. -/
def fnExactMergeRunsSpec : ChangeSpec := { name := "fnExactMergeRuns", fn := fun _ => fun
  | [d] => { results := [.lit (.bool true)], args := [d] }
  | _ => none }
def fnExactMergeRunsRow : OpenClaim := { program := "ytkcicbigpbdjpaa", sum := "24d97f0304574c92a06ac67df3ec996cb2aa622fa25561b63053afc979652cba", func := "loop.example/g01920/laws.FnExactMergeRuns", spec := "fnExactMergeRuns", apart := false }
def FnExactMergeRunsSaid : Prop := fnExactMergeRunsRow.holds Try.pinned (OpenSpec.ofChange fnExactMergeRunsSpec)

/-- ITS FALSE NEIGHBOUR: 'it returns false'. Refute it at one input. -/
def fnExactMergeRunsWrong : ChangeSpec := { name := "fnExactMergeRuns", fn := fun _ => fun
  | [d] => { results := [.lit (.bool false)], args := [d] }
  | _ => none }
def FnExactMergeRunsWrongFalsely : Prop := fnExactMergeRunsRow.holds Try.pinned (OpenSpec.ofChange fnExactMergeRunsWrong)

/-- 'laws.FnMergeRuns': WHATEVER THE INPUT: true; the input reads as it did. -/
def fnMergeRunsSpec : ChangeSpec := { name := "fnMergeRuns", fn := fun _ => fun
  | [d] => { results := [.lit (.bool true)], args := [d] }
  | _ => none }
def fnMergeRunsRow : OpenClaim := { program := "ytkcicbigpbdjpaa", sum := "24d97f0304574c92a06ac67df3ec996cb2aa622fa25561b63053afc979652cba", func := "loop.example/g01920/laws.FnMergeRuns", spec := "fnMergeRuns", apart := false }
def FnMergeRunsSaid : Prop := fnMergeRunsRow.holds Try.pinned (OpenSpec.ofChange fnMergeRunsSpec)

/-- ITS FALSE NEIGHBOUR: 'it returns false'. Refute it at one input. -/
def fnMergeRunsWrong : ChangeSpec := { name := "fnMergeRuns", fn := fun _ => fun
  | [d] => { results := [.lit (.bool false)], args := [d] }
  | _ => none }
def FnMergeRunsWrongFalsely : Prop := fnMergeRunsRow.holds Try.pinned (OpenSpec.ofChange fnMergeRunsWrong)

/-- 'laws.FnExactExternalSort': WHATEVER THE INPUT: true; the input reads as it did. -/
def fnExactExternalSortSpec : ChangeSpec := { name := "fnExactExternalSort", fn := fun _ => fun
  | [d1, d2] => { results := [.lit (.bool true)], args := [d1, d2] }
  | _ => none }
def fnExactExternalSortRow : OpenClaim := { program := "ytkcicbigpbdjpaa", sum := "24d97f0304574c92a06ac67df3ec996cb2aa622fa25561b63053afc979652cba", func := "loop.example/g01920/laws.FnExactExternalSort", spec := "fnExactExternalSort", apart := false }
def FnExactExternalSortSaid : Prop := fnExactExternalSortRow.holds Try.pinned (OpenSpec.ofChange fnExactExternalSortSpec)

/-- ITS FALSE NEIGHBOUR: 'it returns false'. Refute it at one input. -/
def fnExactExternalSortWrong : ChangeSpec := { name := "fnExactExternalSort", fn := fun _ => fun
  | [d1, d2] => { results := [.lit (.bool false)], args := [d1, d2] }
  | _ => none }
def FnExactExternalSortWrongFalsely : Prop := fnExactExternalSortRow.holds Try.pinned (OpenSpec.ofChange fnExactExternalSortWrong)

/-- 'laws.FnExternalSort': WHATEVER THE INPUT: true; the input reads as it did. -/
def fnExternalSortSpec : ChangeSpec := { name := "fnExternalSort", fn := fun _ => fun
  | [d] => { results := [.lit (.bool true)], args := [d] }
  | _ => none }
def fnExternalSortRow : OpenClaim := { program := "ytkcicbigpbdjpaa", sum := "24d97f0304574c92a06ac67df3ec996cb2aa622fa25561b63053afc979652cba", func := "loop.example/g01920/laws.FnExternalSort", spec := "fnExternalSort", apart := false }
def FnExternalSortSaid : Prop := fnExternalSortRow.holds Try.pinned (OpenSpec.ofChange fnExternalSortSpec)

/-- ITS FALSE NEIGHBOUR: 'it returns false'. Refute it at one input. -/
def fnExternalSortWrong : ChangeSpec := { name := "fnExternalSort", fn := fun _ => fun
  | [d] => { results := [.lit (.bool false)], args := [d] }
  | _ => none }
def FnExternalSortWrongFalsely : Prop := fnExternalSortRow.holds Try.pinned (OpenSpec.ofChange fnExternalSortWrong)

/-- 'laws.FnExactEqualPairBags': WHATEVER THE INPUT: true; the input reads as it did. -/
def fnExactEqualPairBagsSpec : ChangeSpec := { name := "fnExactEqualPairBags", fn := fun _ => fun
  | [d1, d2] => { results := [.lit (.bool true)], args := [d1, d2] }
  | _ => none }
def fnExactEqualPairBagsRow : OpenClaim := { program := "ytkcicbigpbdjpaa", sum := "24d97f0304574c92a06ac67df3ec996cb2aa622fa25561b63053afc979652cba", func := "loop.example/g01920/laws.FnExactEqualPairBags", spec := "fnExactEqualPairBags", unfollowed := true, recurses := true, apart := false }
def FnExactEqualPairBagsSaid : Prop := fnExactEqualPairBagsRow.holds Try.pinned (OpenSpec.ofChange fnExactEqualPairBagsSpec)

/-- ITS FALSE NEIGHBOUR: 'it returns false'. Refute it at one input. -/
def fnExactEqualPairBagsWrong : ChangeSpec := { name := "fnExactEqualPairBags", fn := fun _ => fun
  | [d1, d2] => { results := [.lit (.bool false)], args := [d1, d2] }
  | _ => none }
def FnExactEqualPairBagsWrongFalsely : Prop := fnExactEqualPairBagsRow.holds Try.pinned (OpenSpec.ofChange fnExactEqualPairBagsWrong)

/-- 'laws.FnJoinSymmetry': WHATEVER THE INPUT: true; the input reads as it did. -/
def fnJoinSymmetrySpec : ChangeSpec := { name := "fnJoinSymmetry", fn := fun _ => fun
  | [d] => { results := [.lit (.bool true)], args := [d] }
  | _ => none }
def fnJoinSymmetryRow : OpenClaim := { program := "ytkcicbigpbdjpaa", sum := "24d97f0304574c92a06ac67df3ec996cb2aa622fa25561b63053afc979652cba", func := "loop.example/g01920/laws.FnJoinSymmetry", spec := "fnJoinSymmetry", unfollowed := true, recurses := true, apart := false }
def FnJoinSymmetrySaid : Prop := fnJoinSymmetryRow.holds Try.pinned (OpenSpec.ofChange fnJoinSymmetrySpec)

/-- ITS FALSE NEIGHBOUR: 'it returns false'. Refute it at one input. -/
def fnJoinSymmetryWrong : ChangeSpec := { name := "fnJoinSymmetry", fn := fun _ => fun
  | [d] => { results := [.lit (.bool false)], args := [d] }
  | _ => none }
def FnJoinSymmetryWrongFalsely : Prop := fnJoinSymmetryRow.holds Try.pinned (OpenSpec.ofChange fnJoinSymmetryWrong)

/-- 'laws.FnReferenceJoins': WHATEVER THE INPUT: true; the input reads as it did. -/
def fnReferenceJoinsSpec : ChangeSpec := { name := "fnReferenceJoins", fn := fun _ => fun
  | [d] => { results := [.lit (.bool true)], args := [d] }
  | _ => none }
def fnReferenceJoinsRow : OpenClaim := { program := "ytkcicbigpbdjpaa", sum := "24d97f0304574c92a06ac67df3ec996cb2aa622fa25561b63053afc979652cba", func := "loop.example/g01920/laws.FnReferenceJoins", spec := "fnReferenceJoins", unfollowed := true, recurses := true, apart := false }
def FnReferenceJoinsSaid : Prop := fnReferenceJoinsRow.holds Try.pinned (OpenSpec.ofChange fnReferenceJoinsSpec)

/-- ITS FALSE NEIGHBOUR: 'it returns false'. Refute it at one input. -/
def fnReferenceJoinsWrong : ChangeSpec := { name := "fnReferenceJoins", fn := fun _ => fun
  | [d] => { results := [.lit (.bool false)], args := [d] }
  | _ => none }
def FnReferenceJoinsWrongFalsely : Prop := fnReferenceJoinsRow.holds Try.pinned (OpenSpec.ofChange fnReferenceJoinsWrong)

/-- 'laws.FnExactMergeGroups': WHATEVER THE INPUT: true; the input reads as it did. -/
def fnExactMergeGroupsSpec : ChangeSpec := { name := "fnExactMergeGroups", fn := fun _ => fun
  | [d] => { results := [.lit (.bool true)], args := [d] }
  | _ => none }
def fnExactMergeGroupsRow : OpenClaim := { program := "ytkcicbigpbdjpaa", sum := "24d97f0304574c92a06ac67df3ec996cb2aa622fa25561b63053afc979652cba", func := "loop.example/g01920/laws.FnExactMergeGroups", spec := "fnExactMergeGroups", unfollowed := true, recurses := true, apart := false }
def FnExactMergeGroupsSaid : Prop := fnExactMergeGroupsRow.holds Try.pinned (OpenSpec.ofChange fnExactMergeGroupsSpec)

/-- ITS FALSE NEIGHBOUR: 'it returns false'. Refute it at one input. -/
def fnExactMergeGroupsWrong : ChangeSpec := { name := "fnExactMergeGroups", fn := fun _ => fun
  | [d] => { results := [.lit (.bool false)], args := [d] }
  | _ => none }
def FnExactMergeGroupsWrongFalsely : Prop := fnExactMergeGroupsRow.holds Try.pinned (OpenSpec.ofChange fnExactMergeGroupsWrong)

/-- 'laws.FnExactReferenceGroups': WHATEVER THE INPUT: true; the input reads as it did. -/
def fnExactReferenceGroupsSpec : ChangeSpec := { name := "fnExactReferenceGroups", fn := fun _ => fun
  | [d] => { results := [.lit (.bool true)], args := [d] }
  | _ => none }
def fnExactReferenceGroupsRow : OpenClaim := { program := "ytkcicbigpbdjpaa", sum := "24d97f0304574c92a06ac67df3ec996cb2aa622fa25561b63053afc979652cba", func := "loop.example/g01920/laws.FnExactReferenceGroups", spec := "fnExactReferenceGroups", unfollowed := true, recurses := true, apart := false }
def FnExactReferenceGroupsSaid : Prop := fnExactReferenceGroupsRow.holds Try.pinned (OpenSpec.ofChange fnExactReferenceGroupsSpec)

/-- ITS FALSE NEIGHBOUR: 'it returns false'. Refute it at one input. -/
def fnExactReferenceGroupsWrong : ChangeSpec := { name := "fnExactReferenceGroups", fn := fun _ => fun
  | [d] => { results := [.lit (.bool false)], args := [d] }
  | _ => none }
def FnExactReferenceGroupsWrongFalsely : Prop := fnExactReferenceGroupsRow.holds Try.pinned (OpenSpec.ofChange fnExactReferenceGroupsWrong)

/-- 'laws.FnGroupAlgebra': WHATEVER THE INPUT: true; the input reads as it did. -/
def fnGroupAlgebraSpec : ChangeSpec := { name := "fnGroupAlgebra", fn := fun _ => fun
  | [d] => { results := [.lit (.bool true)], args := [d] }
  | _ => none }
def fnGroupAlgebraRow : OpenClaim := { program := "ytkcicbigpbdjpaa", sum := "24d97f0304574c92a06ac67df3ec996cb2aa622fa25561b63053afc979652cba", func := "loop.example/g01920/laws.FnGroupAlgebra", spec := "fnGroupAlgebra", unfollowed := true, recurses := true, apart := false }
def FnGroupAlgebraSaid : Prop := fnGroupAlgebraRow.holds Try.pinned (OpenSpec.ofChange fnGroupAlgebraSpec)

/-- ITS FALSE NEIGHBOUR: 'it returns false'. Refute it at one input. -/
def fnGroupAlgebraWrong : ChangeSpec := { name := "fnGroupAlgebra", fn := fun _ => fun
  | [d] => { results := [.lit (.bool false)], args := [d] }
  | _ => none }
def FnGroupAlgebraWrongFalsely : Prop := fnGroupAlgebraRow.holds Try.pinned (OpenSpec.ofChange fnGroupAlgebraWrong)

/- THE SECOND FORM. 'bulk': how many values and letters a reading holds, each counted each time it is reached (what is shared counts as often as it is met; a slice's spare places count too). A statement '..UptoSaid' is the law's where the arguments, and the package variables that the reading takes, are together of bulk at most 1048576: NARROWER than '..Said'. Prove '..Said' where nothing that the law and all that it calls make is longer than what came in: it says more and counts as full. Else prove '..UptoSaid'. A law counts once. -/
mutual
def uptoBulk {H : Type} : DataW H → Nat
  | .lit (.string bytes) => bytes.length + 1
  | .lit _ => 1
  | .nil => 1
  | .ptr d => uptoBulk d + 1
  | .slice elems spare => uptoBulkAll elems + uptoBulkAll spare + 1
  | .agg parts => uptoBulkAll parts + 1
  | .iface _ d => uptoBulk d + 1
  | .map entries => uptoBulkEntries entries + 1
  | .held _ => 1
def uptoBulkAll {H : Type} : List (DataW H) → Nat
  | [] => 0
  | d :: r => uptoBulk d + uptoBulkAll r
def uptoBulkEntries {H : Type} : List (Lit × DataW H) → Nat
  | [] => 0
  | x :: r => uptoBulkEntry x + uptoBulkEntries r
def uptoBulkEntry {H : Type} : Lit × DataW H → Nat
  | (.string bytes, d) => bytes.length + uptoBulk d + 1
  | (_, d) => uptoBulk d + 1
 end
def uptoSmall : (H : Type) → List (DataW H) → Bool := fun _ ds => decide (uptoBulkAll ds ≤ 1048576)
def OpenSpec.upto (s : _root_.Go.ChangeSpec) : _root_.Go.OpenSpec := { _root_.Go.OpenSpec.ofChange s with cond := some uptoSmall }

/-- 'laws.FnReplacementSelection', WHERE WHAT IT READS IS OF BULK AT MOST 1048576: true; the input reads as it did. -/
def fnReplacementSelectionUptoRow : OpenClaim := { program := "ytkcicbigpbdjpaa", sum := "24d97f0304574c92a06ac67df3ec996cb2aa622fa25561b63053afc979652cba", func := "loop.example/g01920/laws.FnReplacementSelection", spec := "fnReplacementSelection", recurses := true, apart := false, narrowed := true }
def FnReplacementSelectionUptoSaid : Prop := fnReplacementSelectionUptoRow.holds Try.pinned (OpenSpec.upto fnReplacementSelectionSpec)

/-- 'laws.FnExactBuildRuns', WHERE WHAT IT READS IS OF BULK AT MOST 1048576: true; the input reads as it did. -/
def fnExactBuildRunsUptoRow : OpenClaim := { program := "ytkcicbigpbdjpaa", sum := "24d97f0304574c92a06ac67df3ec996cb2aa622fa25561b63053afc979652cba", func := "loop.example/g01920/laws.FnExactBuildRuns", spec := "fnExactBuildRuns", apart := false, narrowed := true }
def FnExactBuildRunsUptoSaid : Prop := fnExactBuildRunsUptoRow.holds Try.pinned (OpenSpec.upto fnExactBuildRunsSpec)

/-- 'laws.FnExactMergeRuns', WHERE WHAT IT READS IS OF BULK AT MOST 1048576: true; the input reads as it did. -/
def fnExactMergeRunsUptoRow : OpenClaim := { program := "ytkcicbigpbdjpaa", sum := "24d97f0304574c92a06ac67df3ec996cb2aa622fa25561b63053afc979652cba", func := "loop.example/g01920/laws.FnExactMergeRuns", spec := "fnExactMergeRuns", apart := false, narrowed := true }
def FnExactMergeRunsUptoSaid : Prop := fnExactMergeRunsUptoRow.holds Try.pinned (OpenSpec.upto fnExactMergeRunsSpec)

/-- 'laws.FnMergeRuns', WHERE WHAT IT READS IS OF BULK AT MOST 1048576: true; the input reads as it did. -/
def fnMergeRunsUptoRow : OpenClaim := { program := "ytkcicbigpbdjpaa", sum := "24d97f0304574c92a06ac67df3ec996cb2aa622fa25561b63053afc979652cba", func := "loop.example/g01920/laws.FnMergeRuns", spec := "fnMergeRuns", apart := false, narrowed := true }
def FnMergeRunsUptoSaid : Prop := fnMergeRunsUptoRow.holds Try.pinned (OpenSpec.upto fnMergeRunsSpec)

/-- 'laws.FnExactExternalSort', WHERE WHAT IT READS IS OF BULK AT MOST 1048576: true; the input reads as it did. -/
def fnExactExternalSortUptoRow : OpenClaim := { program := "ytkcicbigpbdjpaa", sum := "24d97f0304574c92a06ac67df3ec996cb2aa622fa25561b63053afc979652cba", func := "loop.example/g01920/laws.FnExactExternalSort", spec := "fnExactExternalSort", apart := false, narrowed := true }
def FnExactExternalSortUptoSaid : Prop := fnExactExternalSortUptoRow.holds Try.pinned (OpenSpec.upto fnExactExternalSortSpec)

/-- 'laws.FnExternalSort', WHERE WHAT IT READS IS OF BULK AT MOST 1048576: true; the input reads as it did. -/
def fnExternalSortUptoRow : OpenClaim := { program := "ytkcicbigpbdjpaa", sum := "24d97f0304574c92a06ac67df3ec996cb2aa622fa25561b63053afc979652cba", func := "loop.example/g01920/laws.FnExternalSort", spec := "fnExternalSort", apart := false, narrowed := true }
def FnExternalSortUptoSaid : Prop := fnExternalSortUptoRow.holds Try.pinned (OpenSpec.upto fnExternalSortSpec)

/-- 'laws.FnExactEqualPairBags', WHERE WHAT IT READS IS OF BULK AT MOST 1048576: true; the input reads as it did. -/
def fnExactEqualPairBagsUptoRow : OpenClaim := { program := "ytkcicbigpbdjpaa", sum := "24d97f0304574c92a06ac67df3ec996cb2aa622fa25561b63053afc979652cba", func := "loop.example/g01920/laws.FnExactEqualPairBags", spec := "fnExactEqualPairBags", unfollowed := true, recurses := true, apart := false, narrowed := true }
def FnExactEqualPairBagsUptoSaid : Prop := fnExactEqualPairBagsUptoRow.holds Try.pinned (OpenSpec.upto fnExactEqualPairBagsSpec)

/-- 'laws.FnJoinSymmetry', WHERE WHAT IT READS IS OF BULK AT MOST 1048576: true; the input reads as it did. -/
def fnJoinSymmetryUptoRow : OpenClaim := { program := "ytkcicbigpbdjpaa", sum := "24d97f0304574c92a06ac67df3ec996cb2aa622fa25561b63053afc979652cba", func := "loop.example/g01920/laws.FnJoinSymmetry", spec := "fnJoinSymmetry", unfollowed := true, recurses := true, apart := false, narrowed := true }
def FnJoinSymmetryUptoSaid : Prop := fnJoinSymmetryUptoRow.holds Try.pinned (OpenSpec.upto fnJoinSymmetrySpec)

/-- 'laws.FnReferenceJoins', WHERE WHAT IT READS IS OF BULK AT MOST 1048576: true; the input reads as it did. -/
def fnReferenceJoinsUptoRow : OpenClaim := { program := "ytkcicbigpbdjpaa", sum := "24d97f0304574c92a06ac67df3ec996cb2aa622fa25561b63053afc979652cba", func := "loop.example/g01920/laws.FnReferenceJoins", spec := "fnReferenceJoins", unfollowed := true, recurses := true, apart := false, narrowed := true }
def FnReferenceJoinsUptoSaid : Prop := fnReferenceJoinsUptoRow.holds Try.pinned (OpenSpec.upto fnReferenceJoinsSpec)

/-- 'laws.FnExactMergeGroups', WHERE WHAT IT READS IS OF BULK AT MOST 1048576: true; the input reads as it did. -/
def fnExactMergeGroupsUptoRow : OpenClaim := { program := "ytkcicbigpbdjpaa", sum := "24d97f0304574c92a06ac67df3ec996cb2aa622fa25561b63053afc979652cba", func := "loop.example/g01920/laws.FnExactMergeGroups", spec := "fnExactMergeGroups", unfollowed := true, recurses := true, apart := false, narrowed := true }
def FnExactMergeGroupsUptoSaid : Prop := fnExactMergeGroupsUptoRow.holds Try.pinned (OpenSpec.upto fnExactMergeGroupsSpec)

/-- 'laws.FnExactReferenceGroups', WHERE WHAT IT READS IS OF BULK AT MOST 1048576: true; the input reads as it did. -/
def fnExactReferenceGroupsUptoRow : OpenClaim := { program := "ytkcicbigpbdjpaa", sum := "24d97f0304574c92a06ac67df3ec996cb2aa622fa25561b63053afc979652cba", func := "loop.example/g01920/laws.FnExactReferenceGroups", spec := "fnExactReferenceGroups", unfollowed := true, recurses := true, apart := false, narrowed := true }
def FnExactReferenceGroupsUptoSaid : Prop := fnExactReferenceGroupsUptoRow.holds Try.pinned (OpenSpec.upto fnExactReferenceGroupsSpec)

/-- 'laws.FnGroupAlgebra', WHERE WHAT IT READS IS OF BULK AT MOST 1048576: true; the input reads as it did. -/
def fnGroupAlgebraUptoRow : OpenClaim := { program := "ytkcicbigpbdjpaa", sum := "24d97f0304574c92a06ac67df3ec996cb2aa622fa25561b63053afc979652cba", func := "loop.example/g01920/laws.FnGroupAlgebra", spec := "fnGroupAlgebra", unfollowed := true, recurses := true, apart := false, narrowed := true }
def FnGroupAlgebraUptoSaid : Prop := fnGroupAlgebraUptoRow.holds Try.pinned (OpenSpec.upto fnGroupAlgebraSpec)

end Rows
end Go.Proofs.Ytkcicbigpbdjpaa
