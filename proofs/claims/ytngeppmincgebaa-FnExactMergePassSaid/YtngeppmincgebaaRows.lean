/-
  No cell of these rows narrows 'for every input' (looked for: loops, veiled, ifaces, maps, wideKeys, modest, calm, conditions, laid).
  DERIVED. THE GIVEN ROWS OF THIS SEAT. 12 by the template 'for every input the law returns true; each argument reads behind the call as it read before'; 0 by the template 'total and deterministic' (their statements: YtngeppmincgebaaTotals.lean).
  GIVEN WITH THE SEED: the statements are not yours to turn. If you find one false, say at which input.
  Laid BY PROGRAM, IN A SANDBOX (cutbox-rows.mjs): the forced cells as the released guide's own fill.sh prints them over the translation 23f62512baf6d8a6… (all of the seat's roots in one cut). By AI agents, Wed Nov 11 2026. No macro, syntax, notation, axiom, sorry.
-/
import Derived.Test.YtngeppmincgebaaChecked
import GoSem.Claim
import GoSem.ClaimJoined
import GoSem.ClaimMapViews
import Derived.JoinedTies
import Derived.KernelRfl
namespace Go.Proofs.Ytngeppmincgebaa
/- THE CELL 'sum', in the pinned program and in every row, IS THE sha256 OF THE DUMP (.gsa) THAT YtngeppmincgebaaProg.lean LOADS. Nothing in Lean hashes anything: it is a label: what it is worth is what the hold of that sum in a sandbox is worth. -/
noncomputable def Try.pinned : Pinned := { name := "ytngeppmincgebaa", sum := "23f62512baf6d8a68b880a25914a6ba88141f5d82e5edb1796df96ba2e472025", checked := Try.checked }
namespace Rows
def none {H : Type} : Left H := { results := [], args := [] }

/-- 'laws.FnExactSortWriteBound': WHATEVER THE INPUT: true; the input reads as it did. -/
def fnExactSortWriteBoundSpec : ChangeSpec := { name := "fnExactSortWriteBound", fn := fun _ => fun
  | [d] => { results := [.lit (.bool true)], args := [d] }
  | _ => none }
def fnExactSortWriteBoundRow : OpenClaim := { program := "ytngeppmincgebaa", sum := "23f62512baf6d8a68b880a25914a6ba88141f5d82e5edb1796df96ba2e472025", func := "loop.example/g01920/laws.FnExactSortWriteBound", spec := "fnExactSortWriteBound", apart := false }
def FnExactSortWriteBoundSaid : Prop := fnExactSortWriteBoundRow.holds Try.pinned (OpenSpec.ofChange fnExactSortWriteBoundSpec)

/-- ITS FALSE NEIGHBOUR: 'it returns false'. Refute it at one input. -/
def fnExactSortWriteBoundWrong : ChangeSpec := { name := "fnExactSortWriteBound", fn := fun _ => fun
  | [d] => { results := [.lit (.bool false)], args := [d] }
  | _ => none }
def FnExactSortWriteBoundWrongFalsely : Prop := fnExactSortWriteBoundRow.holds Try.pinned (OpenSpec.ofChange fnExactSortWriteBoundWrong)

/-- 'laws.FnExactFormatGroups': WHATEVER THE INPUT: true; the input reads as it did. -/
def fnExactFormatGroupsSpec : ChangeSpec := { name := "fnExactFormatGroups", fn := fun _ => fun
  | [d] => { results := [.lit (.bool true)], args := [d] }
  | _ => none }
def fnExactFormatGroupsRow : OpenClaim := { program := "ytngeppmincgebaa", sum := "23f62512baf6d8a68b880a25914a6ba88141f5d82e5edb1796df96ba2e472025", func := "loop.example/g01920/laws.FnExactFormatGroups", spec := "fnExactFormatGroups", recurses := true, apart := false }
def FnExactFormatGroupsSaid : Prop := fnExactFormatGroupsRow.holds Try.pinned (OpenSpec.ofChange fnExactFormatGroupsSpec)

/-- ITS FALSE NEIGHBOUR: 'it returns false'. Refute it at one input. -/
def fnExactFormatGroupsWrong : ChangeSpec := { name := "fnExactFormatGroups", fn := fun _ => fun
  | [d] => { results := [.lit (.bool false)], args := [d] }
  | _ => none }
def FnExactFormatGroupsWrongFalsely : Prop := fnExactFormatGroupsRow.holds Try.pinned (OpenSpec.ofChange fnExactFormatGroupsWrong)

/-- 'laws.FnExactMergeSorted': WHATEVER THE INPUT: true; the input reads as it did. -/
def fnExactMergeSortedSpec : ChangeSpec := { name := "fnExactMergeSorted", fn := fun _ => fun
  | [d1, d2] => { results := [.lit (.bool true)], args := [d1, d2] }
  | _ => none }
def fnExactMergeSortedRow : OpenClaim := { program := "ytngeppmincgebaa", sum := "23f62512baf6d8a68b880a25914a6ba88141f5d82e5edb1796df96ba2e472025", func := "loop.example/g01920/laws.FnExactMergeSorted", spec := "fnExactMergeSorted", apart := false }
def FnExactMergeSortedSaid : Prop := fnExactMergeSortedRow.holds Try.pinned (OpenSpec.ofChange fnExactMergeSortedSpec)

/-- ITS FALSE NEIGHBOUR: 'it returns false'. Refute it at one input. -/
def fnExactMergeSortedWrong : ChangeSpec := { name := "fnExactMergeSorted", fn := fun _ => fun
  | [d1, d2] => { results := [.lit (.bool false)], args := [d1, d2] }
  | _ => none }
def FnExactMergeSortedWrongFalsely : Prop := fnExactMergeSortedRow.holds Try.pinned (OpenSpec.ofChange fnExactMergeSortedWrong)

/-- 'laws.FnExactFlattenRuns': WHATEVER THE INPUT: true; the input reads as it did. -/
def fnExactFlattenRunsSpec : ChangeSpec := { name := "fnExactFlattenRuns", fn := fun _ => fun
  | [d] => { results := [.lit (.bool true)], args := [d] }
  | _ => none }
def fnExactFlattenRunsRow : OpenClaim := { program := "ytngeppmincgebaa", sum := "23f62512baf6d8a68b880a25914a6ba88141f5d82e5edb1796df96ba2e472025", func := "loop.example/g01920/laws.FnExactFlattenRuns", spec := "fnExactFlattenRuns", apart := false }
def FnExactFlattenRunsSaid : Prop := fnExactFlattenRunsRow.holds Try.pinned (OpenSpec.ofChange fnExactFlattenRunsSpec)

/-- ITS FALSE NEIGHBOUR: 'it returns false'. Refute it at one input. -/
def fnExactFlattenRunsWrong : ChangeSpec := { name := "fnExactFlattenRuns", fn := fun _ => fun
  | [d] => { results := [.lit (.bool false)], args := [d] }
  | _ => none }
def FnExactFlattenRunsWrongFalsely : Prop := fnExactFlattenRunsRow.holds Try.pinned (OpenSpec.ofChange fnExactFlattenRunsWrong)

/-- 'laws.FnExactFormatPairs': WHATEVER THE INPUT: true; the input reads as it did. -/
def fnExactFormatPairsSpec : ChangeSpec := { name := "fnExactFormatPairs", fn := fun _ => fun
  | [d] => { results := [.lit (.bool true)], args := [d] }
  | _ => none }
def fnExactFormatPairsRow : OpenClaim := { program := "ytngeppmincgebaa", sum := "23f62512baf6d8a68b880a25914a6ba88141f5d82e5edb1796df96ba2e472025", func := "loop.example/g01920/laws.FnExactFormatPairs", spec := "fnExactFormatPairs", recurses := true, apart := false }
def FnExactFormatPairsSaid : Prop := fnExactFormatPairsRow.holds Try.pinned (OpenSpec.ofChange fnExactFormatPairsSpec)

/-- ITS FALSE NEIGHBOUR: 'it returns false'. Refute it at one input. -/
def fnExactFormatPairsWrong : ChangeSpec := { name := "fnExactFormatPairs", fn := fun _ => fun
  | [d] => { results := [.lit (.bool false)], args := [d] }
  | _ => none }
def FnExactFormatPairsWrongFalsely : Prop := fnExactFormatPairsRow.holds Try.pinned (OpenSpec.ofChange fnExactFormatPairsWrong)

/-- 'laws.FnExactAreValidRuns': WHATEVER THE INPUT: true; the input reads as it did. -/
def fnExactAreValidRunsSpec : ChangeSpec := { name := "fnExactAreValidRuns", fn := fun _ => fun
  | [d] => { results := [.lit (.bool true)], args := [d] }
  | _ => none }
def fnExactAreValidRunsRow : OpenClaim := { program := "ytngeppmincgebaa", sum := "23f62512baf6d8a68b880a25914a6ba88141f5d82e5edb1796df96ba2e472025", func := "loop.example/g01920/laws.FnExactAreValidRuns", spec := "fnExactAreValidRuns", apart := false }
def FnExactAreValidRunsSaid : Prop := fnExactAreValidRunsRow.holds Try.pinned (OpenSpec.ofChange fnExactAreValidRunsSpec)

/-- ITS FALSE NEIGHBOUR: 'it returns false'. Refute it at one input. -/
def fnExactAreValidRunsWrong : ChangeSpec := { name := "fnExactAreValidRuns", fn := fun _ => fun
  | [d] => { results := [.lit (.bool false)], args := [d] }
  | _ => none }
def FnExactAreValidRunsWrongFalsely : Prop := fnExactAreValidRunsRow.holds Try.pinned (OpenSpec.ofChange fnExactAreValidRunsWrong)

/-- 'laws.FnExactReferenceJoin': WHATEVER THE INPUT: true; the input reads as it did. -/
def fnExactReferenceJoinSpec : ChangeSpec := { name := "fnExactReferenceJoin", fn := fun _ => fun
  | [d1, d2, d3] => { results := [.lit (.bool true)], args := [d1, d2, d3] }
  | _ => none }
def fnExactReferenceJoinRow : OpenClaim := { program := "ytngeppmincgebaa", sum := "23f62512baf6d8a68b880a25914a6ba88141f5d82e5edb1796df96ba2e472025", func := "loop.example/g01920/laws.FnExactReferenceJoin", spec := "fnExactReferenceJoin", apart := false }
def FnExactReferenceJoinSaid : Prop := fnExactReferenceJoinRow.holds Try.pinned (OpenSpec.ofChange fnExactReferenceJoinSpec)

/-- ITS FALSE NEIGHBOUR: 'it returns false'. Refute it at one input. -/
def fnExactReferenceJoinWrong : ChangeSpec := { name := "fnExactReferenceJoin", fn := fun _ => fun
  | [d1, d2, d3] => { results := [.lit (.bool false)], args := [d1, d2, d3] }
  | _ => none }
def FnExactReferenceJoinWrongFalsely : Prop := fnExactReferenceJoinRow.holds Try.pinned (OpenSpec.ofChange fnExactReferenceJoinWrong)

/-- 'laws.FnExactNewSorter': WHATEVER THE INPUT: true; the input reads as it did. -/
def fnExactNewSorterSpec : ChangeSpec := { name := "fnExactNewSorter", fn := fun _ => fun
  | [d] => { results := [.lit (.bool true)], args := [d] }
  | _ => none }
def fnExactNewSorterRow : OpenClaim := { program := "ytngeppmincgebaa", sum := "23f62512baf6d8a68b880a25914a6ba88141f5d82e5edb1796df96ba2e472025", func := "loop.example/g01920/laws.FnExactNewSorter", spec := "fnExactNewSorter", apart := false }
def FnExactNewSorterSaid : Prop := fnExactNewSorterRow.holds Try.pinned (OpenSpec.ofChange fnExactNewSorterSpec)

/-- ITS FALSE NEIGHBOUR: 'it returns false'. Refute it at one input. -/
def fnExactNewSorterWrong : ChangeSpec := { name := "fnExactNewSorter", fn := fun _ => fun
  | [d] => { results := [.lit (.bool false)], args := [d] }
  | _ => none }
def FnExactNewSorterWrongFalsely : Prop := fnExactNewSorterRow.holds Try.pinned (OpenSpec.ofChange fnExactNewSorterWrong)

/-- 'laws.FnExactEqualSorters': WHATEVER THE INPUT: true; the input reads as it did. -/
def fnExactEqualSortersSpec : ChangeSpec := { name := "fnExactEqualSorters", fn := fun _ => fun
  | [d1, d2] => { results := [.lit (.bool true)], args := [d1, d2] }
  | _ => none }
def fnExactEqualSortersRow : OpenClaim := { program := "ytngeppmincgebaa", sum := "23f62512baf6d8a68b880a25914a6ba88141f5d82e5edb1796df96ba2e472025", func := "loop.example/g01920/laws.FnExactEqualSorters", spec := "fnExactEqualSorters", apart := false }
def FnExactEqualSortersSaid : Prop := fnExactEqualSortersRow.holds Try.pinned (OpenSpec.ofChange fnExactEqualSortersSpec)

/-- ITS FALSE NEIGHBOUR: 'it returns false'. Refute it at one input. -/
def fnExactEqualSortersWrong : ChangeSpec := { name := "fnExactEqualSorters", fn := fun _ => fun
  | [d1, d2] => { results := [.lit (.bool false)], args := [d1, d2] }
  | _ => none }
def FnExactEqualSortersWrongFalsely : Prop := fnExactEqualSortersRow.holds Try.pinned (OpenSpec.ofChange fnExactEqualSortersWrong)

/-- 'laws.FnExactFormatRuns': WHATEVER THE INPUT: true; the input reads as it did. -/
def fnExactFormatRunsSpec : ChangeSpec := { name := "fnExactFormatRuns", fn := fun _ => fun
  | [d] => { results := [.lit (.bool true)], args := [d] }
  | _ => none }
def fnExactFormatRunsRow : OpenClaim := { program := "ytngeppmincgebaa", sum := "23f62512baf6d8a68b880a25914a6ba88141f5d82e5edb1796df96ba2e472025", func := "loop.example/g01920/laws.FnExactFormatRuns", spec := "fnExactFormatRuns", recurses := true, apart := false }
def FnExactFormatRunsSaid : Prop := fnExactFormatRunsRow.holds Try.pinned (OpenSpec.ofChange fnExactFormatRunsSpec)

/-- ITS FALSE NEIGHBOUR: 'it returns false'. Refute it at one input. -/
def fnExactFormatRunsWrong : ChangeSpec := { name := "fnExactFormatRuns", fn := fun _ => fun
  | [d] => { results := [.lit (.bool false)], args := [d] }
  | _ => none }
def FnExactFormatRunsWrongFalsely : Prop := fnExactFormatRunsRow.holds Try.pinned (OpenSpec.ofChange fnExactFormatRunsWrong)

/-- 'laws.FnExactMergePass': WHATEVER THE INPUT: true; the input reads as it did. -/
def fnExactMergePassSpec : ChangeSpec := { name := "fnExactMergePass", fn := fun _ => fun
  | [d] => { results := [.lit (.bool true)], args := [d] }
  | _ => none }
def fnExactMergePassRow : OpenClaim := { program := "ytngeppmincgebaa", sum := "23f62512baf6d8a68b880a25914a6ba88141f5d82e5edb1796df96ba2e472025", func := "loop.example/g01920/laws.FnExactMergePass", spec := "fnExactMergePass", apart := false }
def FnExactMergePassSaid : Prop := fnExactMergePassRow.holds Try.pinned (OpenSpec.ofChange fnExactMergePassSpec)

/-- ITS FALSE NEIGHBOUR: 'it returns false'. Refute it at one input. -/
def fnExactMergePassWrong : ChangeSpec := { name := "fnExactMergePass", fn := fun _ => fun
  | [d] => { results := [.lit (.bool false)], args := [d] }
  | _ => none }
def FnExactMergePassWrongFalsely : Prop := fnExactMergePassRow.holds Try.pinned (OpenSpec.ofChange fnExactMergePassWrong)

/-- 'laws.FnExactSorterMemory': WHATEVER THE INPUT: true; the input reads as it did. -/
def fnExactSorterMemorySpec : ChangeSpec := { name := "fnExactSorterMemory", fn := fun _ => fun
  | [d] => { results := [.lit (.bool true)], args := [d] }
  | _ => none }
def fnExactSorterMemoryRow : OpenClaim := { program := "ytngeppmincgebaa", sum := "23f62512baf6d8a68b880a25914a6ba88141f5d82e5edb1796df96ba2e472025", func := "loop.example/g01920/laws.FnExactSorterMemory", spec := "fnExactSorterMemory", apart := false }
def FnExactSorterMemorySaid : Prop := fnExactSorterMemoryRow.holds Try.pinned (OpenSpec.ofChange fnExactSorterMemorySpec)

/-- ITS FALSE NEIGHBOUR: 'it returns false'. Refute it at one input. -/
def fnExactSorterMemoryWrong : ChangeSpec := { name := "fnExactSorterMemory", fn := fun _ => fun
  | [d] => { results := [.lit (.bool false)], args := [d] }
  | _ => none }
def FnExactSorterMemoryWrongFalsely : Prop := fnExactSorterMemoryRow.holds Try.pinned (OpenSpec.ofChange fnExactSorterMemoryWrong)

/- THE SECOND FORM. 'bulk': how many values and letters a reading holds, each counted each time it is reached (what is shared counts as often as it is met; a slice's spare places count too). A statement '..UptoSaid' is the law's where the arguments, and the package variables that the reading takes, are together of bulk at most 1048576: NARROWER than '..Said'. Prove '..Said' where nothing that the law and all that it calls make is longer than what came in: it says more and counts as full. Else prove '..UptoSaid'. A law counts once. -/
mutual
def uptoBulk {H : Type} : DataW H → Nat
  | .lit (.string bytes) => bytes.length + 1
  | .lit _ => 1
  | .nil => 1
  | .ptr d => uptoBulk d + 1
  | .slice elems spare => uptoBulkAll elems + uptoBulkAll spare + 1
  | .agg parts => uptoBulkAll parts + 1
  | .iface _ d => uptoBulk d + 1
  | .map entries => uptoBulkEntries entries + 1
  | .held _ => 1
def uptoBulkAll {H : Type} : List (DataW H) → Nat
  | [] => 0
  | d :: r => uptoBulk d + uptoBulkAll r
def uptoBulkEntries {H : Type} : List (Lit × DataW H) → Nat
  | [] => 0
  | x :: r => uptoBulkEntry x + uptoBulkEntries r
def uptoBulkEntry {H : Type} : Lit × DataW H → Nat
  | (.string bytes, d) => bytes.length + uptoBulk d + 1
  | (_, d) => uptoBulk d + 1
 end
def uptoSmall : (H : Type) → List (DataW H) → Bool := fun _ ds => decide (uptoBulkAll ds ≤ 1048576)
def OpenSpec.upto (s : _root_.Go.ChangeSpec) : _root_.Go.OpenSpec := { _root_.Go.OpenSpec.ofChange s with cond := some uptoSmall }

/-- 'laws.FnExactSortWriteBound', WHERE WHAT IT READS IS OF BULK AT MOST 1048576: true; the input reads as it did. -/
def fnExactSortWriteBoundUptoRow : OpenClaim := { program := "ytngeppmincgebaa", sum := "23f62512baf6d8a68b880a25914a6ba88141f5d82e5edb1796df96ba2e472025", func := "loop.example/g01920/laws.FnExactSortWriteBound", spec := "fnExactSortWriteBound", apart := false, narrowed := true }
def FnExactSortWriteBoundUptoSaid : Prop := fnExactSortWriteBoundUptoRow.holds Try.pinned (OpenSpec.upto fnExactSortWriteBoundSpec)

/-- 'laws.FnExactFormatGroups', WHERE WHAT IT READS IS OF BULK AT MOST 1048576: true; the input reads as it did. -/
def fnExactFormatGroupsUptoRow : OpenClaim := { program := "ytngeppmincgebaa", sum := "23f62512baf6d8a68b880a25914a6ba88141f5d82e5edb1796df96ba2e472025", func := "loop.example/g01920/laws.FnExactFormatGroups", spec := "fnExactFormatGroups", recurses := true, apart := false, narrowed := true }
def FnExactFormatGroupsUptoSaid : Prop := fnExactFormatGroupsUptoRow.holds Try.pinned (OpenSpec.upto fnExactFormatGroupsSpec)

/-- 'laws.FnExactMergeSorted', WHERE WHAT IT READS IS OF BULK AT MOST 1048576: true; the input reads as it did. -/
def fnExactMergeSortedUptoRow : OpenClaim := { program := "ytngeppmincgebaa", sum := "23f62512baf6d8a68b880a25914a6ba88141f5d82e5edb1796df96ba2e472025", func := "loop.example/g01920/laws.FnExactMergeSorted", spec := "fnExactMergeSorted", apart := false, narrowed := true }
def FnExactMergeSortedUptoSaid : Prop := fnExactMergeSortedUptoRow.holds Try.pinned (OpenSpec.upto fnExactMergeSortedSpec)

/-- 'laws.FnExactFlattenRuns', WHERE WHAT IT READS IS OF BULK AT MOST 1048576: true; the input reads as it did. -/
def fnExactFlattenRunsUptoRow : OpenClaim := { program := "ytngeppmincgebaa", sum := "23f62512baf6d8a68b880a25914a6ba88141f5d82e5edb1796df96ba2e472025", func := "loop.example/g01920/laws.FnExactFlattenRuns", spec := "fnExactFlattenRuns", apart := false, narrowed := true }
def FnExactFlattenRunsUptoSaid : Prop := fnExactFlattenRunsUptoRow.holds Try.pinned (OpenSpec.upto fnExactFlattenRunsSpec)

/-- 'laws.FnExactFormatPairs', WHERE WHAT IT READS IS OF BULK AT MOST 1048576: true; the input reads as it did. -/
def fnExactFormatPairsUptoRow : OpenClaim := { program := "ytngeppmincgebaa", sum := "23f62512baf6d8a68b880a25914a6ba88141f5d82e5edb1796df96ba2e472025", func := "loop.example/g01920/laws.FnExactFormatPairs", spec := "fnExactFormatPairs", recurses := true, apart := false, narrowed := true }
def FnExactFormatPairsUptoSaid : Prop := fnExactFormatPairsUptoRow.holds Try.pinned (OpenSpec.upto fnExactFormatPairsSpec)

/-- 'laws.FnExactAreValidRuns', WHERE WHAT IT READS IS OF BULK AT MOST 1048576: true; the input reads as it did. -/
def fnExactAreValidRunsUptoRow : OpenClaim := { program := "ytngeppmincgebaa", sum := "23f62512baf6d8a68b880a25914a6ba88141f5d82e5edb1796df96ba2e472025", func := "loop.example/g01920/laws.FnExactAreValidRuns", spec := "fnExactAreValidRuns", apart := false, narrowed := true }
def FnExactAreValidRunsUptoSaid : Prop := fnExactAreValidRunsUptoRow.holds Try.pinned (OpenSpec.upto fnExactAreValidRunsSpec)

/-- 'laws.FnExactReferenceJoin', WHERE WHAT IT READS IS OF BULK AT MOST 1048576: true; the input reads as it did. -/
def fnExactReferenceJoinUptoRow : OpenClaim := { program := "ytngeppmincgebaa", sum := "23f62512baf6d8a68b880a25914a6ba88141f5d82e5edb1796df96ba2e472025", func := "loop.example/g01920/laws.FnExactReferenceJoin", spec := "fnExactReferenceJoin", apart := false, narrowed := true }
def FnExactReferenceJoinUptoSaid : Prop := fnExactReferenceJoinUptoRow.holds Try.pinned (OpenSpec.upto fnExactReferenceJoinSpec)

/-- 'laws.FnExactNewSorter', WHERE WHAT IT READS IS OF BULK AT MOST 1048576: true; the input reads as it did. -/
def fnExactNewSorterUptoRow : OpenClaim := { program := "ytngeppmincgebaa", sum := "23f62512baf6d8a68b880a25914a6ba88141f5d82e5edb1796df96ba2e472025", func := "loop.example/g01920/laws.FnExactNewSorter", spec := "fnExactNewSorter", apart := false, narrowed := true }
def FnExactNewSorterUptoSaid : Prop := fnExactNewSorterUptoRow.holds Try.pinned (OpenSpec.upto fnExactNewSorterSpec)

/-- 'laws.FnExactEqualSorters', WHERE WHAT IT READS IS OF BULK AT MOST 1048576: true; the input reads as it did. -/
def fnExactEqualSortersUptoRow : OpenClaim := { program := "ytngeppmincgebaa", sum := "23f62512baf6d8a68b880a25914a6ba88141f5d82e5edb1796df96ba2e472025", func := "loop.example/g01920/laws.FnExactEqualSorters", spec := "fnExactEqualSorters", apart := false, narrowed := true }
def FnExactEqualSortersUptoSaid : Prop := fnExactEqualSortersUptoRow.holds Try.pinned (OpenSpec.upto fnExactEqualSortersSpec)

/-- 'laws.FnExactFormatRuns', WHERE WHAT IT READS IS OF BULK AT MOST 1048576: true; the input reads as it did. -/
def fnExactFormatRunsUptoRow : OpenClaim := { program := "ytngeppmincgebaa", sum := "23f62512baf6d8a68b880a25914a6ba88141f5d82e5edb1796df96ba2e472025", func := "loop.example/g01920/laws.FnExactFormatRuns", spec := "fnExactFormatRuns", recurses := true, apart := false, narrowed := true }
def FnExactFormatRunsUptoSaid : Prop := fnExactFormatRunsUptoRow.holds Try.pinned (OpenSpec.upto fnExactFormatRunsSpec)

/-- 'laws.FnExactMergePass', WHERE WHAT IT READS IS OF BULK AT MOST 1048576: true; the input reads as it did. -/
def fnExactMergePassUptoRow : OpenClaim := { program := "ytngeppmincgebaa", sum := "23f62512baf6d8a68b880a25914a6ba88141f5d82e5edb1796df96ba2e472025", func := "loop.example/g01920/laws.FnExactMergePass", spec := "fnExactMergePass", apart := false, narrowed := true }
def FnExactMergePassUptoSaid : Prop := fnExactMergePassUptoRow.holds Try.pinned (OpenSpec.upto fnExactMergePassSpec)

/-- 'laws.FnExactSorterMemory', WHERE WHAT IT READS IS OF BULK AT MOST 1048576: true; the input reads as it did. -/
def fnExactSorterMemoryUptoRow : OpenClaim := { program := "ytngeppmincgebaa", sum := "23f62512baf6d8a68b880a25914a6ba88141f5d82e5edb1796df96ba2e472025", func := "loop.example/g01920/laws.FnExactSorterMemory", spec := "fnExactSorterMemory", apart := false, narrowed := true }
def FnExactSorterMemoryUptoSaid : Prop := fnExactSorterMemoryUptoRow.holds Try.pinned (OpenSpec.upto fnExactSorterMemorySpec)

end Rows
end Go.Proofs.Ytngeppmincgebaa
