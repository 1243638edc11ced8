/-
  No cell of these rows narrows 'for every input' (looked for: loops, veiled, ifaces, maps, wideKeys, modest, calm, conditions, laid).
  DERIVED. THE GIVEN ROWS OF THIS SEAT. 12 by the template 'for every input the law returns true; each argument reads behind the call as it read before'; 0 by the template 'total and deterministic' (their statements: YtbnlacajjkecdaaTotals.lean).
  GIVEN WITH THE SEED: the statements are not yours to turn. If you find one false, say at which input.
  Laid BY PROGRAM, IN A SANDBOX (cutbox-rows.mjs): the forced cells as the released guide's own fill.sh prints them over the translation db6c31ad1f542a8c… (all of the seat's roots in one cut). By AI agents, Wed Nov 11 2026. No macro, syntax, notation, axiom, sorry.
-/
import Derived.Test.YtbnlacajjkecdaaChecked
import GoSem.Claim
import GoSem.ClaimJoined
import GoSem.ClaimMapViews
import Derived.JoinedTies
import Derived.KernelRfl
namespace Go.Proofs.Ytbnlacajjkecdaa
/- THE CELL 'sum', in the pinned program and in every row, IS THE sha256 OF THE DUMP (.gsa) THAT YtbnlacajjkecdaaProg.lean LOADS. Nothing in Lean hashes anything: it is a label: what it is worth is what the hold of that sum in a sandbox is worth. -/
noncomputable def Try.pinned : Pinned := { name := "ytbnlacajjkecdaa", sum := "db6c31ad1f542a8cecbccd8a88ba89b18fa9134e1e04036f247346ba86e13ff8", checked := Try.checked }
namespace Rows
def none {H : Type} : Left H := { results := [], args := [] }

/-- 'laws.FnExactMergePasses': WHATEVER THE INPUT: true; the input reads as it did. -/
def fnExactMergePassesSpec : ChangeSpec := { name := "fnExactMergePasses", fn := fun _ => fun
  | [d] => { results := [.lit (.bool true)], args := [d] }
  | _ => none }
def fnExactMergePassesRow : OpenClaim := { program := "ytbnlacajjkecdaa", sum := "db6c31ad1f542a8cecbccd8a88ba89b18fa9134e1e04036f247346ba86e13ff8", func := "loop.example/g01920/laws.FnExactMergePasses", spec := "fnExactMergePasses", apart := false }
def FnExactMergePassesSaid : Prop := fnExactMergePassesRow.holds Try.pinned (OpenSpec.ofChange fnExactMergePassesSpec)

/-- ITS FALSE NEIGHBOUR: 'it returns false'. Refute it at one input. -/
def fnExactMergePassesWrong : ChangeSpec := { name := "fnExactMergePasses", fn := fun _ => fun
  | [d] => { results := [.lit (.bool false)], args := [d] }
  | _ => none }
def FnExactMergePassesWrongFalsely : Prop := fnExactMergePassesRow.holds Try.pinned (OpenSpec.ofChange fnExactMergePassesWrong)

/-- 'laws.FnExactIsValidGroup': WHATEVER THE INPUT: true; the input reads as it did. -/
def fnExactIsValidGroupSpec : ChangeSpec := { name := "fnExactIsValidGroup", fn := fun _ => fun
  | [d] => { results := [.lit (.bool true)], args := [d] }
  | _ => none }
def fnExactIsValidGroupRow : OpenClaim := { program := "ytbnlacajjkecdaa", sum := "db6c31ad1f542a8cecbccd8a88ba89b18fa9134e1e04036f247346ba86e13ff8", func := "loop.example/g01920/laws.FnExactIsValidGroup", spec := "fnExactIsValidGroup", apart := false }
def FnExactIsValidGroupSaid : Prop := fnExactIsValidGroupRow.holds Try.pinned (OpenSpec.ofChange fnExactIsValidGroupSpec)

/-- ITS FALSE NEIGHBOUR: 'it returns false'. Refute it at one input. -/
def fnExactIsValidGroupWrong : ChangeSpec := { name := "fnExactIsValidGroup", fn := fun _ => fun
  | [d] => { results := [.lit (.bool false)], args := [d] }
  | _ => none }
def FnExactIsValidGroupWrongFalsely : Prop := fnExactIsValidGroupRow.holds Try.pinned (OpenSpec.ofChange fnExactIsValidGroupWrong)

/-- 'laws.FnExactIsValidAccount': WHATEVER THE INPUT: true; the input reads as it did. -/
def fnExactIsValidAccountSpec : ChangeSpec := { name := "fnExactIsValidAccount", fn := fun _ => fun
  | [d] => { results := [.lit (.bool true)], args := [d] }
  | _ => none }
def fnExactIsValidAccountRow : OpenClaim := { program := "ytbnlacajjkecdaa", sum := "db6c31ad1f542a8cecbccd8a88ba89b18fa9134e1e04036f247346ba86e13ff8", func := "loop.example/g01920/laws.FnExactIsValidAccount", spec := "fnExactIsValidAccount", apart := false }
def FnExactIsValidAccountSaid : Prop := fnExactIsValidAccountRow.holds Try.pinned (OpenSpec.ofChange fnExactIsValidAccountSpec)

/-- ITS FALSE NEIGHBOUR: 'it returns false'. Refute it at one input. -/
def fnExactIsValidAccountWrong : ChangeSpec := { name := "fnExactIsValidAccount", fn := fun _ => fun
  | [d] => { results := [.lit (.bool false)], args := [d] }
  | _ => none }
def FnExactIsValidAccountWrongFalsely : Prop := fnExactIsValidAccountRow.holds Try.pinned (OpenSpec.ofChange fnExactIsValidAccountWrong)

/-- 'laws.FnExactSortStepBound': WHATEVER THE INPUT: true; the input reads as it did. -/
def fnExactSortStepBoundSpec : ChangeSpec := { name := "fnExactSortStepBound", fn := fun _ => fun
  | [d] => { results := [.lit (.bool true)], args := [d] }
  | _ => none }
def fnExactSortStepBoundRow : OpenClaim := { program := "ytbnlacajjkecdaa", sum := "db6c31ad1f542a8cecbccd8a88ba89b18fa9134e1e04036f247346ba86e13ff8", func := "loop.example/g01920/laws.FnExactSortStepBound", spec := "fnExactSortStepBound", apart := false }
def FnExactSortStepBoundSaid : Prop := fnExactSortStepBoundRow.holds Try.pinned (OpenSpec.ofChange fnExactSortStepBoundSpec)

/-- ITS FALSE NEIGHBOUR: 'it returns false'. Refute it at one input. -/
def fnExactSortStepBoundWrong : ChangeSpec := { name := "fnExactSortStepBound", fn := fun _ => fun
  | [d] => { results := [.lit (.bool false)], args := [d] }
  | _ => none }
def FnExactSortStepBoundWrongFalsely : Prop := fnExactSortStepBoundRow.holds Try.pinned (OpenSpec.ofChange fnExactSortStepBoundWrong)

/-- 'laws.FnExactGroupFromRow': WHATEVER THE INPUT: true; the input reads as it did. -/
def fnExactGroupFromRowSpec : ChangeSpec := { name := "fnExactGroupFromRow", fn := fun _ => fun
  | [d] => { results := [.lit (.bool true)], args := [d] }
  | _ => none }
def fnExactGroupFromRowRow : OpenClaim := { program := "ytbnlacajjkecdaa", sum := "db6c31ad1f542a8cecbccd8a88ba89b18fa9134e1e04036f247346ba86e13ff8", func := "loop.example/g01920/laws.FnExactGroupFromRow", spec := "fnExactGroupFromRow", apart := false }
def FnExactGroupFromRowSaid : Prop := fnExactGroupFromRowRow.holds Try.pinned (OpenSpec.ofChange fnExactGroupFromRowSpec)

/-- ITS FALSE NEIGHBOUR: 'it returns false'. Refute it at one input. -/
def fnExactGroupFromRowWrong : ChangeSpec := { name := "fnExactGroupFromRow", fn := fun _ => fun
  | [d] => { results := [.lit (.bool false)], args := [d] }
  | _ => none }
def FnExactGroupFromRowWrongFalsely : Prop := fnExactGroupFromRowRow.holds Try.pinned (OpenSpec.ofChange fnExactGroupFromRowWrong)

/-- 'laws.FnExactExcess': WHATEVER THE INPUT: true; the input reads as it did. -/
def fnExactExcessSpec : ChangeSpec := { name := "fnExactExcess", fn := fun _ => fun
  | [d] => { results := [.lit (.bool true)], args := [d] }
  | _ => none }
def fnExactExcessRow : OpenClaim := { program := "ytbnlacajjkecdaa", sum := "db6c31ad1f542a8cecbccd8a88ba89b18fa9134e1e04036f247346ba86e13ff8", func := "loop.example/g01920/laws.FnExactExcess", spec := "fnExactExcess", apart := false }
def FnExactExcessSaid : Prop := fnExactExcessRow.holds Try.pinned (OpenSpec.ofChange fnExactExcessSpec)

/-- ITS FALSE NEIGHBOUR: 'it returns false'. Refute it at one input. -/
def fnExactExcessWrong : ChangeSpec := { name := "fnExactExcess", fn := fun _ => fun
  | [d] => { results := [.lit (.bool false)], args := [d] }
  | _ => none }
def FnExactExcessWrongFalsely : Prop := fnExactExcessRow.holds Try.pinned (OpenSpec.ofChange fnExactExcessWrong)

/-- 'laws.FnExactNewAccount': WHATEVER THE INPUT: true; the input reads as it did. -/
def fnExactNewAccountSpec : ChangeSpec := { name := "fnExactNewAccount", fn := fun _ => fun
  | [d] => { results := [.lit (.bool true)], args := [d] }
  | _ => none }
def fnExactNewAccountRow : OpenClaim := { program := "ytbnlacajjkecdaa", sum := "db6c31ad1f542a8cecbccd8a88ba89b18fa9134e1e04036f247346ba86e13ff8", func := "loop.example/g01920/laws.FnExactNewAccount", spec := "fnExactNewAccount", apart := false }
def FnExactNewAccountSaid : Prop := fnExactNewAccountRow.holds Try.pinned (OpenSpec.ofChange fnExactNewAccountSpec)

/-- ITS FALSE NEIGHBOUR: 'it returns false'. Refute it at one input. -/
def fnExactNewAccountWrong : ChangeSpec := { name := "fnExactNewAccount", fn := fun _ => fun
  | [d] => { results := [.lit (.bool false)], args := [d] }
  | _ => none }
def FnExactNewAccountWrongFalsely : Prop := fnExactNewAccountRow.holds Try.pinned (OpenSpec.ofChange fnExactNewAccountWrong)

/-- 'laws.FnExactCombineGroups': WHATEVER THE INPUT: true; the input reads as it did. -/
def fnExactCombineGroupsSpec : ChangeSpec := { name := "fnExactCombineGroups", fn := fun _ => fun
  | [d1, d2] => { results := [.lit (.bool true)], args := [d1, d2] }
  | _ => none }
def fnExactCombineGroupsRow : OpenClaim := { program := "ytbnlacajjkecdaa", sum := "db6c31ad1f542a8cecbccd8a88ba89b18fa9134e1e04036f247346ba86e13ff8", func := "loop.example/g01920/laws.FnExactCombineGroups", spec := "fnExactCombineGroups", apart := false }
def FnExactCombineGroupsSaid : Prop := fnExactCombineGroupsRow.holds Try.pinned (OpenSpec.ofChange fnExactCombineGroupsSpec)

/-- ITS FALSE NEIGHBOUR: 'it returns false'. Refute it at one input. -/
def fnExactCombineGroupsWrong : ChangeSpec := { name := "fnExactCombineGroups", fn := fun _ => fun
  | [d1, d2] => { results := [.lit (.bool false)], args := [d1, d2] }
  | _ => none }
def FnExactCombineGroupsWrongFalsely : Prop := fnExactCombineGroupsRow.holds Try.pinned (OpenSpec.ofChange fnExactCombineGroupsWrong)

/-- 'laws.FnExactRelease': WHATEVER THE INPUT: true; the input reads as it did. -/
def fnExactReleaseSpec : ChangeSpec := { name := "fnExactRelease", fn := fun _ => fun
  | [d1, d2] => { results := [.lit (.bool true)], args := [d1, d2] }
  | _ => none }
def fnExactReleaseRow : OpenClaim := { program := "ytbnlacajjkecdaa", sum := "db6c31ad1f542a8cecbccd8a88ba89b18fa9134e1e04036f247346ba86e13ff8", func := "loop.example/g01920/laws.FnExactRelease", spec := "fnExactRelease", apart := false }
def FnExactReleaseSaid : Prop := fnExactReleaseRow.holds Try.pinned (OpenSpec.ofChange fnExactReleaseSpec)

/-- ITS FALSE NEIGHBOUR: 'it returns false'. Refute it at one input. -/
def fnExactReleaseWrong : ChangeSpec := { name := "fnExactRelease", fn := fun _ => fun
  | [d1, d2] => { results := [.lit (.bool false)], args := [d1, d2] }
  | _ => none }
def FnExactReleaseWrongFalsely : Prop := fnExactReleaseRow.holds Try.pinned (OpenSpec.ofChange fnExactReleaseWrong)

/-- 'laws.FnExactCharge': WHATEVER THE INPUT: true; the input reads as it did. -/
def fnExactChargeSpec : ChangeSpec := { name := "fnExactCharge", fn := fun _ => fun
  | [d1, d2] => { results := [.lit (.bool true)], args := [d1, d2] }
  | _ => none }
def fnExactChargeRow : OpenClaim := { program := "ytbnlacajjkecdaa", sum := "db6c31ad1f542a8cecbccd8a88ba89b18fa9134e1e04036f247346ba86e13ff8", func := "loop.example/g01920/laws.FnExactCharge", spec := "fnExactCharge", apart := false }
def FnExactChargeSaid : Prop := fnExactChargeRow.holds Try.pinned (OpenSpec.ofChange fnExactChargeSpec)

/-- ITS FALSE NEIGHBOUR: 'it returns false'. Refute it at one input. -/
def fnExactChargeWrong : ChangeSpec := { name := "fnExactCharge", fn := fun _ => fun
  | [d1, d2] => { results := [.lit (.bool false)], args := [d1, d2] }
  | _ => none }
def FnExactChargeWrongFalsely : Prop := fnExactChargeRow.holds Try.pinned (OpenSpec.ofChange fnExactChargeWrong)

/-- 'laws.FnExactSetGrant': WHATEVER THE INPUT: true; the input reads as it did. -/
def fnExactSetGrantSpec : ChangeSpec := { name := "fnExactSetGrant", fn := fun _ => fun
  | [d1, d2] => { results := [.lit (.bool true)], args := [d1, d2] }
  | _ => none }
def fnExactSetGrantRow : OpenClaim := { program := "ytbnlacajjkecdaa", sum := "db6c31ad1f542a8cecbccd8a88ba89b18fa9134e1e04036f247346ba86e13ff8", func := "loop.example/g01920/laws.FnExactSetGrant", spec := "fnExactSetGrant", apart := false }
def FnExactSetGrantSaid : Prop := fnExactSetGrantRow.holds Try.pinned (OpenSpec.ofChange fnExactSetGrantSpec)

/-- ITS FALSE NEIGHBOUR: 'it returns false'. Refute it at one input. -/
def fnExactSetGrantWrong : ChangeSpec := { name := "fnExactSetGrant", fn := fun _ => fun
  | [d1, d2] => { results := [.lit (.bool false)], args := [d1, d2] }
  | _ => none }
def FnExactSetGrantWrongFalsely : Prop := fnExactSetGrantRow.holds Try.pinned (OpenSpec.ofChange fnExactSetGrantWrong)

/-- 'laws.FnExactIndexOfMin': WHATEVER THE INPUT: true; the input reads as it did. -/
def fnExactIndexOfMinSpec : ChangeSpec := { name := "fnExactIndexOfMin", fn := fun _ => fun
  | [d] => { results := [.lit (.bool true)], args := [d] }
  | _ => none }
def fnExactIndexOfMinRow : OpenClaim := { program := "ytbnlacajjkecdaa", sum := "db6c31ad1f542a8cecbccd8a88ba89b18fa9134e1e04036f247346ba86e13ff8", func := "loop.example/g01920/laws.FnExactIndexOfMin", spec := "fnExactIndexOfMin", apart := false }
def FnExactIndexOfMinSaid : Prop := fnExactIndexOfMinRow.holds Try.pinned (OpenSpec.ofChange fnExactIndexOfMinSpec)

/-- ITS FALSE NEIGHBOUR: 'it returns false'. Refute it at one input. -/
def fnExactIndexOfMinWrong : ChangeSpec := { name := "fnExactIndexOfMin", fn := fun _ => fun
  | [d] => { results := [.lit (.bool false)], args := [d] }
  | _ => none }
def FnExactIndexOfMinWrongFalsely : Prop := fnExactIndexOfMinRow.holds Try.pinned (OpenSpec.ofChange fnExactIndexOfMinWrong)

/- THE SECOND FORM. 'bulk': how many values and letters a reading holds, each counted each time it is reached (what is shared counts as often as it is met; a slice's spare places count too). A statement '..UptoSaid' is the law's where the arguments, and the package variables that the reading takes, are together of bulk at most 1048576: NARROWER than '..Said'. Prove '..Said' where nothing that the law and all that it calls make is longer than what came in: it says more and counts as full. Else prove '..UptoSaid'. A law counts once. -/
mutual
def uptoBulk {H : Type} : DataW H → Nat
  | .lit (.string bytes) => bytes.length + 1
  | .lit _ => 1
  | .nil => 1
  | .ptr d => uptoBulk d + 1
  | .slice elems spare => uptoBulkAll elems + uptoBulkAll spare + 1
  | .agg parts => uptoBulkAll parts + 1
  | .iface _ d => uptoBulk d + 1
  | .map entries => uptoBulkEntries entries + 1
  | .held _ => 1
def uptoBulkAll {H : Type} : List (DataW H) → Nat
  | [] => 0
  | d :: r => uptoBulk d + uptoBulkAll r
def uptoBulkEntries {H : Type} : List (Lit × DataW H) → Nat
  | [] => 0
  | x :: r => uptoBulkEntry x + uptoBulkEntries r
def uptoBulkEntry {H : Type} : Lit × DataW H → Nat
  | (.string bytes, d) => bytes.length + uptoBulk d + 1
  | (_, d) => uptoBulk d + 1
 end
def uptoSmall : (H : Type) → List (DataW H) → Bool := fun _ ds => decide (uptoBulkAll ds ≤ 1048576)
def OpenSpec.upto (s : _root_.Go.ChangeSpec) : _root_.Go.OpenSpec := { _root_.Go.OpenSpec.ofChange s with cond := some uptoSmall }

/-- 'laws.FnExactMergePasses', WHERE WHAT IT READS IS OF BULK AT MOST 1048576: true; the input reads as it did. -/
def fnExactMergePassesUptoRow : OpenClaim := { program := "ytbnlacajjkecdaa", sum := "db6c31ad1f542a8cecbccd8a88ba89b18fa9134e1e04036f247346ba86e13ff8", func := "loop.example/g01920/laws.FnExactMergePasses", spec := "fnExactMergePasses", apart := false, narrowed := true }
def FnExactMergePassesUptoSaid : Prop := fnExactMergePassesUptoRow.holds Try.pinned (OpenSpec.upto fnExactMergePassesSpec)

/-- 'laws.FnExactIsValidGroup', WHERE WHAT IT READS IS OF BULK AT MOST 1048576: true; the input reads as it did. -/
def fnExactIsValidGroupUptoRow : OpenClaim := { program := "ytbnlacajjkecdaa", sum := "db6c31ad1f542a8cecbccd8a88ba89b18fa9134e1e04036f247346ba86e13ff8", func := "loop.example/g01920/laws.FnExactIsValidGroup", spec := "fnExactIsValidGroup", apart := false, narrowed := true }
def FnExactIsValidGroupUptoSaid : Prop := fnExactIsValidGroupUptoRow.holds Try.pinned (OpenSpec.upto fnExactIsValidGroupSpec)

/-- 'laws.FnExactIsValidAccount', WHERE WHAT IT READS IS OF BULK AT MOST 1048576: true; the input reads as it did. -/
def fnExactIsValidAccountUptoRow : OpenClaim := { program := "ytbnlacajjkecdaa", sum := "db6c31ad1f542a8cecbccd8a88ba89b18fa9134e1e04036f247346ba86e13ff8", func := "loop.example/g01920/laws.FnExactIsValidAccount", spec := "fnExactIsValidAccount", apart := false, narrowed := true }
def FnExactIsValidAccountUptoSaid : Prop := fnExactIsValidAccountUptoRow.holds Try.pinned (OpenSpec.upto fnExactIsValidAccountSpec)

/-- 'laws.FnExactSortStepBound', WHERE WHAT IT READS IS OF BULK AT MOST 1048576: true; the input reads as it did. -/
def fnExactSortStepBoundUptoRow : OpenClaim := { program := "ytbnlacajjkecdaa", sum := "db6c31ad1f542a8cecbccd8a88ba89b18fa9134e1e04036f247346ba86e13ff8", func := "loop.example/g01920/laws.FnExactSortStepBound", spec := "fnExactSortStepBound", apart := false, narrowed := true }
def FnExactSortStepBoundUptoSaid : Prop := fnExactSortStepBoundUptoRow.holds Try.pinned (OpenSpec.upto fnExactSortStepBoundSpec)

/-- 'laws.FnExactGroupFromRow', WHERE WHAT IT READS IS OF BULK AT MOST 1048576: true; the input reads as it did. -/
def fnExactGroupFromRowUptoRow : OpenClaim := { program := "ytbnlacajjkecdaa", sum := "db6c31ad1f542a8cecbccd8a88ba89b18fa9134e1e04036f247346ba86e13ff8", func := "loop.example/g01920/laws.FnExactGroupFromRow", spec := "fnExactGroupFromRow", apart := false, narrowed := true }
def FnExactGroupFromRowUptoSaid : Prop := fnExactGroupFromRowUptoRow.holds Try.pinned (OpenSpec.upto fnExactGroupFromRowSpec)

/-- 'laws.FnExactExcess', WHERE WHAT IT READS IS OF BULK AT MOST 1048576: true; the input reads as it did. -/
def fnExactExcessUptoRow : OpenClaim := { program := "ytbnlacajjkecdaa", sum := "db6c31ad1f542a8cecbccd8a88ba89b18fa9134e1e04036f247346ba86e13ff8", func := "loop.example/g01920/laws.FnExactExcess", spec := "fnExactExcess", apart := false, narrowed := true }
def FnExactExcessUptoSaid : Prop := fnExactExcessUptoRow.holds Try.pinned (OpenSpec.upto fnExactExcessSpec)

/-- 'laws.FnExactNewAccount', WHERE WHAT IT READS IS OF BULK AT MOST 1048576: true; the input reads as it did. -/
def fnExactNewAccountUptoRow : OpenClaim := { program := "ytbnlacajjkecdaa", sum := "db6c31ad1f542a8cecbccd8a88ba89b18fa9134e1e04036f247346ba86e13ff8", func := "loop.example/g01920/laws.FnExactNewAccount", spec := "fnExactNewAccount", apart := false, narrowed := true }
def FnExactNewAccountUptoSaid : Prop := fnExactNewAccountUptoRow.holds Try.pinned (OpenSpec.upto fnExactNewAccountSpec)

/-- 'laws.FnExactCombineGroups', WHERE WHAT IT READS IS OF BULK AT MOST 1048576: true; the input reads as it did. -/
def fnExactCombineGroupsUptoRow : OpenClaim := { program := "ytbnlacajjkecdaa", sum := "db6c31ad1f542a8cecbccd8a88ba89b18fa9134e1e04036f247346ba86e13ff8", func := "loop.example/g01920/laws.FnExactCombineGroups", spec := "fnExactCombineGroups", apart := false, narrowed := true }
def FnExactCombineGroupsUptoSaid : Prop := fnExactCombineGroupsUptoRow.holds Try.pinned (OpenSpec.upto fnExactCombineGroupsSpec)

/-- 'laws.FnExactRelease', WHERE WHAT IT READS IS OF BULK AT MOST 1048576: true; the input reads as it did. -/
def fnExactReleaseUptoRow : OpenClaim := { program := "ytbnlacajjkecdaa", sum := "db6c31ad1f542a8cecbccd8a88ba89b18fa9134e1e04036f247346ba86e13ff8", func := "loop.example/g01920/laws.FnExactRelease", spec := "fnExactRelease", apart := false, narrowed := true }
def FnExactReleaseUptoSaid : Prop := fnExactReleaseUptoRow.holds Try.pinned (OpenSpec.upto fnExactReleaseSpec)

/-- 'laws.FnExactCharge', WHERE WHAT IT READS IS OF BULK AT MOST 1048576: true; the input reads as it did. -/
def fnExactChargeUptoRow : OpenClaim := { program := "ytbnlacajjkecdaa", sum := "db6c31ad1f542a8cecbccd8a88ba89b18fa9134e1e04036f247346ba86e13ff8", func := "loop.example/g01920/laws.FnExactCharge", spec := "fnExactCharge", apart := false, narrowed := true }
def FnExactChargeUptoSaid : Prop := fnExactChargeUptoRow.holds Try.pinned (OpenSpec.upto fnExactChargeSpec)

/-- 'laws.FnExactSetGrant', WHERE WHAT IT READS IS OF BULK AT MOST 1048576: true; the input reads as it did. -/
def fnExactSetGrantUptoRow : OpenClaim := { program := "ytbnlacajjkecdaa", sum := "db6c31ad1f542a8cecbccd8a88ba89b18fa9134e1e04036f247346ba86e13ff8", func := "loop.example/g01920/laws.FnExactSetGrant", spec := "fnExactSetGrant", apart := false, narrowed := true }
def FnExactSetGrantUptoSaid : Prop := fnExactSetGrantUptoRow.holds Try.pinned (OpenSpec.upto fnExactSetGrantSpec)

/-- 'laws.FnExactIndexOfMin', WHERE WHAT IT READS IS OF BULK AT MOST 1048576: true; the input reads as it did. -/
def fnExactIndexOfMinUptoRow : OpenClaim := { program := "ytbnlacajjkecdaa", sum := "db6c31ad1f542a8cecbccd8a88ba89b18fa9134e1e04036f247346ba86e13ff8", func := "loop.example/g01920/laws.FnExactIndexOfMin", spec := "fnExactIndexOfMin", apart := false, narrowed := true }
def FnExactIndexOfMinUptoSaid : Prop := fnExactIndexOfMinUptoRow.holds Try.pinned (OpenSpec.upto fnExactIndexOfMinSpec)

end Rows
end Go.Proofs.Ytbnlacajjkecdaa
