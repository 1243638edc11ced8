/-
  No cell of these rows narrows 'for every input' (looked for: loops, veiled, ifaces, maps, wideKeys, modest, calm, conditions, laid).
  DERIVED. THE GIVEN ROWS OF THIS SEAT. 8 by the template 'for every input the law returns true; each argument reads behind the call as it read before'; 0 by the template 'total and deterministic' (their statements: YtojcojanokhnaaaTotals.lean).
  GIVEN WITH THE SEED: the statements are not yours to turn. If you find one false, say at which input.
  Laid BY PROGRAM, IN A SANDBOX (cutbox-rows.mjs): the forced cells as the released guide's own fill.sh prints them over the translation dee8af65d674a322… (all of the seat's roots in one cut). By AI agents, Wed Nov 11 2026. No macro, syntax, notation, axiom, sorry.
-/
import Derived.Test.YtojcojanokhnaaaChecked
import GoSem.Claim
import GoSem.ClaimJoined
import GoSem.ClaimMapViews
import Derived.JoinedTies
import Derived.KernelRfl
namespace Go.Proofs.Ytojcojanokhnaaa
/- THE CELL 'sum', in the pinned program and in every row, IS THE sha256 OF THE DUMP (.gsa) THAT YtojcojanokhnaaaProg.lean LOADS. Nothing in Lean hashes anything: it is a label: what it is worth is what the hold of that sum in a sandbox is worth. -/
noncomputable def Try.pinned : Pinned := { name := "ytojcojanokhnaaa", sum := "dee8af65d674a322a338796194f444ce27aebe881f1a6399ef59e04ce8d2b0a2", checked := Try.checked }
namespace Rows
def none {H : Type} : Left H := { results := [], args := [] }

/-- 'laws.FnSorterInvariant': WHATEVER THE INPUT: true; the input reads as it did. -/
def fnSorterInvariantSpec : ChangeSpec := { name := "fnSorterInvariant", fn := fun _ => fun
  | [d] => { results := [.lit (.bool true)], args := [d] }
  | _ => none }
def fnSorterInvariantRow : OpenClaim := { program := "ytojcojanokhnaaa", sum := "dee8af65d674a322a338796194f444ce27aebe881f1a6399ef59e04ce8d2b0a2", func := "loop.example/g01920/laws.FnSorterInvariant", spec := "fnSorterInvariant", unfollowed := true, recurses := true, apart := false }
def FnSorterInvariantSaid : Prop := fnSorterInvariantRow.holds Try.pinned (OpenSpec.ofChange fnSorterInvariantSpec)

/-- ITS FALSE NEIGHBOUR: 'it returns false'. Refute it at one input. -/
def fnSorterInvariantWrong : ChangeSpec := { name := "fnSorterInvariant", fn := fun _ => fun
  | [d] => { results := [.lit (.bool false)], args := [d] }
  | _ => none }
def FnSorterInvariantWrongFalsely : Prop := fnSorterInvariantRow.holds Try.pinned (OpenSpec.ofChange fnSorterInvariantWrong)

/-- 'laws.FnSortUnderGrants': WHATEVER THE INPUT: true; the input reads as it did. -/
def fnSortUnderGrantsSpec : ChangeSpec := { name := "fnSortUnderGrants", fn := fun _ => fun
  | [d] => { results := [.lit (.bool true)], args := [d] }
  | _ => none }
def fnSortUnderGrantsRow : OpenClaim := { program := "ytojcojanokhnaaa", sum := "dee8af65d674a322a338796194f444ce27aebe881f1a6399ef59e04ce8d2b0a2", func := "loop.example/g01920/laws.FnSortUnderGrants", spec := "fnSortUnderGrants", unfollowed := true, recurses := true, apart := false }
def FnSortUnderGrantsSaid : Prop := fnSortUnderGrantsRow.holds Try.pinned (OpenSpec.ofChange fnSortUnderGrantsSpec)

/-- ITS FALSE NEIGHBOUR: 'it returns false'. Refute it at one input. -/
def fnSortUnderGrantsWrong : ChangeSpec := { name := "fnSortUnderGrants", fn := fun _ => fun
  | [d] => { results := [.lit (.bool false)], args := [d] }
  | _ => none }
def FnSortUnderGrantsWrongFalsely : Prop := fnSortUnderGrantsRow.holds Try.pinned (OpenSpec.ofChange fnSortUnderGrantsWrong)

/-- 'laws.FnExactIsValidSorter': WHATEVER THE INPUT: true; the input reads as it did. -/
def fnExactIsValidSorterSpec : ChangeSpec := { name := "fnExactIsValidSorter", fn := fun _ => fun
  | [d] => { results := [.lit (.bool true)], args := [d] }
  | _ => none }
def fnExactIsValidSorterRow : OpenClaim := { program := "ytojcojanokhnaaa", sum := "dee8af65d674a322a338796194f444ce27aebe881f1a6399ef59e04ce8d2b0a2", func := "loop.example/g01920/laws.FnExactIsValidSorter", spec := "fnExactIsValidSorter", unfollowed := true, recurses := true, apart := false }
def FnExactIsValidSorterSaid : Prop := fnExactIsValidSorterRow.holds Try.pinned (OpenSpec.ofChange fnExactIsValidSorterSpec)

/-- ITS FALSE NEIGHBOUR: 'it returns false'. Refute it at one input. -/
def fnExactIsValidSorterWrong : ChangeSpec := { name := "fnExactIsValidSorter", fn := fun _ => fun
  | [d] => { results := [.lit (.bool false)], args := [d] }
  | _ => none }
def FnExactIsValidSorterWrongFalsely : Prop := fnExactIsValidSorterRow.holds Try.pinned (OpenSpec.ofChange fnExactIsValidSorterWrong)

/-- 'laws.FnExactRemainingRows': WHATEVER THE INPUT: true; the input reads as it did. -/
def fnExactRemainingRowsSpec : ChangeSpec := { name := "fnExactRemainingRows", fn := fun _ => fun
  | [d] => { results := [.lit (.bool true)], args := [d] }
  | _ => none }
def fnExactRemainingRowsRow : OpenClaim := { program := "ytojcojanokhnaaa", sum := "dee8af65d674a322a338796194f444ce27aebe881f1a6399ef59e04ce8d2b0a2", func := "loop.example/g01920/laws.FnExactRemainingRows", spec := "fnExactRemainingRows", unfollowed := true, recurses := true, apart := false }
def FnExactRemainingRowsSaid : Prop := fnExactRemainingRowsRow.holds Try.pinned (OpenSpec.ofChange fnExactRemainingRowsSpec)

/-- ITS FALSE NEIGHBOUR: 'it returns false'. Refute it at one input. -/
def fnExactRemainingRowsWrong : ChangeSpec := { name := "fnExactRemainingRows", fn := fun _ => fun
  | [d] => { results := [.lit (.bool false)], args := [d] }
  | _ => none }
def FnExactRemainingRowsWrongFalsely : Prop := fnExactRemainingRowsRow.holds Try.pinned (OpenSpec.ofChange fnExactRemainingRowsWrong)

/-- 'laws.FnRevocation': WHATEVER THE INPUT: true; the input reads as it did. -/
def fnRevocationSpec : ChangeSpec := { name := "fnRevocation", fn := fun _ => fun
  | [d] => { results := [.lit (.bool true)], args := [d] }
  | _ => none }
def fnRevocationRow : OpenClaim := { program := "ytojcojanokhnaaa", sum := "dee8af65d674a322a338796194f444ce27aebe881f1a6399ef59e04ce8d2b0a2", func := "loop.example/g01920/laws.FnRevocation", spec := "fnRevocation", unfollowed := true, recurses := true, apart := false }
def FnRevocationSaid : Prop := fnRevocationRow.holds Try.pinned (OpenSpec.ofChange fnRevocationSpec)

/-- ITS FALSE NEIGHBOUR: 'it returns false'. Refute it at one input. -/
def fnRevocationWrong : ChangeSpec := { name := "fnRevocation", fn := fun _ => fun
  | [d] => { results := [.lit (.bool false)], args := [d] }
  | _ => none }
def FnRevocationWrongFalsely : Prop := fnRevocationRow.holds Try.pinned (OpenSpec.ofChange fnRevocationWrong)

/-- 'laws.FnExactStepsToFit': WHATEVER THE INPUT: true; the input reads as it did. -/
def fnExactStepsToFitSpec : ChangeSpec := { name := "fnExactStepsToFit", fn := fun _ => fun
  | [d1, d2] => { results := [.lit (.bool true)], args := [d1, d2] }
  | _ => none }
def fnExactStepsToFitRow : OpenClaim := { program := "ytojcojanokhnaaa", sum := "dee8af65d674a322a338796194f444ce27aebe881f1a6399ef59e04ce8d2b0a2", func := "loop.example/g01920/laws.FnExactStepsToFit", spec := "fnExactStepsToFit", unfollowed := true, recurses := true, apart := false }
def FnExactStepsToFitSaid : Prop := fnExactStepsToFitRow.holds Try.pinned (OpenSpec.ofChange fnExactStepsToFitSpec)

/-- ITS FALSE NEIGHBOUR: 'it returns false'. Refute it at one input. -/
def fnExactStepsToFitWrong : ChangeSpec := { name := "fnExactStepsToFit", fn := fun _ => fun
  | [d1, d2] => { results := [.lit (.bool false)], args := [d1, d2] }
  | _ => none }
def FnExactStepsToFitWrongFalsely : Prop := fnExactStepsToFitRow.holds Try.pinned (OpenSpec.ofChange fnExactStepsToFitWrong)

/-- 'laws.FnExactRunSort': WHATEVER THE INPUT: true; the input reads as it did. -/
def fnExactRunSortSpec : ChangeSpec := { name := "fnExactRunSort", fn := fun _ => fun
  | [d1, d2] => { results := [.lit (.bool true)], args := [d1, d2] }
  | _ => none }
def fnExactRunSortRow : OpenClaim := { program := "ytojcojanokhnaaa", sum := "dee8af65d674a322a338796194f444ce27aebe881f1a6399ef59e04ce8d2b0a2", func := "loop.example/g01920/laws.FnExactRunSort", spec := "fnExactRunSort", unfollowed := true, recurses := true, apart := false }
def FnExactRunSortSaid : Prop := fnExactRunSortRow.holds Try.pinned (OpenSpec.ofChange fnExactRunSortSpec)

/-- ITS FALSE NEIGHBOUR: 'it returns false'. Refute it at one input. -/
def fnExactRunSortWrong : ChangeSpec := { name := "fnExactRunSort", fn := fun _ => fun
  | [d1, d2] => { results := [.lit (.bool false)], args := [d1, d2] }
  | _ => none }
def FnExactRunSortWrongFalsely : Prop := fnExactRunSortRow.holds Try.pinned (OpenSpec.ofChange fnExactRunSortWrong)

/-- 'laws.FnExactStepSorter': WHATEVER THE INPUT: true; the input reads as it did. -/
def fnExactStepSorterSpec : ChangeSpec := { name := "fnExactStepSorter", fn := fun _ => fun
  | [d1, d2] => { results := [.lit (.bool true)], args := [d1, d2] }
  | _ => none }
def fnExactStepSorterRow : OpenClaim := { program := "ytojcojanokhnaaa", sum := "dee8af65d674a322a338796194f444ce27aebe881f1a6399ef59e04ce8d2b0a2", func := "loop.example/g01920/laws.FnExactStepSorter", spec := "fnExactStepSorter", unfollowed := true, recurses := true, apart := false }
def FnExactStepSorterSaid : Prop := fnExactStepSorterRow.holds Try.pinned (OpenSpec.ofChange fnExactStepSorterSpec)

/-- ITS FALSE NEIGHBOUR: 'it returns false'. Refute it at one input. -/
def fnExactStepSorterWrong : ChangeSpec := { name := "fnExactStepSorter", fn := fun _ => fun
  | [d1, d2] => { results := [.lit (.bool false)], args := [d1, d2] }
  | _ => none }
def FnExactStepSorterWrongFalsely : Prop := fnExactStepSorterRow.holds Try.pinned (OpenSpec.ofChange fnExactStepSorterWrong)

/- THE SECOND FORM. 'bulk': how many values and letters a reading holds, each counted each time it is reached (what is shared counts as often as it is met; a slice's spare places count too). A statement '..UptoSaid' is the law's where the arguments, and the package variables that the reading takes, are together of bulk at most 1048576: NARROWER than '..Said'. Prove '..Said' where nothing that the law and all that it calls make is longer than what came in: it says more and counts as full. Else prove '..UptoSaid'. A law counts once. -/
mutual
def uptoBulk {H : Type} : DataW H → Nat
  | .lit (.string bytes) => bytes.length + 1
  | .lit _ => 1
  | .nil => 1
  | .ptr d => uptoBulk d + 1
  | .slice elems spare => uptoBulkAll elems + uptoBulkAll spare + 1
  | .agg parts => uptoBulkAll parts + 1
  | .iface _ d => uptoBulk d + 1
  | .map entries => uptoBulkEntries entries + 1
  | .held _ => 1
def uptoBulkAll {H : Type} : List (DataW H) → Nat
  | [] => 0
  | d :: r => uptoBulk d + uptoBulkAll r
def uptoBulkEntries {H : Type} : List (Lit × DataW H) → Nat
  | [] => 0
  | x :: r => uptoBulkEntry x + uptoBulkEntries r
def uptoBulkEntry {H : Type} : Lit × DataW H → Nat
  | (.string bytes, d) => bytes.length + uptoBulk d + 1
  | (_, d) => uptoBulk d + 1
 end
def uptoSmall : (H : Type) → List (DataW H) → Bool := fun _ ds => decide (uptoBulkAll ds ≤ 1048576)
def OpenSpec.upto (s : _root_.Go.ChangeSpec) : _root_.Go.OpenSpec := { _root_.Go.OpenSpec.ofChange s with cond := some uptoSmall }

/-- 'laws.FnSorterInvariant', WHERE WHAT IT READS IS OF BULK AT MOST 1048576: true; the input reads as it did. -/
def fnSorterInvariantUptoRow : OpenClaim := { program := "ytojcojanokhnaaa", sum := "dee8af65d674a322a338796194f444ce27aebe881f1a6399ef59e04ce8d2b0a2", func := "loop.example/g01920/laws.FnSorterInvariant", spec := "fnSorterInvariant", unfollowed := true, recurses := true, apart := false, narrowed := true }
def FnSorterInvariantUptoSaid : Prop := fnSorterInvariantUptoRow.holds Try.pinned (OpenSpec.upto fnSorterInvariantSpec)

/-- 'laws.FnSortUnderGrants', WHERE WHAT IT READS IS OF BULK AT MOST 1048576: true; the input reads as it did. -/
def fnSortUnderGrantsUptoRow : OpenClaim := { program := "ytojcojanokhnaaa", sum := "dee8af65d674a322a338796194f444ce27aebe881f1a6399ef59e04ce8d2b0a2", func := "loop.example/g01920/laws.FnSortUnderGrants", spec := "fnSortUnderGrants", unfollowed := true, recurses := true, apart := false, narrowed := true }
def FnSortUnderGrantsUptoSaid : Prop := fnSortUnderGrantsUptoRow.holds Try.pinned (OpenSpec.upto fnSortUnderGrantsSpec)

/-- 'laws.FnExactIsValidSorter', WHERE WHAT IT READS IS OF BULK AT MOST 1048576: true; the input reads as it did. -/
def fnExactIsValidSorterUptoRow : OpenClaim := { program := "ytojcojanokhnaaa", sum := "dee8af65d674a322a338796194f444ce27aebe881f1a6399ef59e04ce8d2b0a2", func := "loop.example/g01920/laws.FnExactIsValidSorter", spec := "fnExactIsValidSorter", unfollowed := true, recurses := true, apart := false, narrowed := true }
def FnExactIsValidSorterUptoSaid : Prop := fnExactIsValidSorterUptoRow.holds Try.pinned (OpenSpec.upto fnExactIsValidSorterSpec)

/-- 'laws.FnExactRemainingRows', WHERE WHAT IT READS IS OF BULK AT MOST 1048576: true; the input reads as it did. -/
def fnExactRemainingRowsUptoRow : OpenClaim := { program := "ytojcojanokhnaaa", sum := "dee8af65d674a322a338796194f444ce27aebe881f1a6399ef59e04ce8d2b0a2", func := "loop.example/g01920/laws.FnExactRemainingRows", spec := "fnExactRemainingRows", unfollowed := true, recurses := true, apart := false, narrowed := true }
def FnExactRemainingRowsUptoSaid : Prop := fnExactRemainingRowsUptoRow.holds Try.pinned (OpenSpec.upto fnExactRemainingRowsSpec)

/-- 'laws.FnRevocation', WHERE WHAT IT READS IS OF BULK AT MOST 1048576: true; the input reads as it did. -/
def fnRevocationUptoRow : OpenClaim := { program := "ytojcojanokhnaaa", sum := "dee8af65d674a322a338796194f444ce27aebe881f1a6399ef59e04ce8d2b0a2", func := "loop.example/g01920/laws.FnRevocation", spec := "fnRevocation", unfollowed := true, recurses := true, apart := false, narrowed := true }
def FnRevocationUptoSaid : Prop := fnRevocationUptoRow.holds Try.pinned (OpenSpec.upto fnRevocationSpec)

/-- 'laws.FnExactStepsToFit', WHERE WHAT IT READS IS OF BULK AT MOST 1048576: true; the input reads as it did. -/
def fnExactStepsToFitUptoRow : OpenClaim := { program := "ytojcojanokhnaaa", sum := "dee8af65d674a322a338796194f444ce27aebe881f1a6399ef59e04ce8d2b0a2", func := "loop.example/g01920/laws.FnExactStepsToFit", spec := "fnExactStepsToFit", unfollowed := true, recurses := true, apart := false, narrowed := true }
def FnExactStepsToFitUptoSaid : Prop := fnExactStepsToFitUptoRow.holds Try.pinned (OpenSpec.upto fnExactStepsToFitSpec)

/-- 'laws.FnExactRunSort', WHERE WHAT IT READS IS OF BULK AT MOST 1048576: true; the input reads as it did. -/
def fnExactRunSortUptoRow : OpenClaim := { program := "ytojcojanokhnaaa", sum := "dee8af65d674a322a338796194f444ce27aebe881f1a6399ef59e04ce8d2b0a2", func := "loop.example/g01920/laws.FnExactRunSort", spec := "fnExactRunSort", unfollowed := true, recurses := true, apart := false, narrowed := true }
def FnExactRunSortUptoSaid : Prop := fnExactRunSortUptoRow.holds Try.pinned (OpenSpec.upto fnExactRunSortSpec)

/-- 'laws.FnExactStepSorter', WHERE WHAT IT READS IS OF BULK AT MOST 1048576: true; the input reads as it did. -/
def fnExactStepSorterUptoRow : OpenClaim := { program := "ytojcojanokhnaaa", sum := "dee8af65d674a322a338796194f444ce27aebe881f1a6399ef59e04ce8d2b0a2", func := "loop.example/g01920/laws.FnExactStepSorter", spec := "fnExactStepSorter", unfollowed := true, recurses := true, apart := false, narrowed := true }
def FnExactStepSorterUptoSaid : Prop := fnExactStepSorterUptoRow.holds Try.pinned (OpenSpec.upto fnExactStepSorterSpec)

end Rows
end Go.Proofs.Ytojcojanokhnaaa
