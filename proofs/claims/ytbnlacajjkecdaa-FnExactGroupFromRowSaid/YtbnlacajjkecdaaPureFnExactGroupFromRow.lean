/- The law FnExactGroupFromRow answers true for every input. No condition. -/
import Derived.Test.YtbnlacajjkecdaaStmtFnExactGroupFromRow
namespace Go.Proofs.Ytbnlacajjkecdaa.Pure
open Go.RowKit Go.Proofs.Ytbnlacajjkecdaa.P Go.Proofs.YtbnlacajjkecdaaW.PrintWords Go.Proofs.YtbnlacajjkecdaaW.PrintLast Go.Proofs.Ytbnlacajjkecdaa.Opn Go.Proofs.Ytbnlacajjkecdaa.StFnExactGroupFromRow

theorem FnExactGroupFromRow : StFnExactGroupFromRow.Pure := by
  intro x _
  unfold laws_FnExactGroupFromRow.f laws_toRow.f spec_GroupFromRow.f impl_GroupFromRow.f laws_eqGroup.f
  simp

end Go.Proofs.Ytbnlacajjkecdaa.Pure
