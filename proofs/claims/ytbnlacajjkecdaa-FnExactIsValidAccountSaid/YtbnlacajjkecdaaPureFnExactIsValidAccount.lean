/- The law FnExactIsValidAccount answers true for every input. No condition. -/
import Derived.Test.YtbnlacajjkecdaaStmtFnExactIsValidAccount
import Derived.Test.YtbnlacajjkecdaaPuAcct
namespace Go.Proofs.Ytbnlacajjkecdaa.Pure
open Go.RowKit Go.Proofs.Ytbnlacajjkecdaa.P Go.Proofs.YtbnlacajjkecdaaW.PrintWords Go.Proofs.YtbnlacajjkecdaaW.PrintLast Go.Proofs.Ytbnlacajjkecdaa.Opn Go.Proofs.Ytbnlacajjkecdaa.StFnExactIsValidAccount

theorem FnExactIsValidAccount : StFnExactIsValidAccount.Pure := by
  intro x _
  unfold laws_FnExactIsValidAccount.f laws_toAccount.f
  simp [specAcct_eq, implAcct_eq]

end Go.Proofs.Ytbnlacajjkecdaa.Pure
