/- The law FnExactExcess answers true for every input. No condition. -/
import Derived.Test.YtbnlacajjkecdaaStmtFnExactExcess
import Derived.Test.YtbnlacajjkecdaaPuAcct
namespace Go.Proofs.Ytbnlacajjkecdaa.Pure
open Go.RowKit Go.Proofs.Ytbnlacajjkecdaa.P Go.Proofs.YtbnlacajjkecdaaW.PrintWords Go.Proofs.YtbnlacajjkecdaaW.PrintLast Go.Proofs.Ytbnlacajjkecdaa.Opn Go.Proofs.Ytbnlacajjkecdaa.StFnExactExcess

theorem FnExactExcess : StFnExactExcess.Pure := by
  intro x _
  unfold laws_FnExactExcess.f laws_toAccount.f spec_Excess.f impl_Excess.f
  simp only [specAcct_eq, implAcct_eq, Option.bind_some]
  cases vAcct x.f0 x.f1 x.f2 x.f3 <;> simp

end Go.Proofs.Ytbnlacajjkecdaa.Pure
