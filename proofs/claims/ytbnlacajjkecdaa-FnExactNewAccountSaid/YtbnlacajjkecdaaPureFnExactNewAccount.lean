/- The law FnExactNewAccount answers true for every input. No condition. -/
import Derived.Test.YtbnlacajjkecdaaPx4
import Derived.Test.YtbnlacajjkecdaaPuAcct
namespace Go.Proofs.Ytbnlacajjkecdaa.Pure
open Go.RowKit Go.Proofs.Ytbnlacajjkecdaa.P Go.Proofs.YtbnlacajjkecdaaW.PrintWords Go.Proofs.YtbnlacajjkecdaaW.PrintLast

theorem FnExactNewAccount : laws_FnExactNewAccount.Pure := by
  intro a _
  unfold laws_FnExactNewAccount.f spec_NewAccount.f impl_NewAccount.f
  simp only [l1In_eq, isGrant_eq, Option.bind_some]
  split
  all_goals (simp only [Option.bind_some]; unfold laws_eqAccount.f; simp)

end Go.Proofs.Ytbnlacajjkecdaa.Pure
