/- The law FnExactCombineGroups answers true for every input. No condition. -/
import Derived.Test.YtbnlacajjkecdaaStmtFnExactCombineGroups
namespace Go.Proofs.Ytbnlacajjkecdaa.Pure
open Go.RowKit Go.Proofs.Ytbnlacajjkecdaa.P Go.Proofs.YtbnlacajjkecdaaW.PrintWords Go.Proofs.YtbnlacajjkecdaaW.PrintLast Go.Proofs.Ytbnlacajjkecdaa.Opn Go.Proofs.Ytbnlacajjkecdaa.StFnExactCombineGroups

theorem FnExactCombineGroups : StFnExactCombineGroups.Pure := by
  intro x y _ _
  unfold laws_FnExactCombineGroups.f laws_toGroup.f spec_CombineGroups.f impl_CombineGroups.f
  simp only [Option.bind_some]
  split
  all_goals (simp only [Option.bind_some]; unfold laws_eqGroup.f; simp)

end Go.Proofs.Ytbnlacajjkecdaa.Pure
