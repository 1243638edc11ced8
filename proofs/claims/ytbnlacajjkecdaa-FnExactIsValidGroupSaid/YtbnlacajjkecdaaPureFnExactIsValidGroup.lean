/- The law FnExactIsValidGroup answers true for every input. No condition. -/
import Derived.Test.YtbnlacajjkecdaaStmtFnExactIsValidGroup
import Derived.Test.YtbnlacajjkecdaaPuAcct
namespace Go.Proofs.Ytbnlacajjkecdaa.Pure
open Go.RowKit Go.Proofs.Ytbnlacajjkecdaa.P Go.Proofs.YtbnlacajjkecdaaW.PrintWords Go.Proofs.YtbnlacajjkecdaaW.PrintLast Go.Proofs.Ytbnlacajjkecdaa.Opn Go.Proofs.Ytbnlacajjkecdaa.StFnExactIsValidGroup

theorem FnExactIsValidGroup : StFnExactIsValidGroup.Pure := by
  intro x _
  have e : impl_IsValidGroup.f x.f0 x.f1 x.f2 x.f3 x.f4 = spec_IsValidGroup.f x.f0 x.f1 x.f2 x.f3 x.f4 := by
    unfold impl_IsValidGroup.f spec_IsValidGroup.f
    simp only [within_same, l1In_eq, Option.bind_some, decide_eq_true_eq, Int.mul_comm x.f1]
    repeat' split
    all_goals first | rfl | (exfalso; omega) | (congr 1; simp only [Bool.false_eq, decide_eq_false_iff_not, decide_eq_decide]; omega)
  obtain ⟨r, hr⟩ : ∃ r, spec_IsValidGroup.f x.f0 x.f1 x.f2 x.f3 x.f4 = some r := by
    unfold spec_IsValidGroup.f
    simp only [l1In_eq, Option.bind_some]
    repeat' split
    all_goals exact ⟨_, rfl⟩
  unfold laws_FnExactIsValidGroup.f laws_toGroup.f
  simp only [Option.bind_some, e, hr]
  simp

end Go.Proofs.Ytbnlacajjkecdaa.Pure
