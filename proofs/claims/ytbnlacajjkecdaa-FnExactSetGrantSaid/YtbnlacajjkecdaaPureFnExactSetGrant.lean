/- The law FnExactSetGrant answers true for every input. No condition. -/
import Derived.Test.YtbnlacajjkecdaaPx0
import Derived.Test.YtbnlacajjkecdaaPx13
import Derived.Test.YtbnlacajjkecdaaPx23
import Derived.Test.YtbnlacajjkecdaaPx24
import Derived.Test.YtbnlacajjkecdaaPx25
import Derived.Test.YtbnlacajjkecdaaPx5
import Derived.Test.YtbnlacajjkecdaaStmtFnExactSetGrant
import Derived.Test.YtbnlacajjkecdaaPuAcct
namespace Go.Proofs.Ytbnlacajjkecdaa.Pure
open Go.RowKit Go.Proofs.Ytbnlacajjkecdaa.P Go.Proofs.YtbnlacajjkecdaaW.PrintWords Go.Proofs.YtbnlacajjkecdaaW.PrintLast Go.Proofs.Ytbnlacajjkecdaa.Opn Go.Proofs.Ytbnlacajjkecdaa.StFnExactSetGrant

theorem FnExactSetGrant : StFnExactSetGrant.Pure := by
  intro x n _ _
  have e : impl_SetGrant.f x.f0 x.f1 x.f2 x.f3 n = spec_SetGrant.f x.f0 x.f1 x.f2 x.f3 n := by
    unfold spec_SetGrant.f impl_SetGrant.f
    simp only [specAcct_eq, implAcct_eq, isGrant_eq, l1In_eq, Option.bind_some]
  obtain ⟨r, hr⟩ : ∃ r, spec_SetGrant.f x.f0 x.f1 x.f2 x.f3 n = some r := by
    unfold spec_SetGrant.f
    simp only [specAcct_eq, l1In_eq, Option.bind_some]
    repeat' split
    all_goals exact ⟨_, rfl⟩
  unfold laws_FnExactSetGrant.f laws_toAccount.f
  simp only [Option.bind_some, e, hr]
  unfold laws_eqAccount.f
  simp

end Go.Proofs.Ytbnlacajjkecdaa.Pure
