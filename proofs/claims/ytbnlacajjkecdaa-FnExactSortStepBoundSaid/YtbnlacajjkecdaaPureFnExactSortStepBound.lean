/- The law FnExactSortStepBound answers true for every input. No condition. -/
import Derived.Test.YtbnlacajjkecdaaPx3
import Derived.Test.YtbnlacajjkecdaaPureFnExactMergePasses
namespace Go.Proofs.Ytbnlacajjkecdaa.Pure
open Go.RowKit Go.Proofs.Ytbnlacajjkecdaa.P Go.Proofs.YtbnlacajjkecdaaW.PrintWords Go.Proofs.YtbnlacajjkecdaaW.PrintLast

theorem FnExactSortStepBound : laws_FnExactSortStepBound.Pure := by
  intro a _
  obtain ⟨r, hr⟩ := passes_end 40 41 a 0 1 (by omega) (by omega) (by omega) (by omega)
  have h1 : spec_MergePasses.f 41 a = some r := hr
  have h2 : impl_MergePasses.f 41 a = some r := by unfold impl_MergePasses.f; rw [passes_same]; exact hr
  refine ⟨41, ?_⟩
  unfold laws_FnExactSortStepBound.f spec_SortStepBound.f impl_SortStepBound.f
  simp only [h1, h2, Option.bind_some]
  split <;> simp

end Go.Proofs.Ytbnlacajjkecdaa.Pure
