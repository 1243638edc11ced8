/- Plain lemmas on the account functions: the program's validity test and the reference's are one. -/
import Derived.Test.YtbnlacajjkecdaaPx0
import Derived.Test.YtbnlacajjkecdaaPx3
import Derived.Test.YtbnlacajjkecdaaPx5
namespace Go.Proofs.Ytbnlacajjkecdaa.Pure
open Go.RowKit Go.Proofs.Ytbnlacajjkecdaa.P Go.Proofs.YtbnlacajjkecdaaW.PrintWords Go.Proofs.YtbnlacajjkecdaaW.PrintLast

theorem within_same (a b c : Int) : impl_within.f a b c = spec_l1In.f a b c := rfl
theorem l1In_eq (a b c : Int) : spec_l1In.f a b c = some (decide (b ≤ a ∧ a ≤ c)) := by
  unfold spec_l1In.f
  by_cases h : a ≥ b
  · rw [if_pos h]
    simp [h]
  · rw [if_neg h]
    simp [h]
theorem isGrant_eq (a : Int) : impl_isGrant.f a = some (decide (8 ≤ a ∧ a ≤ 60)) := by
  unfold impl_isGrant.f
  rw [within_same, l1In_eq]
  rfl
/-- What a valid account is. -/
def vAcct (a b c d : Int) : Bool := decide (8 ≤ b ∧ b ≤ 60 ∧ 0 ≤ a ∧ a ≤ c ∧ c ≤ 60 ∧ 0 ≤ d ∧ d ≤ 1000)
theorem specAcct_eq (a b c d : Int) : spec_IsValidAccount.f a b c d = some (vAcct a b c d) := by
  unfold spec_IsValidAccount.f vAcct
  simp only [l1In_eq, Option.bind_some, decide_eq_true_eq]
  repeat' split
  all_goals (congr 1; simp only [Bool.false_eq, decide_eq_false_iff_not, decide_eq_decide]; omega)
theorem implAcct_eq (a b c d : Int) : impl_IsValidAccount.f a b c d = some (vAcct a b c d) := by
  unfold impl_IsValidAccount.f vAcct
  simp only [isGrant_eq, within_same, l1In_eq, Option.bind_some, decide_eq_true_eq]
  repeat' split
  all_goals (congr 1; simp only [Bool.false_eq, decide_eq_false_iff_not, decide_eq_decide]; omega)
end Go.Proofs.Ytbnlacajjkecdaa.Pure
