/- Plain lemmas: which rows are valid, what they cost. -/
import Derived.Test.YtngeppmincgebaaPx0
import Derived.Test.YtngeppmincgebaaPx2
import Derived.Test.YtngeppmincgebaaPx3
import Derived.Test.YtngeppmincgebaaBase
namespace Go.Proofs.Ytngeppmincgebaa.Pure
open Go.RowKit Go.Proofs.Ytngeppmincgebaa.P Go.Proofs.YtngeppmincgebaaW.PrintWords Go.Proofs.YtngeppmincgebaaW.PrintLast

theorem within_in (a b c : Int) : impl_within.f a b c = some (decide (b ≤ a ∧ a ≤ c)) := by
  unfold impl_within.f
  by_cases h : a ≥ b
  · rw [if_pos h]
    simp [h]
  · rw [if_neg h]
    simp [h]
theorem l1In_in (a b c : Int) : spec_l1In.f a b c = some (decide (b ≤ a ∧ a ≤ c)) := by
  unfold spec_l1In.f
  by_cases h : a ≥ b
  · rw [if_pos h]
    simp [h]
  · rw [if_neg h]
    simp [h]
def vRow (x : S75) : Bool := decide (0 ≤ x.f0 ∧ x.f0 ≤ 9 ∧ 0 ≤ x.f1 ∧ x.f1 ≤ 99 ∧ 0 ≤ x.f2 ∧ x.f2 ≤ 3)
theorem vRow_impl (x : S75) : impl_IsValidRow.f x.f0 x.f1 x.f2 = some (vRow x) := by
  unfold impl_IsValidRow.f vRow
  simp only [within_in, Option.bind_some, decide_eq_true_eq]
  repeat' split
  all_goals (congr 1; simp only [Bool.false_eq, decide_eq_false_iff_not, decide_eq_decide]; omega)
theorem vRow_spec (x : S75) : spec_IsValidRow.f x.f0 x.f1 x.f2 = some (vRow x) := by
  unfold spec_IsValidRow.f vRow
  simp only [l1In_in, Option.bind_some, decide_eq_true_eq]
  repeat' split
  all_goals (congr 1; simp only [Bool.false_eq, decide_eq_false_iff_not, decide_eq_decide]; omega)
theorem vRow_iff (x : S75) : vRow x = true ↔ (0 ≤ x.f0 ∧ x.f0 ≤ 9 ∧ 0 ≤ x.f1 ∧ x.f1 ≤ 99 ∧ 0 ≤ x.f2 ∧ x.f2 ≤ 3) := by
  unfold vRow
  exact decide_eq_true_iff
end Go.Proofs.Ytngeppmincgebaa.Pure
