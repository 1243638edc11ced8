/- The law FnExactNewBroker answers true for every input: the program's NewBroker returns what the reference's returns. No condition. -/
import Derived.Test.YtjlhfemfmkdlhaaPx0
import Derived.Test.YtjlhfemfmkdlhaaPx2
import Derived.Test.YtjlhfemfmkdlhaaPx3
import Derived.Test.YtjlhfemfmkdlhaaPx4
import Derived.Test.YtjlhfemfmkdlhaaPx5
import Derived.Test.YtjlhfemfmkdlhaaBase
namespace Go.Proofs.Ytjlhfemfmkdlhaa.Pure
open Go.RowKit Go.Proofs.Ytjlhfemfmkdlhaa.P Go.Proofs.YtjlhfemfmkdlhaaW.PrintWords Go.Proofs.YtjlhfemfmkdlhaaW.PrintLast

theorem newBroker_both (a : Int) : ∃ x ok, spec_NewBroker.f a = some (x, 0, [], [], ok) ∧ impl_NewBroker.f a = some (x, 0, [], [], ok) := by
  unfold spec_NewBroker.f impl_NewBroker.f spec_l1In.f impl_within.f
  by_cases h : a ≥ 8
  · rw [if_pos h]
    by_cases h2 : a ≤ 120
    · exact ⟨a, true, by simp [h2], by simp [h2]⟩
    · exact ⟨0, false, by simp [h2], by simp [h2]⟩
  · rw [if_neg h]
    exact ⟨0, false, rfl, rfl⟩
theorem FnExactNewBroker : laws_FnExactNewBroker.Pure := by
  intro a _
  obtain ⟨x, ok, h1, h2⟩ := newBroker_both a
  have eq0 : ∀ k, laws_eqBroker.f (k + 1) x 0 [] [] x 0 [] [] = some true := by
    intro k
    unfold laws_eqBroker.f laws_eqClientS.f
    simp [laws_eqClientS.l0]
  have mk0 : ∀ k, laws_markBroker.f (k + 1) x 0 [] [] 1 = some (1, [], []) := by
    intro k
    unfold laws_markBroker.f laws_markClientS.f
    simp [laws_markClientS.l0]
  have hd0 : ∀ k, laws_heldBroker.f (k + 1) x 0 [] [] 1 = some 1 := by
    intro k
    unfold laws_heldBroker.f laws_heldClientS.f
    simp [laws_heldClientS.l0]
  refine ⟨3, ?_⟩
  unfold laws_FnExactNewBroker.f
  simp only [h1, h2, eq0, Option.bind_some, if_true, bne_self_eq_false, laws_FnExactNewBroker.j0, Bool.false_eq_true, if_false, mk0, hd0, laws_FnExactNewBroker.j1]
  simp
end Go.Proofs.Ytjlhfemfmkdlhaa.Pure
