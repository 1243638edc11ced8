/- The law FnExactAreValidRuns answers true for every input: the program's AreValidRuns returns what the reference's returns. No condition. -/
import Derived.Test.YtngeppmincgebaaPx0
import Derived.Test.YtngeppmincgebaaPx31
import Derived.Test.YtngeppmincgebaaStmtFnExactAreValidRuns
import Derived.Test.YtngeppmincgebaaVRuns
import Derived.Test.YtngeppmincgebaaToRun
namespace Go.Proofs.Ytngeppmincgebaa.Pure
open Go.RowKit Go.Proofs.Ytngeppmincgebaa.P Go.Proofs.Ytngeppmincgebaa.StFnExactAreValidRuns Go.Proofs.YtngeppmincgebaaW.PrintWords Go.Proofs.YtngeppmincgebaaW.PrintLast Go.Proofs.Ytngeppmincgebaa.Opn

theorem FnExactAreValidRuns : StFnExactAreValidRuns.Pure := by
  intro l h
  have ho : ∀ x ∈ l, x.f0.length ≤ 9223372036854775807 := fun x hx => (h.2 x hx).1
  obtain ⟨k, hk⟩ : ∃ k, k = l.length + 1048577 + 1048577 := ⟨_, rfl⟩
  have s0 := szRunS_eq l h.1 ho 1048576 (by omega) (by omega) k (by omega)
  refine ⟨k, ?_⟩
  unfold laws_FnExactAreValidRuns.f
  rw [s0]
  by_cases b0 : (l.length + totN l : Int) ≤ 1048576
  · have ht := totN_bd l
    have hs : ∀ x ∈ l, x.f0.length ≤ 1048576 := fun x hx => by
      have := totN_mem l x hx
      omega
    have hs2 := toRn_small l hs
    have t0 := toRunS_eq l (by omega) hs k (by omega)
    have lm : (l.map toRn).length = l.length := List.length_map _
    have a0 := vRuns_spec (l.map toRn) 1048576 (by omega) (by omega) hs2 k (by omega)
    have a1 := vRuns_impl (l.map toRn) 1048576 (by omega) (by omega) hs2 k (by omega)
    have e0 := eqRunS_self (l.map toRn) (by omega) hs2 k (by omega)
    rw [if_pos b0]
    simp only [Option.bind_some, t0, a0, a1, e0, if_true, bne_self_eq_false, Bool.false_eq_true, if_false]
    rw [if_neg (by omega)]
  · rw [if_neg b0]
    rfl
end Go.Proofs.Ytngeppmincgebaa.Pure
