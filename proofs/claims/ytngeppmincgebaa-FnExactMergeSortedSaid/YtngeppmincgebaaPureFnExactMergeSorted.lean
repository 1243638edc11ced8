/- The law FnExactMergeSorted answers true for every input: the program's MergeSorted returns what the reference's returns. No condition. -/
import Derived.Test.YtngeppmincgebaaPx0
import Derived.Test.YtngeppmincgebaaPx18
import Derived.Test.YtngeppmincgebaaStmtFnExactMergeSorted
import Derived.Test.YtngeppmincgebaaMrgS
import Derived.Test.YtngeppmincgebaaMark
import Derived.Test.YtngeppmincgebaaToRow
namespace Go.Proofs.Ytngeppmincgebaa.Pure
open Go.RowKit Go.Proofs.Ytngeppmincgebaa.P Go.Proofs.Ytngeppmincgebaa.StFnExactMergeSorted Go.Proofs.YtngeppmincgebaaW.PrintWords Go.Proofs.YtngeppmincgebaaW.PrintLast Go.Proofs.Ytngeppmincgebaa.Opn

theorem FnExactMergeSorted : StFnExactMergeSorted.Pure := by
  intro l0 l1 h0 h1
  by_cases b0 : (1048576 : Int) < l0.length
  · refine ⟨0, ?_⟩
    unfold laws_FnExactMergeSorted.f
    rw [szRowS_no l0 1048576 (by omega) (by omega) h0.1 b0]
    rfl
  have s0 := szRowS_yes l0 1048576 (by omega) (by omega) (by omega)
  have n0 : ¬ ((1048576 : Int) - l0.length < 0) := by omega
  by_cases b1 : (1048576 : Int) - l0.length < l1.length
  · refine ⟨0, ?_⟩
    unfold laws_FnExactMergeSorted.f
    simp only [s0, Option.bind_some, n0, if_false]
    rw [szRowS_no l1 _ (by omega) (by omega) h1.1 b1]
    rfl
  have s1 := szRowS_yes l1 (1048576 - l0.length) (by omega) (by omega) (by omega)
  have n1 : ¬ ((1048576 : Int) - l0.length - l1.length < 0) := by omega
  have la : (l0.map toR).length = l0.length := List.length_map _
  have lb : (l1.map toR).length = l1.length := List.length_map _
  obtain ⟨m, hm⟩ : ∃ m, m = 2 * (l0.length + l1.length) + 20 := ⟨_, rfl⟩
  have t0 := fun k hk => toRowS_eq l0 (by omega) k hk
  have t1 := fun k hk => toRowS_eq l1 (by omega) k hk
  generalize l0.map toR = a at *
  generalize l1.map toR = b at *
  have lm : (mrg a b).length = l0.length + l1.length := by rw [mrg_len, la, lb]
  have sp := mrg_spec a b (by omega) (m + 1) (by omega)
  have im := mrg_impl a b (by omega) (m + 1) (by omega)
  have im2 := mrg_impl a b (by omega) m (by omega)
  have ea := eqRowS_self a (by omega) (m + 1) (by omega)
  have eb := eqRowS_self b (by omega) (m + 1) (by omega)
  have em := eqRowS_self (mrg a b) (by omega) (m + 1) (by omega)
  have em2 := eqRowS_self (mrg a b) (by omega) m (by omega)
  have ma := mark_eq a (by omega) 1 (by omega) (by omega) (m + 1) (by omega)
  have mb := mark_eq b (by omega) (1 + 3 * a.length) (by omega) (by omega) (m + 1) (by omega)
  have mm := mark_eq (mrg a b) (by omega) 1 (by omega) (by omega) m (by omega)
  have hd := held_eq 1 (mrg a b).length (by omega) (by omega) (by omega) m (by omega)
  have c1 : ¬ ((1 + 3 * a.length : Int) + 3 * b.length < 0) := by omega
  have c2 : ¬ ((1 : Int) + 3 * (mrg a b).length < 0) := by omega
  refine ⟨m + 1, ?_⟩
  unfold laws_FnExactMergeSorted.f
  simp only [s0, s1, n0, n1, t0 (m + 1) (by omega), t1 (m + 1) (by omega), sp, im, ea, eb, em, ma, mb, c1, Option.bind_some, if_true, if_false, Bool.not_true]
  simp only [laws_FnExactMergeSorted.j0, mm, hd, c2, t0 m (by omega), t1 m (by omega), im2, em2, Option.bind_some, if_true, if_false, Bool.false_eq_true]
end Go.Proofs.Ytngeppmincgebaa.Pure
