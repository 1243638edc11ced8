/- The law FnExactReferenceJoin answers true for every input: the program's ReferenceJoin returns what the reference's returns. No condition. -/
import Derived.Test.YtngeppmincgebaaPx0
import Derived.Test.YtngeppmincgebaaPx38
import Derived.Test.YtngeppmincgebaaStmtFnExactReferenceJoin
import Derived.Test.YtngeppmincgebaaJoin
import Derived.Test.YtngeppmincgebaaMark
import Derived.Test.YtngeppmincgebaaMarkP
import Derived.Test.YtngeppmincgebaaToRow
import Derived.Test.YtngeppmincgebaaToPair
namespace Go.Proofs.Ytngeppmincgebaa.Pure
open Go.RowKit Go.Proofs.Ytngeppmincgebaa.P Go.Proofs.Ytngeppmincgebaa.StFnExactReferenceJoin Go.Proofs.YtngeppmincgebaaW.PrintWords Go.Proofs.YtngeppmincgebaaW.PrintLast Go.Proofs.Ytngeppmincgebaa.Opn

theorem FnExactReferenceJoin : StFnExactReferenceJoin.Pure := by
  intro x l0 l1 hx h0 h1
  by_cases b0 : (1048576 : Int) < l0.length
  · refine ⟨0, ?_⟩
    unfold laws_FnExactReferenceJoin.f
    rw [szRowS_no l0 1048576 (by omega) (by omega) h0.1 b0]
    rfl
  have s0 := szRowS_yes l0 1048576 (by omega) (by omega) (by omega)
  have n0 : ¬ ((1048576 : Int) - l0.length < 0) := by omega
  by_cases b1 : (1048576 : Int) - l0.length < l1.length
  · refine ⟨0, ?_⟩
    unfold laws_FnExactReferenceJoin.f
    simp only [s0, Option.bind_some, n0, if_false]
    rw [szRowS_no l1 _ (by omega) (by omega) h1.1 b1]
    rfl
  have s1 := szRowS_yes l1 (1048576 - l0.length) (by omega) (by omega) (by omega)
  have n1 : ¬ ((1048576 : Int) - l0.length - l1.length < 0) := by omega
  have la : (l0.map toR).length = l0.length := List.length_map _
  have lb : (l1.map toR).length = l1.length := List.length_map _
  obtain ⟨m, hm⟩ : ∃ m : Nat, m = 10000000000000 := ⟨_, rfl⟩
  have t0 := fun k hk => toRowS_eq l0 (by omega) k hk
  have t1 := fun k hk => toRowS_eq l1 (by omega) k hk
  generalize l0.map toR = a at *
  generalize l1.map toR = b at *
  have p1 : a.length * (b.length + 1) ≤ 1048576 * 1048577 := Nat.mul_le_mul (by omega) (by omega)
  have p3 : a.length * (b.length + 3) ≤ 1048576 * 1048579 := Nat.mul_le_mul (by omega) (by omega)
  have lm : (jn x a b).length ≤ 1048576 * 1048577 := Nat.le_trans (jn_le x a b) p1
  have sp := jn_spec x a b (by omega) (by omega) (by omega) (m + 1) (by omega)
  have im := jn_impl x a b (by omega) (by omega) (by omega) (m + 1) (by omega)
  have im2 := jn_impl x a b (by omega) (by omega) (by omega) m (by omega)
  have ea := eqRowS_self a (by omega) (m + 1) (by omega)
  have eb := eqRowS_self b (by omega) (m + 1) (by omega)
  have em := eqPairS_self (jn x a b) (by omega) (m + 1) (by omega)
  have em2 := eqPairS_self (jn x a b) (by omega) m (by omega)
  have ma := mark_eq a (by omega) 1 (by omega) (by omega) (m + 1) (by omega)
  have mb := mark_eq b (by omega) (1 + 3 * a.length) (by omega) (by omega) (m + 1) (by omega)
  have mm := markP_eq (jn x a b) (by omega) 1 (by omega) (by omega) m (by omega)
  have hd := heldP_eq 1 (jn x a b).length (by omega) (by omega) (by omega) m (by omega)
  have c1 : ¬ ((1 + 3 * a.length : Int) + 3 * b.length < 0) := by omega
  have c2 : ¬ ((1 : Int) + 7 * (jn x a b).length < 0) := by omega
  refine ⟨m + 1, ?_⟩
  unfold laws_FnExactReferenceJoin.f
  simp only [s0, s1, n0, n1, t0 (m + 1) (by omega), t1 (m + 1) (by omega), sp, im, ea, eb, em, ma, mb, c1, Option.bind_some, if_true, if_false, Bool.not_true]
  simp only [laws_FnExactReferenceJoin.j0, mm, hd, c2, t0 m (by omega), t1 m (by omega), im2, em2, Option.bind_some, if_true, if_false, Bool.false_eq_true]
end Go.Proofs.Ytngeppmincgebaa.Pure
