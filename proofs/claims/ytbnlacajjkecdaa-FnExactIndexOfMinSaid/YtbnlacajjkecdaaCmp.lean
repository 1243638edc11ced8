/- Plain lemmas: how two rows compare, by the program and by the reference: one function. -/
import Derived.Test.YtbnlacajjkecdaaPx0
import Derived.Test.YtbnlacajjkecdaaPx26
import Derived.Test.YtbnlacajjkecdaaPx28
namespace Go.Proofs.Ytbnlacajjkecdaa.Pure
open Go.RowKit Go.Proofs.Ytbnlacajjkecdaa.P Go.Proofs.YtbnlacajjkecdaaW.PrintWords Go.Proofs.YtbnlacajjkecdaaW.PrintLast

def cmpI (a b : Int) : Int := if a < b then -1 else if a > b then 1 else 0
def cmpR (x y : S39) : Int :=
  if cmpI x.f0 y.f0 = 0 then (if cmpI x.f1 y.f1 = 0 then cmpI x.f2 y.f2 else cmpI x.f1 y.f1) else cmpI x.f0 y.f0
theorem order_eq (a b : Int) : impl_order.f a b = some (cmpI a b) := by
  unfold impl_order.f cmpI
  repeat' split
  all_goals rfl
theorem cmp_impl (x y : S39) : impl_CompareRows.f x.f0 x.f1 x.f2 y.f0 y.f1 y.f2 = some (cmpR x y) := by
  unfold impl_CompareRows.f cmpR
  simp only [order_eq, Option.bind_some]
  repeat' split
  all_goals rfl
theorem cmp_spec (x y : S39) (k : Nat) (hk : 4 ≤ k) : spec_CompareRows.f k x.f0 x.f1 x.f2 y.f0 y.f1 y.f2 = some (cmpR x y) := by
  obtain ⟨m, rfl⟩ : ∃ m, k = m + 4 := ⟨k - 4, by omega⟩
  have w0 : wrap64 (0 + 1) = 1 := by unfold wrap64; omega
  have w1 : wrap64 (1 + 1) = 2 := by unfold wrap64; omega
  have w2 : wrap64 (2 + 1) = 3 := by unfold wrap64; omega
  have r0 : ∀ a b c : Int, rd [a, b, c] 0 = a := fun _ _ _ => rfl
  have r1 : ∀ a b c : Int, rd [a, b, c] 1 = b := fun _ _ _ => rfl
  have r2 : ∀ a b c : Int, rd [a, b, c] 2 = c := fun _ _ _ => rfl
  unfold spec_CompareRows.f cmpR cmpI
  simp only [spec_CompareRows.l0, w0, w1, w2, r0, r1, r2, List.length_cons, List.length_nil]
  by_cases a : x.f0 < y.f0
  · simp [a]
  by_cases b : x.f0 > y.f0
  · simp [a, b]
  by_cases c : x.f1 < y.f1
  · simp [a, b, c]
  by_cases d : x.f1 > y.f1
  · simp [a, b, c, d]
  by_cases e : x.f2 < y.f2
  · simp [a, b, c, d, e]
  by_cases f : x.f2 > y.f2
  · simp [a, b, c, d, e, f]
  · simp [a, b, c, d, e, f]
theorem cmp_ev (x y : S39) : Ev (fun k => spec_CompareRows.f k x.f0 x.f1 x.f2 y.f0 y.f1 y.f2) (cmpR x y) := ⟨4, fun k hk => cmp_spec x y k hk⟩
end Go.Proofs.Ytbnlacajjkecdaa.Pure
