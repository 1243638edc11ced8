/- Plain lemmas: how two rows compare, by the program and by the reference: one function. -/
import Derived.Test.YtngeppmincgebaaPx0
import Derived.Test.YtngeppmincgebaaPx13
import Derived.Test.YtngeppmincgebaaPx15
import Derived.Test.YtngeppmincgebaaBase
namespace Go.Proofs.Ytngeppmincgebaa.Pure
open Go.RowKit Go.Proofs.Ytngeppmincgebaa.P Go.Proofs.YtngeppmincgebaaW.PrintWords Go.Proofs.YtngeppmincgebaaW.PrintLast

def cmpI (a b : Int) : Int := if a < b then -1 else if a > b then 1 else 0
def cmpR (x y : S75) : Int :=
  if cmpI x.f0 y.f0 = 0 then (if cmpI x.f1 y.f1 = 0 then cmpI x.f2 y.f2 else cmpI x.f1 y.f1) else cmpI x.f0 y.f0
theorem order_eq (a b : Int) : impl_order.f a b = some (cmpI a b) := by
  unfold impl_order.f cmpI
  repeat' split
  all_goals rfl
theorem cmp_impl (x y : S75) : impl_CompareRows.f x.f0 x.f1 x.f2 y.f0 y.f1 y.f2 = some (cmpR x y) := by
  unfold impl_CompareRows.f cmpR
  simp only [order_eq, Option.bind_some]
  repeat' split
  all_goals rfl
theorem cmp_spec (x y : S75) (k : Nat) (hk : 4 ≤ k) : spec_CompareRows.f k x.f0 x.f1 x.f2 y.f0 y.f1 y.f2 = some (cmpR x y) := by
  obtain ⟨m, rfl⟩ : ∃ m, k = m + 4 := ⟨k - 4, by omega⟩
  have w0 : wrap64 (0 + 1) = 1 := by unfold wrap64; omega
  have w1 : wrap64 (1 + 1) = 2 := by unfold wrap64; omega
  have w2 : wrap64 (2 + 1) = 3 := by unfold wrap64; omega
  have r0 : ∀ a b c : Int, rd [a, b, c] 0 = a := fun _ _ _ => rfl
  have r1 : ∀ a b c : Int, rd [a, b, c] 1 = b := fun _ _ _ => rfl
  have r2 : ∀ a b c : Int, rd [a, b, c] 2 = c := fun _ _ _ => rfl
  unfold spec_CompareRows.f cmpR cmpI
  simp only [spec_CompareRows.l0, w0, w1, w2, r0, r1, r2, List.length_cons, List.length_nil]
  by_cases a : x.f0 < y.f0
  · simp [a]
  by_cases b : x.f0 > y.f0
  · simp [a, b]
  by_cases c : x.f1 < y.f1
  · simp [a, b, c]
  by_cases d : x.f1 > y.f1
  · simp [a, b, c, d]
  by_cases e : x.f2 < y.f2
  · simp [a, b, c, d, e]
  by_cases f : x.f2 > y.f2
  · simp [a, b, c, d, e, f]
  · simp [a, b, c, d, e, f]
theorem cmp_ev (x y : S75) : Ev (fun k => spec_CompareRows.f k x.f0 x.f1 x.f2 y.f0 y.f1 y.f2) (cmpR x y) := ⟨4, fun k hk => cmp_spec x y k hk⟩
theorem cmpI_anti (a b : Int) : cmpI b a = -cmpI a b := by
  unfold cmpI
  repeat' split
  all_goals omega
theorem cmpI_zero (a b : Int) (h : cmpI a b = 0) : a = b := by
  unfold cmpI at h
  repeat' split at h
  all_goals omega
theorem cmpI_self (a : Int) : cmpI a a = 0 := by
  unfold cmpI
  rw [if_neg (by omega), if_neg (by omega)]
theorem cmpI_range (a b : Int) : cmpI a b = -1 ∨ cmpI a b = 0 ∨ cmpI a b = 1 := by
  unfold cmpI
  repeat' split
  all_goals omega
theorem cmpR_anti (x y : S75) : cmpR y x = -cmpR x y := by
  unfold cmpR
  simp only [cmpI_anti x.f0 y.f0, cmpI_anti x.f1 y.f1, cmpI_anti x.f2 y.f2]
  repeat' split
  all_goals omega
theorem cmpR_zero (x y : S75) (h : cmpR x y = 0) : x = y := by
  unfold cmpR at h
  split at h
  · split at h
    · obtain ⟨a, b, c⟩ := x
      obtain ⟨d, e, f⟩ := y
      simp only at *
      have h0 := cmpI_zero a d ‹_›
      have h1 := cmpI_zero b e ‹_›
      have h2 := cmpI_zero c f h
      subst h0 h1 h2
      rfl
    · contradiction
  · contradiction
theorem cmpR_self (x : S75) : cmpR x x = 0 := by
  unfold cmpR
  rw [if_pos (cmpI_self _), if_pos (cmpI_self _), cmpI_self]
theorem cmpR_range (x y : S75) : cmpR x y = -1 ∨ cmpR x y = 0 ∨ cmpR x y = 1 := by
  unfold cmpR
  have := cmpI_range x.f0 y.f0
  have := cmpI_range x.f1 y.f1
  have := cmpI_range x.f2 y.f2
  repeat' split
  all_goals omega
theorem cmpI_eq (a b : Int) : cmpI a b = 0 ↔ a = b := ⟨cmpI_zero a b, fun h => h ▸ cmpI_self a⟩
theorem cmpI_le (a b : Int) : cmpI a b ≤ 0 ↔ a ≤ b := by
  unfold cmpI
  repeat' split
  all_goals omega
theorem cmpR_le (x y : S75) : cmpR x y ≤ 0 ↔ (x.f0 < y.f0 ∨ (x.f0 = y.f0 ∧ (x.f1 < y.f1 ∨ (x.f1 = y.f1 ∧ x.f2 ≤ y.f2)))) := by
  unfold cmpR
  have a0 := cmpI_eq x.f0 y.f0
  have a1 := cmpI_eq x.f1 y.f1
  have l0 := cmpI_le x.f0 y.f0
  have l1 := cmpI_le x.f1 y.f1
  have l2 := cmpI_le x.f2 y.f2
  split
  · split
    · omega
    · omega
  · omega
theorem cmpR_trans (x y z : S75) (h1 : cmpR x y ≤ 0) (h2 : cmpR y z ≤ 0) : cmpR x z ≤ 0 := by
  rw [cmpR_le] at *
  omega
theorem cmpR_total (x y : S75) : cmpR x y ≤ 0 ∨ cmpR y x ≤ 0 := by
  have := cmpR_anti x y
  omega
end Go.Proofs.Ytngeppmincgebaa.Pure
