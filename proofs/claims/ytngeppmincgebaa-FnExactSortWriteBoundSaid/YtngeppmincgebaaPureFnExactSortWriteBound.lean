/- The law FnExactSortWriteBound answers true for every input: the program's cost of rows and number of passes are the reference's. No condition. -/
import Derived.Test.YtngeppmincgebaaPx0
import Derived.Test.YtngeppmincgebaaPx2
import Derived.Test.YtngeppmincgebaaPx3
import Derived.Test.YtngeppmincgebaaPx5
import Derived.Test.YtngeppmincgebaaStmtFnExactSortWriteBound
import Derived.Test.YtngeppmincgebaaCost
import Derived.Test.YtngeppmincgebaaToRow
namespace Go.Proofs.Ytngeppmincgebaa.Pure
open Go.RowKit Go.Proofs.Ytngeppmincgebaa.P Go.Proofs.Ytngeppmincgebaa.StFnExactSortWriteBound Go.Proofs.YtngeppmincgebaaW.PrintWords Go.Proofs.YtngeppmincgebaaW.PrintLast Go.Proofs.Ytngeppmincgebaa.Opn

theorem passes_same (k : Nat) : ∀ x y z, impl_MergePasses.l0 k x y z = spec_MergePasses.l0 k x y z := by
  induction k with
  | zero => intro x y z; rfl
  | succ k ih => intro x y z; simp only [impl_MergePasses.l0, spec_MergePasses.l0, ih]
theorem passes_end (d : Nat) : ∀ (k : Nat) (a x3 x4 : Int), 0 ≤ x3 → x3 ≤ 40 → 40 - x3 = d → d < k → ∃ r, spec_MergePasses.l0 k a x3 x4 = some r := by
  induction d with
  | zero =>
    intro k a x3 x4 h0 h1 hd hk
    obtain ⟨k, rfl⟩ : ∃ m, k = m + 1 := ⟨k - 1, by omega⟩
    simp only [spec_MergePasses.l0]
    split
    · rw [if_neg (by omega)]; exact ⟨_, rfl⟩
    · exact ⟨_, rfl⟩
  | succ d ih =>
    intro k a x3 x4 h0 h1 hd hk
    obtain ⟨k, rfl⟩ : ∃ m, k = m + 1 := ⟨k - 1, by omega⟩
    simp only [spec_MergePasses.l0]
    split
    · rw [if_pos (by omega), show wrap64 (x3 + 1) = x3 + 1 by unfold wrap64; omega]
      exact ih k a _ _ (by omega) (by omega) (by omega) (by omega)
    · exact ⟨_, rfl⟩
theorem FnExactSortWriteBound : StFnExactSortWriteBound.Pure := by
  intro l hl
  by_cases hb : (1048576 : Int) < l.length
  · refine ⟨0, ?_⟩
    unfold laws_FnExactSortWriteBound.f
    rw [szRowS_no l 1048576 (by omega) (by omega) hl.1 hb]
    rfl
  · have hs := szRowS_yes l 1048576 (by omega) (by omega) (by omega)
    have hm : (l.map toR).length = l.length := List.length_map _
    obtain ⟨K, hK⟩ : ∃ K, K = l.length + 50 := ⟨_, rfl⟩
    have h1 := toRowS_eq l (by omega) K (by omega)
    have h2 := tot_spec (l.map toR) (by omega) K (by omega)
    have h3 := tot_impl (l.map toR) (by omega) K (by omega)
    obtain ⟨r, hr⟩ := passes_end 40 K ((l.map toR).length : Int) 0 1 (by omega) (by omega) (by omega) (by omega)
    have h4 : spec_MergePasses.f K ((l.map toR).length : Int) = some r := hr
    have h5 : impl_MergePasses.f K ((l.map toR).length : Int) = some r := by unfold impl_MergePasses.f; rw [passes_same]; exact hr
    have h6 := eqRowS_self (l.map toR) (by omega) K (by omega)
    refine ⟨K, ?_⟩
    unfold laws_FnExactSortWriteBound.f spec_SortWriteBound.f impl_SortWriteBound.f
    rw [hs]
    simp only [Option.bind_some, h1, h2, h3, h4, h5, h6]
    rw [if_neg (by omega)]
    simp
end Go.Proofs.Ytngeppmincgebaa.Pure
