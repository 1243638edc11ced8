/- The law FnExactMergePasses answers true for every input: the program's MergePasses and the reference's go the same rounds. No condition. -/
import Derived.Test.YtbnlacajjkecdaaPx1
namespace Go.Proofs.Ytbnlacajjkecdaa.Pure
open Go.RowKit Go.Proofs.Ytbnlacajjkecdaa.P Go.Proofs.YtbnlacajjkecdaaW.PrintWords Go.Proofs.YtbnlacajjkecdaaW.PrintLast

theorem passes_same (k : Nat) : ∀ x y z, impl_MergePasses.l0 k x y z = spec_MergePasses.l0 k x y z := by
  induction k with
  | zero => intro x y z; rfl
  | succ k ih => intro x y z; simp only [impl_MergePasses.l0, spec_MergePasses.l0, ih]

theorem passes_end (d : Nat) : ∀ (k : Nat) (a x3 x4 : Int), 0 ≤ x3 → x3 ≤ 40 → 40 - x3 = d → d < k → ∃ r, spec_MergePasses.l0 k a x3 x4 = some r := by
  induction d with
  | zero =>
    intro k a x3 x4 h0 h1 hd hk
    obtain ⟨k, rfl⟩ : ∃ m, k = m + 1 := ⟨k - 1, by omega⟩
    simp only [spec_MergePasses.l0]
    split
    · rw [if_neg (by omega)]; exact ⟨_, rfl⟩
    · exact ⟨_, rfl⟩
  | succ d ih =>
    intro k a x3 x4 h0 h1 hd hk
    obtain ⟨k, rfl⟩ : ∃ m, k = m + 1 := ⟨k - 1, by omega⟩
    simp only [spec_MergePasses.l0]
    split
    · rw [if_pos (by omega), show wrap64 (x3 + 1) = x3 + 1 by unfold wrap64; omega]
      exact ih k a _ _ (by omega) (by omega) (by omega) (by omega)
    · exact ⟨_, rfl⟩

theorem FnExactMergePasses : laws_FnExactMergePasses.Pure := by
  intro a _
  obtain ⟨r, hr⟩ := passes_end 40 41 a 0 1 (by omega) (by omega) (by omega) (by omega)
  refine ⟨41, ?_⟩
  have h2 : impl_MergePasses.f 41 a = some r := by unfold impl_MergePasses.f; rw [passes_same]; exact hr
  unfold laws_FnExactMergePasses.f
  rw [show spec_MergePasses.f 41 a = some r from hr]
  simp only [Option.bind_some]
  rw [h2]
  simp

end Go.Proofs.Ytbnlacajjkecdaa.Pure
