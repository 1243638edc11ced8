/- The law FnExactFormatGroups answers true for every input: the program's FormatGroups returns what the reference's returns. No condition. -/
import Derived.Test.YtngeppmincgebaaPx0
import Derived.Test.YtngeppmincgebaaPx12
import Derived.Test.YtngeppmincgebaaStmtFnExactFormatGroups
import Derived.Test.YtngeppmincgebaaFmtG
import Derived.Test.YtngeppmincgebaaToGroup
import Derived.Test.YtngeppmincgebaaOkI
namespace Go.Proofs.Ytngeppmincgebaa.Pure
open Go.RowKit Go.Proofs.Ytngeppmincgebaa.P Go.Proofs.Ytngeppmincgebaa.StFnExactFormatGroups Go.Proofs.YtngeppmincgebaaW.PrintWords Go.Proofs.YtngeppmincgebaaW.PrintLast Go.Proofs.Ytngeppmincgebaa.Opn

theorem FnExactFormatGroups : StFnExactFormatGroups.Pure := by
  intro l h
  by_cases b0 : (1048576 : Int) < l.length
  · refine ⟨0, ?_⟩
    unfold laws_FnExactFormatGroups.f
    rw [szGroupS_no l 1048576 (by omega) (by omega) h.1 b0]
    rfl
  have s0 := szGroupS_yes l 1048576 (by omega) (by omega) (by omega)
  have n0 : ¬ ((1048576 : Int) - l.length < 0) := by omega
  have la : (l.map toG).length = l.length := List.length_map _
  have ho : ∀ g ∈ l.map toG, okG g := by
    intro g hg
    obtain ⟨y, hy, rfl⟩ := List.mem_map.1 hg
    obtain ⟨a0, a1, a2, a3, a4⟩ := h.2 y hy
    exact ⟨okI_bd a0, okI_bd a1, okI_bd a2, okI_bd a3, okI_bd a4⟩
  obtain ⟨m, hm⟩ : ∃ m : Nat, m = 10000000 := ⟨_, rfl⟩
  have t0 := toGroupS_eq l (by omega) m (by omega)
  generalize l.map toG = a at *
  have sp := fG_spec a (by omega) ho m (by omega)
  have im := fG_impl a (by omega) ho m (by omega)
  have ea := eqGroupS_self a (by omega) m (by omega)
  refine ⟨m, ?_⟩
  unfold laws_FnExactFormatGroups.f
  simp only [s0, n0, t0, sp, im, ea, Option.bind_some, if_true, if_false]
end Go.Proofs.Ytngeppmincgebaa.Pure
