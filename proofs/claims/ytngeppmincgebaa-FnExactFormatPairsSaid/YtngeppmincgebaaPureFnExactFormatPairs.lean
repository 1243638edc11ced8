/- The law FnExactFormatPairs answers true for every input: the program's FormatPairs returns what the reference's returns. No condition. -/
import Derived.Test.YtngeppmincgebaaPx0
import Derived.Test.YtngeppmincgebaaPx26
import Derived.Test.YtngeppmincgebaaStmtFnExactFormatPairs
import Derived.Test.YtngeppmincgebaaFmtR
import Derived.Test.YtngeppmincgebaaToPair
namespace Go.Proofs.Ytngeppmincgebaa.Pure
open Go.RowKit Go.Proofs.Ytngeppmincgebaa.P Go.Proofs.Ytngeppmincgebaa.StFnExactFormatPairs Go.Proofs.YtngeppmincgebaaW.PrintWords Go.Proofs.YtngeppmincgebaaW.PrintLast Go.Proofs.Ytngeppmincgebaa.Opn

theorem FnExactFormatPairs : StFnExactFormatPairs.Pure := by
  intro l h
  by_cases b0 : (1048576 : Int) < l.length
  · refine ⟨0, ?_⟩
    unfold laws_FnExactFormatPairs.f
    rw [szPairS_no l 1048576 (by omega) (by omega) h.1 b0]
    rfl
  have s0 := szPairS_yes l 1048576 (by omega) (by omega) (by omega)
  have n0 : ¬ ((1048576 : Int) - l.length < 0) := by omega
  have la : (l.map toP).length = l.length := List.length_map _
  obtain ⟨m, hm⟩ : ∃ m : Nat, m = 10000000 := ⟨_, rfl⟩
  have t0 := toPairS_eq l (by omega) m (by omega)
  generalize l.map toP = a at *
  have sp := fP_spec a (by omega) m (by omega)
  have im := fP_impl a (by omega) m (by omega)
  have ea := eqPairS_self a (by omega) m (by omega)
  refine ⟨m, ?_⟩
  unfold laws_FnExactFormatPairs.f
  simp only [s0, n0, t0, sp, im, ea, Option.bind_some, if_true, if_false]
end Go.Proofs.Ytngeppmincgebaa.Pure
