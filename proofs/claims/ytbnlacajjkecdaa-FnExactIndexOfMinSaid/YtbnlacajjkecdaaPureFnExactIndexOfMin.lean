/- The law FnExactIndexOfMin answers true for every input: the program's IndexOfMin and the reference's go the same rounds. No condition. -/
import Derived.Test.YtbnlacajjkecdaaPx0
import Derived.Test.YtbnlacajjkecdaaPx31
import Derived.Test.YtbnlacajjkecdaaStmtFnExactIndexOfMin
import Derived.Test.YtbnlacajjkecdaaIdxMin
namespace Go.Proofs.Ytbnlacajjkecdaa.Pure
open Go.RowKit Go.Proofs.Ytbnlacajjkecdaa.P Go.Proofs.Ytbnlacajjkecdaa.StFnExactIndexOfMin Go.Proofs.YtbnlacajjkecdaaW.PrintWords Go.Proofs.YtbnlacajjkecdaaW.PrintLast Go.Proofs.Ytbnlacajjkecdaa.Opn

theorem FnExactIndexOfMin : StFnExactIndexOfMin.Pure := by
  intro l hl
  by_cases hb : (1048576 : Int) < l.length
  · refine ⟨0, ?_⟩
    unfold laws_FnExactIndexOfMin.f
    rw [szRowS_no l 1048576 (by omega) (by omega) hl.1 hb]
    rfl
  · have hs := szRowS_yes l 1048576 (by omega) (by omega) (by omega)
    obtain ⟨K1, h1⟩ := toRowS_ev l (by omega)
    obtain ⟨r, e1, e2, _⟩ := idx_ev (l.map toR) (by rw [List.length_map]; omega)
    obtain ⟨K2, h2⟩ := e1
    obtain ⟨K3, h3⟩ := e2
    obtain ⟨K4, h4⟩ := eqRowS_ev (l.map toR) (by rw [List.length_map]; omega)
    refine ⟨K1 + K2 + K3 + K4, ?_⟩
    have h1 := h1 (K1 + K2 + K3 + K4) (by omega)
    have h2 := h2 (K1 + K2 + K3 + K4) (by omega)
    have h3 := h3 (K1 + K2 + K3 + K4) (by omega)
    have h4 := h4 (K1 + K2 + K3 + K4) (by omega)
    unfold laws_FnExactIndexOfMin.f
    rw [hs]
    simp only [Option.bind_some, h1, h2, h3, h4]
    rw [if_neg (by omega)]
    simp

end Go.Proofs.Ytbnlacajjkecdaa.Pure
