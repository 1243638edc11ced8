/-
  Bytes that can be read.
-/
import Derived.Test.YtjlhfemfmkdlhaaMrgE
namespace Go.Proofs.Ytjlhfemfmkdlhaa.Ab
open Go.RowKit
theorem okU8 {x : Int} (h : okI .u8 x) : 0 ≤ x ∧ x ≤ 255 := by
  simp [okI, Lit.wf] at h
  exact ⟨h.1, h.2⟩
end Go.Proofs.Ytjlhfemfmkdlhaa.Ab
