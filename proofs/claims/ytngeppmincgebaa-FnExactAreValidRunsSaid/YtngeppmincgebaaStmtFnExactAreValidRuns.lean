/- The plain statement of the law FnExactAreValidRuns, over the printed function. -/
import Derived.Test.YtngeppmincgebaaPx31
import Derived.Test.YtngeppmincgebaaOpen
namespace Go.Proofs.Ytngeppmincgebaa.StFnExactAreValidRuns
open Go.RowKit Go.Proofs.Ytngeppmincgebaa.P Go.Proofs.YtngeppmincgebaaW.PrintWords Go.Proofs.Ytngeppmincgebaa.Opn
/-- The numbers and lengths of a datum of type 77 are Go's. -/
def ok77 (x : S77) : Prop := (okI .i64) x.f0 ∧ (okI .i64) x.f1 ∧ (okI .i64) x.f2
/-- The numbers and lengths of a datum of type 91 are Go's. -/
def ok91 (x : S91) : Prop := (okL ok77) x.f0
def Pure : Prop := ∀ (x0 : (List S91)), (okL ok91) x0 → ∃ k, laws_FnExactAreValidRuns.f k x0 = some true
end Go.Proofs.Ytngeppmincgebaa.StFnExactAreValidRuns
