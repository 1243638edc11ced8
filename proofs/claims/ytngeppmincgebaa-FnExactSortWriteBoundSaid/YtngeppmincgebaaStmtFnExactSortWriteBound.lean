/- The plain statement of the law FnExactSortWriteBound, over the printed function. -/
import Derived.Test.YtngeppmincgebaaPx5
import Derived.Test.YtngeppmincgebaaOpen
namespace Go.Proofs.Ytngeppmincgebaa.StFnExactSortWriteBound
open Go.RowKit Go.Proofs.Ytngeppmincgebaa.P Go.Proofs.YtngeppmincgebaaW.PrintWords Go.Proofs.Ytngeppmincgebaa.Opn
/-- The numbers and lengths of a datum of type 77 are Go's. -/
def ok77 (x : S77) : Prop := (okI .i64) x.f0 ∧ (okI .i64) x.f1 ∧ (okI .i64) x.f2
def Pure : Prop := ∀ (x0 : (List S77)), (okL ok77) x0 → ∃ k, laws_FnExactSortWriteBound.f k x0 = some true
end Go.Proofs.Ytngeppmincgebaa.StFnExactSortWriteBound
