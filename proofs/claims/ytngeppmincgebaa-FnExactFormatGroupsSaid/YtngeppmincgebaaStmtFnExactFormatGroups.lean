/- The plain statement of the law FnExactFormatGroups, over the printed function. -/
import Derived.Test.YtngeppmincgebaaPx12
import Derived.Test.YtngeppmincgebaaOpen
namespace Go.Proofs.Ytngeppmincgebaa.StFnExactFormatGroups
open Go.RowKit Go.Proofs.Ytngeppmincgebaa.P Go.Proofs.YtngeppmincgebaaW.PrintWords Go.Proofs.Ytngeppmincgebaa.Opn
/-- The numbers and lengths of a datum of type 83 are Go's. -/
def ok83 (x : S83) : Prop := (okI .i64) x.f0 ∧ (okI .i64) x.f1 ∧ (okI .i64) x.f2 ∧ (okI .i64) x.f3 ∧ (okI .i64) x.f4
def Pure : Prop := ∀ (x0 : (List S83)), (okL ok83) x0 → ∃ k, laws_FnExactFormatGroups.f k x0 = some true
end Go.Proofs.Ytngeppmincgebaa.StFnExactFormatGroups
