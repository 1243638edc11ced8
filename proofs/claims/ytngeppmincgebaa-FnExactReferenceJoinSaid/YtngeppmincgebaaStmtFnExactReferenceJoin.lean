/- The plain statement of the law FnExactReferenceJoin, over the printed function. -/
import Derived.Test.YtngeppmincgebaaPx38
import Derived.Test.YtngeppmincgebaaOpen
namespace Go.Proofs.Ytngeppmincgebaa.StFnExactReferenceJoin
open Go.RowKit Go.Proofs.Ytngeppmincgebaa.P Go.Proofs.YtngeppmincgebaaW.PrintWords Go.Proofs.Ytngeppmincgebaa.Opn
/-- The numbers and lengths of a datum of type 77 are Go's. -/
def ok77 (x : S77) : Prop := (okI .i64) x.f0 ∧ (okI .i64) x.f1 ∧ (okI .i64) x.f2
def Pure : Prop := ∀ (x0 : Int) (x1 : (List S77)) (x2 : (List S77)), (okI .i64) x0 → (okL ok77) x1 → (okL ok77) x2 → ∃ k, laws_FnExactReferenceJoin.f k x0 x1 x2 = some true
end Go.Proofs.Ytngeppmincgebaa.StFnExactReferenceJoin
