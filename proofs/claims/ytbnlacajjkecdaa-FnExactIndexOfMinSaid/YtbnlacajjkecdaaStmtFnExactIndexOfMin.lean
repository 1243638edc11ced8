/- The plain statement of the law FnExactIndexOfMin, over the printed function. -/
import Derived.Test.YtbnlacajjkecdaaPx31
import Derived.Test.YtbnlacajjkecdaaOpen
namespace Go.Proofs.Ytbnlacajjkecdaa.StFnExactIndexOfMin
open Go.RowKit Go.Proofs.Ytbnlacajjkecdaa.P Go.Proofs.YtbnlacajjkecdaaW.PrintWords Go.Proofs.Ytbnlacajjkecdaa.Opn
/-- The numbers and lengths of a datum of type 37 are Go's. -/
def ok37 (x : S37) : Prop := (okI .i64) x.f0 ∧ (okI .i64) x.f1 ∧ (okI .i64) x.f2
def Pure : Prop := ∀ (x0 : (List S37)), (okL ok37) x0 → ∃ k, laws_FnExactIndexOfMin.f k x0 = some true
end Go.Proofs.Ytbnlacajjkecdaa.StFnExactIndexOfMin
