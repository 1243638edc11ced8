/- The plain statement of the law FnExactGroupFromRow, over the printed function. -/
import Derived.Test.YtbnlacajjkecdaaPx3
import Derived.Test.YtbnlacajjkecdaaOpen
namespace Go.Proofs.Ytbnlacajjkecdaa.StFnExactGroupFromRow
open Go.RowKit Go.Proofs.Ytbnlacajjkecdaa.P Go.Proofs.YtbnlacajjkecdaaW.PrintWords Go.Proofs.Ytbnlacajjkecdaa.Opn
/-- The numbers and lengths of a datum of type 37 are Go's. -/
def ok37 (x : S37) : Prop := (okI .i64) x.f0 ∧ (okI .i64) x.f1 ∧ (okI .i64) x.f2
def Pure : Prop := ∀ (x0 : S37), ok37 x0 → laws_FnExactGroupFromRow.f x0.f0 x0.f1 x0.f2 = some true
end Go.Proofs.Ytbnlacajjkecdaa.StFnExactGroupFromRow
