/- The plain statement of the law FnExactFormatPairs, over the printed function. -/
import Derived.Test.YtngeppmincgebaaPx26
import Derived.Test.YtngeppmincgebaaOpen
namespace Go.Proofs.Ytngeppmincgebaa.StFnExactFormatPairs
open Go.RowKit Go.Proofs.Ytngeppmincgebaa.P Go.Proofs.YtngeppmincgebaaW.PrintWords Go.Proofs.Ytngeppmincgebaa.Opn
/-- The numbers and lengths of a datum of type 77 are Go's. -/
def ok77 (x : S77) : Prop := (okI .i64) x.f0 ∧ (okI .i64) x.f1 ∧ (okI .i64) x.f2
/-- The numbers and lengths of a datum of type 101 are Go's. -/
def ok101 (x : S101) : Prop := ok77 x.f0 ∧ ok77 x.f1 ∧ (fun _ => True) x.f2
def Pure : Prop := ∀ (x0 : (List S101)), (okL ok101) x0 → ∃ k, laws_FnExactFormatPairs.f k x0 = some true
end Go.Proofs.Ytngeppmincgebaa.StFnExactFormatPairs
