/-
  Readings of codes.
-/
import Derived.Test.YtjlhfemfmkdlhaaAbR
import Derived.Test.YtjlhfemfmkdlhaaDrwA
namespace Go.Proofs.Ytjlhfemfmkdlhaa.Ab
open Go.RowKit
theorem o_u8 : Opens Go.Proofs.Try.prog 49 (fun l : List Int => [lstOf u8T l]) (okL (okI .u8)) := opens_slice Go.Proofs.Try.underlying49 (by kernel_rfl) (opens_int Go.Proofs.Try.underlying5)
end Go.Proofs.Ytjlhfemfmkdlhaa.Ab
