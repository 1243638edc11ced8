/- What the row FnReferenceJoins leans on, part 2: a walk over abstract values, and contracts proved with it. -/
import Derived.WalkKit
import Derived.Laws.Rows
import Derived.RowKit
import Derived.OrdersHeld
import Derived.Deep.RegionHeld3
import Derived.Deep.Draws
import Derived.BigCall
import Derived.KernelRfl
import Derived.Deep.Slices
import Derived.ChangeArms
import Derived.ChangeShapes
import Derived.WideShapes
import Derived.Test.YtkcicbigpbdjpaaProg
import Derived.Laws.StructEq
import Derived.Lib.Overlaps
import Derived.Laws.BytesString
import Derived.Test.YtkcicbigpbdjpaaZp0
set_option linter.unusedVariables false
set_option linter.unusedSimpArgs false
set_option maxRecDepth 20000
set_option maxHeartbeats 8000000
namespace Go.Proofs.Ytkcicbigpbdjpaa.Ab
theorem sc2 : Sc Go.Proofs.Try.prog 2 := yh Go.Proofs.Try.underlying2 rfl (by kernel_rfl)
instance : Sc Go.Proofs.Try.prog 2 := sc2
theorem ze2 : Ze Go.Proofs.Try.prog 2 [.int .i64 (0)] := yC (z := .int .i64 (0)) (by kernel_rfl) rfl
instance : Ze Go.Proofs.Try.prog 2 [.int .i64 (0)] := ze2
theorem ik2 : Ik Go.Proofs.Try.prog 2 .i64 := ⟨Go.Proofs.Try.underlying2⟩
instance : Ik Go.Proofs.Try.prog 2 .i64 := ik2
theorem sc3 : Sc Go.Proofs.Try.prog 3 := yh Go.Proofs.Try.underlying3 rfl (by kernel_rfl)
instance : Sc Go.Proofs.Try.prog 3 := sc3
theorem ze3 : Ze Go.Proofs.Try.prog 3 [.int .i64 (0)] := yC (z := .int .i64 (0)) (by kernel_rfl) rfl
instance : Ze Go.Proofs.Try.prog 3 [.int .i64 (0)] := ze3
theorem ik3 : Ik Go.Proofs.Try.prog 3 .i64 := ⟨Go.Proofs.Try.underlying3⟩
instance : Ik Go.Proofs.Try.prog 3 .i64 := ik3
theorem sc4 : Sc Go.Proofs.Try.prog 4 := yh Go.Proofs.Try.underlying4 rfl (by kernel_rfl)
instance : Sc Go.Proofs.Try.prog 4 := sc4
theorem ze4 : Ze Go.Proofs.Try.prog 4 [.bool false] := yC (z := .bool false) (by kernel_rfl) rfl
instance : Ze Go.Proofs.Try.prog 4 [.bool false] := ze4
theorem bl4 : Go.Proofs.Try.prog.underlying 4 = some .bool := Go.Proofs.Try.underlying4
theorem sc5 : Sc Go.Proofs.Try.prog 5 := yh Go.Proofs.Try.underlying5 rfl (by kernel_rfl)
instance : Sc Go.Proofs.Try.prog 5 := sc5
theorem ze5 : Ze Go.Proofs.Try.prog 5 [.int .u8 (0)] := yC (z := .int .u8 (0)) (by kernel_rfl) rfl
instance : Ze Go.Proofs.Try.prog 5 [.int .u8 (0)] := ze5
theorem ik5 : Ik Go.Proofs.Try.prog 5 .u8 := ⟨Go.Proofs.Try.underlying5⟩
instance : Ik Go.Proofs.Try.prog 5 .u8 := ik5
theorem sc9 : Sc Go.Proofs.Try.prog 9 := yh Go.Proofs.Try.underlying9 rfl (by kernel_rfl)
instance : Sc Go.Proofs.Try.prog 9 := sc9
theorem ze9 : Ze Go.Proofs.Try.prog 9 [.string .empty] := yC (z := .string .empty) (by kernel_rfl) rfl
instance : Ze Go.Proofs.Try.prog 9 [.string .empty] := ze9
theorem str9 : Str Go.Proofs.Try.prog 9 := ⟨Go.Proofs.Try.underlying9⟩
instance : Str Go.Proofs.Try.prog 9 := str9
theorem sc12 : Sc Go.Proofs.Try.prog 12 := yh Go.Proofs.Try.underlying12 rfl (by kernel_rfl)
instance : Sc Go.Proofs.Try.prog 12 := sc12
theorem ze12 : Ze Go.Proofs.Try.prog 12 [.int .u64 (0)] := yC (z := .int .u64 (0)) (by kernel_rfl) rfl
instance : Ze Go.Proofs.Try.prog 12 [.int .u64 (0)] := ze12
theorem ik12 : Ik Go.Proofs.Try.prog 12 .u64 := ⟨Go.Proofs.Try.underlying12⟩
instance : Ik Go.Proofs.Try.prog 12 .u64 := ik12
theorem ag13 : Ag Go.Proofs.Try.prog 13 2 := xf Go.Proofs.Try.underlying13 (by kernel_rfl)
instance : Ag Go.Proofs.Try.prog 13 2 := ag13
theorem nv : Fd Go.Proofs.Try.prog 13 0 0 1 false := z7 Go.Proofs.Try.underlying13 (off := 0) (ft := 9) rfl Go.Proofs.Try.underlying9 (n := 1) (by kernel_rfl) rfl (by decide)
instance : Fd Go.Proofs.Try.prog 13 0 0 1 false := nv
theorem nu : Fd Go.Proofs.Try.prog 13 1 1 1 false := z7 Go.Proofs.Try.underlying13 (off := 1) (ft := 12) rfl Go.Proofs.Try.underlying12 (n := 1) (by kernel_rfl) rfl (by decide)
instance : Fd Go.Proofs.Try.prog 13 1 1 1 false := nu
theorem pl13 : Pl Go.Proofs.Try.prog 13 [(0, 1), (1, 1)] := xd Go.Proofs.Try.underlying13 (by kernel_rfl)
instance : Pl Go.Proofs.Try.prog 13 [(0, 1), (1, 1)] := pl13
theorem ze13 : Ze Go.Proofs.Try.prog 13 [.string .empty, .int .u64 (0)] := yC (z := .agg #[.string .empty, .int .u64 (0)]) (by kernel_rfl) rfl
instance : Ze Go.Proofs.Try.prog 13 [.string .empty, .int .u64 (0)] := ze13
theorem sc21 : Sc Go.Proofs.Try.prog 21 := yh Go.Proofs.Try.underlying21 rfl (by kernel_rfl)
instance : Sc Go.Proofs.Try.prog 21 := sc21
theorem ze21 : Ze Go.Proofs.Try.prog 21 [.int .i32 (0)] := yC (z := .int .i32 (0)) (by kernel_rfl) rfl
instance : Ze Go.Proofs.Try.prog 21 [.int .i32 (0)] := ze21
theorem ik21 : Ik Go.Proofs.Try.prog 21 .i32 := ⟨Go.Proofs.Try.underlying21⟩
instance : Ik Go.Proofs.Try.prog 21 .i32 := ik21
theorem sc22 : Sc Go.Proofs.Try.prog 22 := yh Go.Proofs.Try.underlying22 rfl (by kernel_rfl)
instance : Sc Go.Proofs.Try.prog 22 := sc22
theorem ze22 : Ze Go.Proofs.Try.prog 22 [.slice none 0 0] := yC (z := .slice none 0 0) (by kernel_rfl) rfl
instance : Ze Go.Proofs.Try.prog 22 [.slice none 0 0] := ze22
theorem sl22 : Sl Go.Proofs.Try.prog 22 5 1 1 := wc (z := .int .u8 (0)) Go.Proofs.Try.underlying22 (by kernel_rfl) rfl (by decide)
instance : Sl Go.Proofs.Try.prog 22 5 1 1 := sl22
theorem sc24 : Sc Go.Proofs.Try.prog 24 := yh Go.Proofs.Try.underlying24 rfl (by kernel_rfl)
instance : Sc Go.Proofs.Try.prog 24 := sc24
theorem ze24 : Ze Go.Proofs.Try.prog 24 [.slice none 0 0] := yC (z := .slice none 0 0) (by kernel_rfl) rfl
instance : Ze Go.Proofs.Try.prog 24 [.slice none 0 0] := ze24
theorem sl24 : Sl Go.Proofs.Try.prog 24 71 3 24 := wc (z := .agg #[.int .i64 (0), .int .i64 (0), .int .i64 (0)]) Go.Proofs.Try.underlying24 (by kernel_rfl) rfl (by decide)
instance : Sl Go.Proofs.Try.prog 24 71 3 24 := sl24
theorem sc27 : Sc Go.Proofs.Try.prog 27 := yh Go.Proofs.Try.underlying27 rfl (by kernel_rfl)
instance : Sc Go.Proofs.Try.prog 27 := sc27
theorem ze27 : Ze Go.Proofs.Try.prog 27 [.slice none 0 0] := yC (z := .slice none 0 0) (by kernel_rfl) rfl
instance : Ze Go.Proofs.Try.prog 27 [.slice none 0 0] := ze27
theorem sl27 : Sl Go.Proofs.Try.prog 27 39 1 24 := wc (z := .agg #[.slice none 0 0]) Go.Proofs.Try.underlying27 (by kernel_rfl) rfl (by decide)
instance : Sl Go.Proofs.Try.prog 27 39 1 24 := sl27
theorem ag38 : Ag Go.Proofs.Try.prog 38 1 := xf Go.Proofs.Try.underlying38 (by kernel_rfl)
instance : Ag Go.Proofs.Try.prog 38 1 := ag38
theorem nt : Fd Go.Proofs.Try.prog 38 0 0 1 false := z7 Go.Proofs.Try.underlying38 (off := 0) (ft := 24) rfl Go.Proofs.Try.underlying24 (n := 1) (by kernel_rfl) rfl (by decide)
instance : Fd Go.Proofs.Try.prog 38 0 0 1 false := nt
theorem pl38 : Pl Go.Proofs.Try.prog 38 [(0, 1)] := xd Go.Proofs.Try.underlying38 (by kernel_rfl)
instance : Pl Go.Proofs.Try.prog 38 [(0, 1)] := pl38
theorem ze38 : Ze Go.Proofs.Try.prog 38 [.slice none 0 0] := yC (z := .agg #[.slice none 0 0]) (by kernel_rfl) rfl
instance : Ze Go.Proofs.Try.prog 38 [.slice none 0 0] := ze38
theorem ag39 : Ag Go.Proofs.Try.prog 39 1 := xf Go.Proofs.Try.underlying39 (by kernel_rfl)
instance : Ag Go.Proofs.Try.prog 39 1 := ag39
theorem ns : Fd Go.Proofs.Try.prog 39 0 0 1 false := z7 Go.Proofs.Try.underlying39 (off := 0) (ft := 24) rfl Go.Proofs.Try.underlying24 (n := 1) (by kernel_rfl) rfl (by decide)
instance : Fd Go.Proofs.Try.prog 39 0 0 1 false := ns
theorem pl39 : Pl Go.Proofs.Try.prog 39 [(0, 1)] := xd Go.Proofs.Try.underlying39 (by kernel_rfl)
instance : Pl Go.Proofs.Try.prog 39 [(0, 1)] := pl39
theorem ze39 : Ze Go.Proofs.Try.prog 39 [.slice none 0 0] := yC (z := .agg #[.slice none 0 0]) (by kernel_rfl) rfl
instance : Ze Go.Proofs.Try.prog 39 [.slice none 0 0] := ze39
theorem sc40 : Sc Go.Proofs.Try.prog 40 := yh Go.Proofs.Try.underlying40 rfl (by kernel_rfl)
instance : Sc Go.Proofs.Try.prog 40 := sc40
theorem ze40 : Ze Go.Proofs.Try.prog 40 [.slice none 0 0] := yC (z := .slice none 0 0) (by kernel_rfl) rfl
instance : Ze Go.Proofs.Try.prog 40 [.slice none 0 0] := ze40
theorem sl40 : Sl Go.Proofs.Try.prog 40 118 3 24 := wc (z := .agg #[.int .i64 (0), .int .i64 (0), .int .i64 (0)]) Go.Proofs.Try.underlying40 (by kernel_rfl) rfl (by decide)
instance : Sl Go.Proofs.Try.prog 40 118 3 24 := sl40
theorem sc46 : Sc Go.Proofs.Try.prog 46 := yh Go.Proofs.Try.underlying46 rfl (by kernel_rfl)
instance : Sc Go.Proofs.Try.prog 46 := sc46
theorem ze46 : Ze Go.Proofs.Try.prog 46 [.slice none 0 0] := yC (z := .slice none 0 0) (by kernel_rfl) rfl
instance : Ze Go.Proofs.Try.prog 46 [.slice none 0 0] := ze46
theorem sl46 : Sl Go.Proofs.Try.prog 46 123 1 24 := wc (z := .agg #[.slice none 0 0]) Go.Proofs.Try.underlying46 (by kernel_rfl) rfl (by decide)
instance : Sl Go.Proofs.Try.prog 46 123 1 24 := sl46
theorem sc61 : Sc Go.Proofs.Try.prog 61 := yh Go.Proofs.Try.underlying61 rfl (by kernel_rfl)
instance : Sc Go.Proofs.Try.prog 61 := sc61
theorem ze61 : Ze Go.Proofs.Try.prog 61 [.slice none 0 0] := yC (z := .slice none 0 0) (by kernel_rfl) rfl
instance : Ze Go.Proofs.Try.prog 61 [.slice none 0 0] := ze61
theorem sl61 : Sl Go.Proofs.Try.prog 61 131 7 56 := wc (z := .agg #[.int .i64 (0), .int .i64 (0), .int .i64 (0), .int .i64 (0), .int .i64 (0), .int .i64 (0), .bool false]) Go.Proofs.Try.underlying61 (by kernel_rfl) rfl (by decide)
instance : Sl Go.Proofs.Try.prog 61 131 7 56 := sl61
theorem sc64 : Sc Go.Proofs.Try.prog 64 := yh Go.Proofs.Try.underlying64 rfl (by kernel_rfl)
instance : Sc Go.Proofs.Try.prog 64 := sc64
theorem ze64 : Ze Go.Proofs.Try.prog 64 [.slice none 0 0] := yC (z := .slice none 0 0) (by kernel_rfl) rfl
instance : Ze Go.Proofs.Try.prog 64 [.slice none 0 0] := ze64
theorem sl64 : Sl Go.Proofs.Try.prog 64 73 7 56 := wc (z := .agg #[.int .i64 (0), .int .i64 (0), .int .i64 (0), .int .i64 (0), .int .i64 (0), .int .i64 (0), .bool false]) Go.Proofs.Try.underlying64 (by kernel_rfl) rfl (by decide)
instance : Sl Go.Proofs.Try.prog 64 73 7 56 := sl64
theorem ag70 : Ag Go.Proofs.Try.prog 70 3 := xf Go.Proofs.Try.underlying70 (by kernel_rfl)
instance : Ag Go.Proofs.Try.prog 70 3 := ag70
theorem nr : Fd Go.Proofs.Try.prog 70 0 0 1 false := z7 Go.Proofs.Try.underlying70 (off := 0) (ft := 3) rfl Go.Proofs.Try.underlying3 (n := 1) (by kernel_rfl) rfl (by decide)
instance : Fd Go.Proofs.Try.prog 70 0 0 1 false := nr
theorem nq : Fd Go.Proofs.Try.prog 70 1 1 1 false := z7 Go.Proofs.Try.underlying70 (off := 1) (ft := 3) rfl Go.Proofs.Try.underlying3 (n := 1) (by kernel_rfl) rfl (by decide)
instance : Fd Go.Proofs.Try.prog 70 1 1 1 false := nq
theorem np : Fd Go.Proofs.Try.prog 70 2 2 1 false := z7 Go.Proofs.Try.underlying70 (off := 2) (ft := 3) rfl Go.Proofs.Try.underlying3 (n := 1) (by kernel_rfl) rfl (by decide)
instance : Fd Go.Proofs.Try.prog 70 2 2 1 false := np
theorem pl70 : Pl Go.Proofs.Try.prog 70 [(0, 1), (1, 1), (2, 1)] := xd Go.Proofs.Try.underlying70 (by kernel_rfl)
instance : Pl Go.Proofs.Try.prog 70 [(0, 1), (1, 1), (2, 1)] := pl70
theorem ze70 : Ze Go.Proofs.Try.prog 70 [.int .i64 (0), .int .i64 (0), .int .i64 (0)] := yC (z := .agg #[.int .i64 (0), .int .i64 (0), .int .i64 (0)]) (by kernel_rfl) rfl
instance : Ze Go.Proofs.Try.prog 70 [.int .i64 (0), .int .i64 (0), .int .i64 (0)] := ze70
theorem ag71 : Ag Go.Proofs.Try.prog 71 3 := xf Go.Proofs.Try.underlying71 (by kernel_rfl)
instance : Ag Go.Proofs.Try.prog 71 3 := ag71
theorem nn : Fd Go.Proofs.Try.prog 71 0 0 1 false := z7 Go.Proofs.Try.underlying71 (off := 0) (ft := 3) rfl Go.Proofs.Try.underlying3 (n := 1) (by kernel_rfl) rfl (by decide)
instance : Fd Go.Proofs.Try.prog 71 0 0 1 false := nn
theorem nm : Fd Go.Proofs.Try.prog 71 1 1 1 false := z7 Go.Proofs.Try.underlying71 (off := 1) (ft := 3) rfl Go.Proofs.Try.underlying3 (n := 1) (by kernel_rfl) rfl (by decide)
instance : Fd Go.Proofs.Try.prog 71 1 1 1 false := nm
theorem nl : Fd Go.Proofs.Try.prog 71 2 2 1 false := z7 Go.Proofs.Try.underlying71 (off := 2) (ft := 3) rfl Go.Proofs.Try.underlying3 (n := 1) (by kernel_rfl) rfl (by decide)
instance : Fd Go.Proofs.Try.prog 71 2 2 1 false := nl
theorem pl71 : Pl Go.Proofs.Try.prog 71 [(0, 1), (1, 1), (2, 1)] := xd Go.Proofs.Try.underlying71 (by kernel_rfl)
instance : Pl Go.Proofs.Try.prog 71 [(0, 1), (1, 1), (2, 1)] := pl71
theorem ze71 : Ze Go.Proofs.Try.prog 71 [.int .i64 (0), .int .i64 (0), .int .i64 (0)] := yC (z := .agg #[.int .i64 (0), .int .i64 (0), .int .i64 (0)]) (by kernel_rfl) rfl
instance : Ze Go.Proofs.Try.prog 71 [.int .i64 (0), .int .i64 (0), .int .i64 (0)] := ze71
theorem ag72 : Ag Go.Proofs.Try.prog 72 7 := xf Go.Proofs.Try.underlying72 (by kernel_rfl)
instance : Ag Go.Proofs.Try.prog 72 7 := ag72
theorem nk : Fd Go.Proofs.Try.prog 72 0 0 3 true := z7 Go.Proofs.Try.underlying72 (off := 0) (ft := 71) rfl Go.Proofs.Try.underlying71 (n := 3) (by kernel_rfl) rfl (by decide)
instance : Fd Go.Proofs.Try.prog 72 0 0 3 true := nk
theorem nj : Fd Go.Proofs.Try.prog 72 1 3 3 true := z7 Go.Proofs.Try.underlying72 (off := 3) (ft := 71) rfl Go.Proofs.Try.underlying71 (n := 3) (by kernel_rfl) rfl (by decide)
instance : Fd Go.Proofs.Try.prog 72 1 3 3 true := nj
theorem ni : Fd Go.Proofs.Try.prog 72 2 6 1 false := z7 Go.Proofs.Try.underlying72 (off := 6) (ft := 4) rfl Go.Proofs.Try.underlying4 (n := 1) (by kernel_rfl) rfl (by decide)
instance : Fd Go.Proofs.Try.prog 72 2 6 1 false := ni
theorem pl72 : Pl Go.Proofs.Try.prog 72 [(0, 3), (3, 3), (6, 1)] := xd Go.Proofs.Try.underlying72 (by kernel_rfl)
instance : Pl Go.Proofs.Try.prog 72 [(0, 3), (3, 3), (6, 1)] := pl72
theorem ze72 : Ze Go.Proofs.Try.prog 72 [.int .i64 (0), .int .i64 (0), .int .i64 (0), .int .i64 (0), .int .i64 (0), .int .i64 (0), .bool false] := yC (z := .agg #[.int .i64 (0), .int .i64 (0), .int .i64 (0), .int .i64 (0), .int .i64 (0), .int .i64 (0), .bool false]) (by kernel_rfl) rfl
instance : Ze Go.Proofs.Try.prog 72 [.int .i64 (0), .int .i64 (0), .int .i64 (0), .int .i64 (0), .int .i64 (0), .int .i64 (0), .bool false] := ze72
theorem ag73 : Ag Go.Proofs.Try.prog 73 7 := xf Go.Proofs.Try.underlying73 (by kernel_rfl)
instance : Ag Go.Proofs.Try.prog 73 7 := ag73
theorem nh : Fd Go.Proofs.Try.prog 73 0 0 3 true := z7 Go.Proofs.Try.underlying73 (off := 0) (ft := 71) rfl Go.Proofs.Try.underlying71 (n := 3) (by kernel_rfl) rfl (by decide)
instance : Fd Go.Proofs.Try.prog 73 0 0 3 true := nh
theorem ng : Fd Go.Proofs.Try.prog 73 1 3 3 true := z7 Go.Proofs.Try.underlying73 (off := 3) (ft := 71) rfl Go.Proofs.Try.underlying71 (n := 3) (by kernel_rfl) rfl (by decide)
instance : Fd Go.Proofs.Try.prog 73 1 3 3 true := ng
theorem nf : Fd Go.Proofs.Try.prog 73 2 6 1 false := z7 Go.Proofs.Try.underlying73 (off := 6) (ft := 4) rfl Go.Proofs.Try.underlying4 (n := 1) (by kernel_rfl) rfl (by decide)
instance : Fd Go.Proofs.Try.prog 73 2 6 1 false := nf
theorem pl73 : Pl Go.Proofs.Try.prog 73 [(0, 3), (3, 3), (6, 1)] := xd Go.Proofs.Try.underlying73 (by kernel_rfl)
instance : Pl Go.Proofs.Try.prog 73 [(0, 3), (3, 3), (6, 1)] := pl73
theorem ze73 : Ze Go.Proofs.Try.prog 73 [.int .i64 (0), .int .i64 (0), .int .i64 (0), .int .i64 (0), .int .i64 (0), .int .i64 (0), .bool false] := yC (z := .agg #[.int .i64 (0), .int .i64 (0), .int .i64 (0), .int .i64 (0), .int .i64 (0), .int .i64 (0), .bool false]) (by kernel_rfl) rfl
instance : Ze Go.Proofs.Try.prog 73 [.int .i64 (0), .int .i64 (0), .int .i64 (0), .int .i64 (0), .int .i64 (0), .int .i64 (0), .bool false] := ze73
theorem sc82 : Sc Go.Proofs.Try.prog 82 := yh Go.Proofs.Try.underlying82 rfl (by kernel_rfl)
instance : Sc Go.Proofs.Try.prog 82 := sc82
theorem ze82 : Ze Go.Proofs.Try.prog 82 [.slice none 0 0] := yC (z := .slice none 0 0) (by kernel_rfl) rfl
instance : Ze Go.Proofs.Try.prog 82 [.slice none 0 0] := ze82
theorem sl82 : Sl Go.Proofs.Try.prog 82 139 5 40 := wc (z := .agg #[.int .i64 (0), .int .i64 (0), .int .i64 (0), .int .i64 (0), .int .i64 (0)]) Go.Proofs.Try.underlying82 (by kernel_rfl) rfl (by decide)
instance : Sl Go.Proofs.Try.prog 82 139 5 40 := sl82
theorem sc84 : Sc Go.Proofs.Try.prog 84 := yh Go.Proofs.Try.underlying84 rfl (by kernel_rfl)
instance : Sc Go.Proofs.Try.prog 84 := sc84
theorem ze84 : Ze Go.Proofs.Try.prog 84 [.slice none 0 0] := yC (z := .slice none 0 0) (by kernel_rfl) rfl
instance : Ze Go.Proofs.Try.prog 84 [.slice none 0 0] := ze84
theorem sl84 : Sl Go.Proofs.Try.prog 84 95 5 40 := wc (z := .agg #[.int .i64 (0), .int .i64 (0), .int .i64 (0), .int .i64 (0), .int .i64 (0)]) Go.Proofs.Try.underlying84 (by kernel_rfl) rfl (by decide)
instance : Sl Go.Proofs.Try.prog 84 95 5 40 := sl84
theorem ag94 : Ag Go.Proofs.Try.prog 94 5 := xf Go.Proofs.Try.underlying94 (by kernel_rfl)
instance : Ag Go.Proofs.Try.prog 94 5 := ag94
theorem ne : Fd Go.Proofs.Try.prog 94 0 0 1 false := z7 Go.Proofs.Try.underlying94 (off := 0) (ft := 3) rfl Go.Proofs.Try.underlying3 (n := 1) (by kernel_rfl) rfl (by decide)
instance : Fd Go.Proofs.Try.prog 94 0 0 1 false := ne
theorem nc : Fd Go.Proofs.Try.prog 94 1 1 1 false := z7 Go.Proofs.Try.underlying94 (off := 1) (ft := 3) rfl Go.Proofs.Try.underlying3 (n := 1) (by kernel_rfl) rfl (by decide)
instance : Fd Go.Proofs.Try.prog 94 1 1 1 false := nc
theorem nb : Fd Go.Proofs.Try.prog 94 2 2 1 false := z7 Go.Proofs.Try.underlying94 (off := 2) (ft := 3) rfl Go.Proofs.Try.underlying3 (n := 1) (by kernel_rfl) rfl (by decide)
instance : Fd Go.Proofs.Try.prog 94 2 2 1 false := nb
theorem na : Fd Go.Proofs.Try.prog 94 3 3 1 false := z7 Go.Proofs.Try.underlying94 (off := 3) (ft := 3) rfl Go.Proofs.Try.underlying3 (n := 1) (by kernel_rfl) rfl (by decide)
instance : Fd Go.Proofs.Try.prog 94 3 3 1 false := na
theorem nZ : Fd Go.Proofs.Try.prog 94 4 4 1 false := z7 Go.Proofs.Try.underlying94 (off := 4) (ft := 3) rfl Go.Proofs.Try.underlying3 (n := 1) (by kernel_rfl) rfl (by decide)
instance : Fd Go.Proofs.Try.prog 94 4 4 1 false := nZ
theorem pl94 : Pl Go.Proofs.Try.prog 94 [(0, 1), (1, 1), (2, 1), (3, 1), (4, 1)] := xd Go.Proofs.Try.underlying94 (by kernel_rfl)
instance : Pl Go.Proofs.Try.prog 94 [(0, 1), (1, 1), (2, 1), (3, 1), (4, 1)] := pl94
theorem ze94 : Ze Go.Proofs.Try.prog 94 [.int .i64 (0), .int .i64 (0), .int .i64 (0), .int .i64 (0), .int .i64 (0)] := yC (z := .agg #[.int .i64 (0), .int .i64 (0), .int .i64 (0), .int .i64 (0), .int .i64 (0)]) (by kernel_rfl) rfl
instance : Ze Go.Proofs.Try.prog 94 [.int .i64 (0), .int .i64 (0), .int .i64 (0), .int .i64 (0), .int .i64 (0)] := ze94
theorem ag95 : Ag Go.Proofs.Try.prog 95 5 := xf Go.Proofs.Try.underlying95 (by kernel_rfl)
instance : Ag Go.Proofs.Try.prog 95 5 := ag95
theorem nY : Fd Go.Proofs.Try.prog 95 0 0 1 false := z7 Go.Proofs.Try.underlying95 (off := 0) (ft := 3) rfl Go.Proofs.Try.underlying3 (n := 1) (by kernel_rfl) rfl (by decide)
instance : Fd Go.Proofs.Try.prog 95 0 0 1 false := nY
theorem nX : Fd Go.Proofs.Try.prog 95 1 1 1 false := z7 Go.Proofs.Try.underlying95 (off := 1) (ft := 3) rfl Go.Proofs.Try.underlying3 (n := 1) (by kernel_rfl) rfl (by decide)
instance : Fd Go.Proofs.Try.prog 95 1 1 1 false := nX
theorem nW : Fd Go.Proofs.Try.prog 95 2 2 1 false := z7 Go.Proofs.Try.underlying95 (off := 2) (ft := 3) rfl Go.Proofs.Try.underlying3 (n := 1) (by kernel_rfl) rfl (by decide)
instance : Fd Go.Proofs.Try.prog 95 2 2 1 false := nW
theorem nV : Fd Go.Proofs.Try.prog 95 3 3 1 false := z7 Go.Proofs.Try.underlying95 (off := 3) (ft := 3) rfl Go.Proofs.Try.underlying3 (n := 1) (by kernel_rfl) rfl (by decide)
instance : Fd Go.Proofs.Try.prog 95 3 3 1 false := nV
theorem nU : Fd Go.Proofs.Try.prog 95 4 4 1 false := z7 Go.Proofs.Try.underlying95 (off := 4) (ft := 3) rfl Go.Proofs.Try.underlying3 (n := 1) (by kernel_rfl) rfl (by decide)
instance : Fd Go.Proofs.Try.prog 95 4 4 1 false := nU
theorem pl95 : Pl Go.Proofs.Try.prog 95 [(0, 1), (1, 1), (2, 1), (3, 1), (4, 1)] := xd Go.Proofs.Try.underlying95 (by kernel_rfl)
instance : Pl Go.Proofs.Try.prog 95 [(0, 1), (1, 1), (2, 1), (3, 1), (4, 1)] := pl95
theorem ze95 : Ze Go.Proofs.Try.prog 95 [.int .i64 (0), .int .i64 (0), .int .i64 (0), .int .i64 (0), .int .i64 (0)] := yC (z := .agg #[.int .i64 (0), .int .i64 (0), .int .i64 (0), .int .i64 (0), .int .i64 (0)]) (by kernel_rfl) rfl
instance : Ze Go.Proofs.Try.prog 95 [.int .i64 (0), .int .i64 (0), .int .i64 (0), .int .i64 (0), .int .i64 (0)] := ze95
theorem lc : Sc Go.Proofs.Try.prog 104 := yh Go.Proofs.Try.underlying104 rfl (by kernel_rfl)
instance : Sc Go.Proofs.Try.prog 104 := lc
theorem lN : Ze Go.Proofs.Try.prog 104 [.pointer none] := yC (z := .pointer none) (by kernel_rfl) rfl
instance : Ze Go.Proofs.Try.prog 104 [.pointer none] := lN
theorem lZ : Sc Go.Proofs.Try.prog 114 := yh Go.Proofs.Try.underlying114 rfl (by kernel_rfl)
instance : Sc Go.Proofs.Try.prog 114 := lZ
theorem lM : Ze Go.Proofs.Try.prog 114 [.slice none 0 0] := yC (z := .slice none 0 0) (by kernel_rfl) rfl
instance : Ze Go.Proofs.Try.prog 114 [.slice none 0 0] := lM
theorem lP : Sl Go.Proofs.Try.prog 114 9 1 16 := wc (z := .string .empty) Go.Proofs.Try.underlying114 (by kernel_rfl) rfl (by decide)
instance : Sl Go.Proofs.Try.prog 114 9 1 16 := lP
theorem kG : Ag Go.Proofs.Try.prog 118 3 := xf Go.Proofs.Try.underlying118 (by kernel_rfl)
instance : Ag Go.Proofs.Try.prog 118 3 := kG
theorem qg : Fd Go.Proofs.Try.prog 118 0 0 1 false := z7 Go.Proofs.Try.underlying118 (off := 0) (ft := 3) rfl Go.Proofs.Try.underlying3 (n := 1) (by kernel_rfl) rfl (by decide)
instance : Fd Go.Proofs.Try.prog 118 0 0 1 false := qg
theorem qf : Fd Go.Proofs.Try.prog 118 1 1 1 false := z7 Go.Proofs.Try.underlying118 (off := 1) (ft := 3) rfl Go.Proofs.Try.underlying3 (n := 1) (by kernel_rfl) rfl (by decide)
instance : Fd Go.Proofs.Try.prog 118 1 1 1 false := qf
theorem qe : Fd Go.Proofs.Try.prog 118 2 2 1 false := z7 Go.Proofs.Try.underlying118 (off := 2) (ft := 3) rfl Go.Proofs.Try.underlying3 (n := 1) (by kernel_rfl) rfl (by decide)
instance : Fd Go.Proofs.Try.prog 118 2 2 1 false := qe
theorem lm : Pl Go.Proofs.Try.prog 118 [(0, 1), (1, 1), (2, 1)] := xd Go.Proofs.Try.underlying118 (by kernel_rfl)
instance : Pl Go.Proofs.Try.prog 118 [(0, 1), (1, 1), (2, 1)] := lm
theorem lL : Ze Go.Proofs.Try.prog 118 [.int .i64 (0), .int .i64 (0), .int .i64 (0)] := yC (z := .agg #[.int .i64 (0), .int .i64 (0), .int .i64 (0)]) (by kernel_rfl) rfl
instance : Ze Go.Proofs.Try.prog 118 [.int .i64 (0), .int .i64 (0), .int .i64 (0)] := lL
theorem kF : Ag Go.Proofs.Try.prog 122 1 := xf Go.Proofs.Try.underlying122 (by kernel_rfl)
instance : Ag Go.Proofs.Try.prog 122 1 := kF
theorem qc : Fd Go.Proofs.Try.prog 122 0 0 1 false := z7 Go.Proofs.Try.underlying122 (off := 0) (ft := 40) rfl Go.Proofs.Try.underlying40 (n := 1) (by kernel_rfl) rfl (by decide)
instance : Fd Go.Proofs.Try.prog 122 0 0 1 false := qc
theorem ll : Pl Go.Proofs.Try.prog 122 [(0, 1)] := xd Go.Proofs.Try.underlying122 (by kernel_rfl)
instance : Pl Go.Proofs.Try.prog 122 [(0, 1)] := ll
theorem lK : Ze Go.Proofs.Try.prog 122 [.slice none 0 0] := yC (z := .agg #[.slice none 0 0]) (by kernel_rfl) rfl
instance : Ze Go.Proofs.Try.prog 122 [.slice none 0 0] := lK
theorem kE : Ag Go.Proofs.Try.prog 123 1 := xf Go.Proofs.Try.underlying123 (by kernel_rfl)
instance : Ag Go.Proofs.Try.prog 123 1 := kE
theorem qb : Fd Go.Proofs.Try.prog 123 0 0 1 false := z7 Go.Proofs.Try.underlying123 (off := 0) (ft := 40) rfl Go.Proofs.Try.underlying40 (n := 1) (by kernel_rfl) rfl (by decide)
instance : Fd Go.Proofs.Try.prog 123 0 0 1 false := qb
theorem lj : Pl Go.Proofs.Try.prog 123 [(0, 1)] := xd Go.Proofs.Try.underlying123 (by kernel_rfl)
instance : Pl Go.Proofs.Try.prog 123 [(0, 1)] := lj
theorem lJ : Ze Go.Proofs.Try.prog 123 [.slice none 0 0] := yC (z := .agg #[.slice none 0 0]) (by kernel_rfl) rfl
instance : Ze Go.Proofs.Try.prog 123 [.slice none 0 0] := lJ
theorem lY : Sc Go.Proofs.Try.prog 127 := yh Go.Proofs.Try.underlying127 rfl (by kernel_rfl)
instance : Sc Go.Proofs.Try.prog 127 := lY
theorem lI : Ze Go.Proofs.Try.prog 127 [.slice none 0 0] := yC (z := .slice none 0 0) (by kernel_rfl) rfl
instance : Ze Go.Proofs.Try.prog 127 [.slice none 0 0] := lI
theorem lO : Sl Go.Proofs.Try.prog 127 3 1 8 := wc (z := .int .i64 (0)) Go.Proofs.Try.underlying127 (by kernel_rfl) rfl (by decide)
instance : Sl Go.Proofs.Try.prog 127 3 1 8 := lO
theorem kD : Ag Go.Proofs.Try.prog 130 7 := xf Go.Proofs.Try.underlying130 (by kernel_rfl)
instance : Ag Go.Proofs.Try.prog 130 7 := kD
theorem qa : Fd Go.Proofs.Try.prog 130 0 0 3 true := z7 Go.Proofs.Try.underlying130 (off := 0) (ft := 118) rfl Go.Proofs.Try.underlying118 (n := 3) (by kernel_rfl) rfl (by decide)
instance : Fd Go.Proofs.Try.prog 130 0 0 3 true := qa
theorem qZ : Fd Go.Proofs.Try.prog 130 1 3 3 true := z7 Go.Proofs.Try.underlying130 (off := 3) (ft := 118) rfl Go.Proofs.Try.underlying118 (n := 3) (by kernel_rfl) rfl (by decide)
instance : Fd Go.Proofs.Try.prog 130 1 3 3 true := qZ
theorem qY : Fd Go.Proofs.Try.prog 130 2 6 1 false := z7 Go.Proofs.Try.underlying130 (off := 6) (ft := 4) rfl Go.Proofs.Try.underlying4 (n := 1) (by kernel_rfl) rfl (by decide)
instance : Fd Go.Proofs.Try.prog 130 2 6 1 false := qY
theorem li : Pl Go.Proofs.Try.prog 130 [(0, 3), (3, 3), (6, 1)] := xd Go.Proofs.Try.underlying130 (by kernel_rfl)
instance : Pl Go.Proofs.Try.prog 130 [(0, 3), (3, 3), (6, 1)] := li
theorem lH : Ze Go.Proofs.Try.prog 130 [.int .i64 (0), .int .i64 (0), .int .i64 (0), .int .i64 (0), .int .i64 (0), .int .i64 (0), .bool false] := yC (z := .agg #[.int .i64 (0), .int .i64 (0), .int .i64 (0), .int .i64 (0), .int .i64 (0), .int .i64 (0), .bool false]) (by kernel_rfl) rfl
instance : Ze Go.Proofs.Try.prog 130 [.int .i64 (0), .int .i64 (0), .int .i64 (0), .int .i64 (0), .int .i64 (0), .int .i64 (0), .bool false] := lH
theorem kC : Ag Go.Proofs.Try.prog 131 7 := xf Go.Proofs.Try.underlying131 (by kernel_rfl)
instance : Ag Go.Proofs.Try.prog 131 7 := kC
theorem qX : Fd Go.Proofs.Try.prog 131 0 0 3 true := z7 Go.Proofs.Try.underlying131 (off := 0) (ft := 118) rfl Go.Proofs.Try.underlying118 (n := 3) (by kernel_rfl) rfl (by decide)
instance : Fd Go.Proofs.Try.prog 131 0 0 3 true := qX
theorem qW : Fd Go.Proofs.Try.prog 131 1 3 3 true := z7 Go.Proofs.Try.underlying131 (off := 3) (ft := 118) rfl Go.Proofs.Try.underlying118 (n := 3) (by kernel_rfl) rfl (by decide)
instance : Fd Go.Proofs.Try.prog 131 1 3 3 true := qW
theorem qV : Fd Go.Proofs.Try.prog 131 2 6 1 false := z7 Go.Proofs.Try.underlying131 (off := 6) (ft := 4) rfl Go.Proofs.Try.underlying4 (n := 1) (by kernel_rfl) rfl (by decide)
instance : Fd Go.Proofs.Try.prog 131 2 6 1 false := qV
theorem lh : Pl Go.Proofs.Try.prog 131 [(0, 3), (3, 3), (6, 1)] := xd Go.Proofs.Try.underlying131 (by kernel_rfl)
instance : Pl Go.Proofs.Try.prog 131 [(0, 3), (3, 3), (6, 1)] := lh
theorem lG : Ze Go.Proofs.Try.prog 131 [.int .i64 (0), .int .i64 (0), .int .i64 (0), .int .i64 (0), .int .i64 (0), .int .i64 (0), .bool false] := yC (z := .agg #[.int .i64 (0), .int .i64 (0), .int .i64 (0), .int .i64 (0), .int .i64 (0), .int .i64 (0), .bool false]) (by kernel_rfl) rfl
instance : Ze Go.Proofs.Try.prog 131 [.int .i64 (0), .int .i64 (0), .int .i64 (0), .int .i64 (0), .int .i64 (0), .int .i64 (0), .bool false] := lG
theorem kB : Ag Go.Proofs.Try.prog 139 5 := xf Go.Proofs.Try.underlying139 (by kernel_rfl)
instance : Ag Go.Proofs.Try.prog 139 5 := kB
theorem qU : Fd Go.Proofs.Try.prog 139 0 0 1 false := z7 Go.Proofs.Try.underlying139 (off := 0) (ft := 3) rfl Go.Proofs.Try.underlying3 (n := 1) (by kernel_rfl) rfl (by decide)
instance : Fd Go.Proofs.Try.prog 139 0 0 1 false := qU
theorem qT : Fd Go.Proofs.Try.prog 139 1 1 1 false := z7 Go.Proofs.Try.underlying139 (off := 1) (ft := 3) rfl Go.Proofs.Try.underlying3 (n := 1) (by kernel_rfl) rfl (by decide)
instance : Fd Go.Proofs.Try.prog 139 1 1 1 false := qT
theorem qS : Fd Go.Proofs.Try.prog 139 2 2 1 false := z7 Go.Proofs.Try.underlying139 (off := 2) (ft := 3) rfl Go.Proofs.Try.underlying3 (n := 1) (by kernel_rfl) rfl (by decide)
instance : Fd Go.Proofs.Try.prog 139 2 2 1 false := qS
theorem qR : Fd Go.Proofs.Try.prog 139 3 3 1 false := z7 Go.Proofs.Try.underlying139 (off := 3) (ft := 3) rfl Go.Proofs.Try.underlying3 (n := 1) (by kernel_rfl) rfl (by decide)
instance : Fd Go.Proofs.Try.prog 139 3 3 1 false := qR
theorem qQ : Fd Go.Proofs.Try.prog 139 4 4 1 false := z7 Go.Proofs.Try.underlying139 (off := 4) (ft := 3) rfl Go.Proofs.Try.underlying3 (n := 1) (by kernel_rfl) rfl (by decide)
instance : Fd Go.Proofs.Try.prog 139 4 4 1 false := qQ
theorem lg : Pl Go.Proofs.Try.prog 139 [(0, 1), (1, 1), (2, 1), (3, 1), (4, 1)] := xd Go.Proofs.Try.underlying139 (by kernel_rfl)
instance : Pl Go.Proofs.Try.prog 139 [(0, 1), (1, 1), (2, 1), (3, 1), (4, 1)] := lg
theorem lF : Ze Go.Proofs.Try.prog 139 [.int .i64 (0), .int .i64 (0), .int .i64 (0), .int .i64 (0), .int .i64 (0)] := yC (z := .agg #[.int .i64 (0), .int .i64 (0), .int .i64 (0), .int .i64 (0), .int .i64 (0)]) (by kernel_rfl) rfl
instance : Ze Go.Proofs.Try.prog 139 [.int .i64 (0), .int .i64 (0), .int .i64 (0), .int .i64 (0), .int .i64 (0)] := lF
theorem kA : Ag Go.Proofs.Try.prog 153 3 := xf Go.Proofs.Try.underlying153 (by kernel_rfl)
instance : Ag Go.Proofs.Try.prog 153 3 := kA
theorem qP : Fd Go.Proofs.Try.prog 153 0 0 1 false := z7 Go.Proofs.Try.underlying153 (off := 0) (ft := 22) rfl Go.Proofs.Try.underlying22 (n := 1) (by kernel_rfl) rfl (by decide)
instance : Fd Go.Proofs.Try.prog 153 0 0 1 false := qP
theorem qO : Fd Go.Proofs.Try.prog 153 1 1 1 false := z7 Go.Proofs.Try.underlying153 (off := 1) (ft := 3) rfl Go.Proofs.Try.underlying3 (n := 1) (by kernel_rfl) rfl (by decide)
instance : Fd Go.Proofs.Try.prog 153 1 1 1 false := qO
theorem qN : Fd Go.Proofs.Try.prog 153 2 2 1 false := z7 Go.Proofs.Try.underlying153 (off := 2) (ft := 3) rfl Go.Proofs.Try.underlying3 (n := 1) (by kernel_rfl) rfl (by decide)
instance : Fd Go.Proofs.Try.prog 153 2 2 1 false := qN
theorem lf : Pl Go.Proofs.Try.prog 153 [(0, 1), (1, 1), (2, 1)] := xd Go.Proofs.Try.underlying153 (by kernel_rfl)
instance : Pl Go.Proofs.Try.prog 153 [(0, 1), (1, 1), (2, 1)] := lf
theorem lE : Ze Go.Proofs.Try.prog 153 [.slice none 0 0, .int .i64 (0), .int .i64 (0)] := yC (z := .agg #[.slice none 0 0, .int .i64 (0), .int .i64 (0)]) (by kernel_rfl) rfl
instance : Ze Go.Proofs.Try.prog 153 [.slice none 0 0, .int .i64 (0), .int .i64 (0)] := lE
theorem l9 : Ag Go.Proofs.Try.prog 154 3 := xf Go.Proofs.Try.underlying154 (by kernel_rfl)
instance : Ag Go.Proofs.Try.prog 154 3 := l9
theorem qM : Fd Go.Proofs.Try.prog 154 0 0 1 false := z7 Go.Proofs.Try.underlying154 (off := 0) (ft := 22) rfl Go.Proofs.Try.underlying22 (n := 1) (by kernel_rfl) rfl (by decide)
instance : Fd Go.Proofs.Try.prog 154 0 0 1 false := qM
theorem qL : Fd Go.Proofs.Try.prog 154 1 1 1 false := z7 Go.Proofs.Try.underlying154 (off := 1) (ft := 3) rfl Go.Proofs.Try.underlying3 (n := 1) (by kernel_rfl) rfl (by decide)
instance : Fd Go.Proofs.Try.prog 154 1 1 1 false := qL
theorem qK : Fd Go.Proofs.Try.prog 154 2 2 1 false := z7 Go.Proofs.Try.underlying154 (off := 2) (ft := 3) rfl Go.Proofs.Try.underlying3 (n := 1) (by kernel_rfl) rfl (by decide)
instance : Fd Go.Proofs.Try.prog 154 2 2 1 false := qK
theorem ld : Pl Go.Proofs.Try.prog 154 [(0, 1), (1, 1), (2, 1)] := xd Go.Proofs.Try.underlying154 (by kernel_rfl)
instance : Pl Go.Proofs.Try.prog 154 [(0, 1), (1, 1), (2, 1)] := ld
theorem lD : Ze Go.Proofs.Try.prog 154 [.slice none 0 0, .int .i64 (0), .int .i64 (0)] := yC (z := .agg #[.slice none 0 0, .int .i64 (0), .int .i64 (0)]) (by kernel_rfl) rfl
instance : Ze Go.Proofs.Try.prog 154 [.slice none 0 0, .int .i64 (0), .int .i64 (0)] := lD
theorem lX : Sc Go.Proofs.Try.prog 159 := yh Go.Proofs.Try.underlying159 rfl (by kernel_rfl)
instance : Sc Go.Proofs.Try.prog 159 := lX
theorem lC : Ze Go.Proofs.Try.prog 159 [.int .u64 (0)] := yC (z := .int .u64 (0)) (by kernel_rfl) rfl
instance : Ze Go.Proofs.Try.prog 159 [.int .u64 (0)] := lC
theorem lv : Ik Go.Proofs.Try.prog 159 .u64 := ⟨Go.Proofs.Try.underlying159⟩
instance : Ik Go.Proofs.Try.prog 159 .u64 := lv
theorem lW : Sc Go.Proofs.Try.prog 164 := yh Go.Proofs.Try.underlying164 rfl (by kernel_rfl)
instance : Sc Go.Proofs.Try.prog 164 := lW
theorem lB : Ze Go.Proofs.Try.prog 164 [.int .i64 (0)] := yC (z := .int .i64 (0)) (by kernel_rfl) rfl
instance : Ze Go.Proofs.Try.prog 164 [.int .i64 (0)] := lB
theorem lu : Ik Go.Proofs.Try.prog 164 .i64 := ⟨Go.Proofs.Try.underlying164⟩
instance : Ik Go.Proofs.Try.prog 164 .i64 := lu
theorem lV : Sc Go.Proofs.Try.prog 171 := yh Go.Proofs.Try.underlying171 rfl (by kernel_rfl)
instance : Sc Go.Proofs.Try.prog 171 := lV
theorem lA : Ze Go.Proofs.Try.prog 171 [.int .u32 (0)] := yC (z := .int .u32 (0)) (by kernel_rfl) rfl
instance : Ze Go.Proofs.Try.prog 171 [.int .u32 (0)] := lA
theorem lt : Ik Go.Proofs.Try.prog 171 .u32 := ⟨Go.Proofs.Try.underlying171⟩
instance : Ik Go.Proofs.Try.prog 171 .u32 := lt
theorem lU : Sc Go.Proofs.Try.prog 173 := yh Go.Proofs.Try.underlying173 rfl (by kernel_rfl)
instance : Sc Go.Proofs.Try.prog 173 := lU
theorem m9 : Ze Go.Proofs.Try.prog 173 [.int .u64 (0)] := yC (z := .int .u64 (0)) (by kernel_rfl) rfl
instance : Ze Go.Proofs.Try.prog 173 [.int .u64 (0)] := m9
theorem ls : Ik Go.Proofs.Try.prog 173 .u64 := ⟨Go.Proofs.Try.underlying173⟩
instance : Ik Go.Proofs.Try.prog 173 .u64 := ls
theorem lT : Sc Go.Proofs.Try.prog 174 := yh Go.Proofs.Try.underlying174 rfl (by kernel_rfl)
instance : Sc Go.Proofs.Try.prog 174 := lT
theorem m8 : Ze Go.Proofs.Try.prog 174 [.int .u64 (0)] := yC (z := .int .u64 (0)) (by kernel_rfl) rfl
instance : Ze Go.Proofs.Try.prog 174 [.int .u64 (0)] := m8
theorem lr : Ik Go.Proofs.Try.prog 174 .u64 := ⟨Go.Proofs.Try.underlying174⟩
instance : Ik Go.Proofs.Try.prog 174 .u64 := lr
theorem lS : Sc Go.Proofs.Try.prog 178 := yh Go.Proofs.Try.underlying178 rfl (by kernel_rfl)
instance : Sc Go.Proofs.Try.prog 178 := lS
theorem m7 : Ze Go.Proofs.Try.prog 178 [.pointer none] := yC (z := .pointer none) (by kernel_rfl) rfl
instance : Ze Go.Proofs.Try.prog 178 [.pointer none] := m7
theorem lR : Sc Go.Proofs.Try.prog 180 := yh Go.Proofs.Try.underlying180 rfl (by kernel_rfl)
instance : Sc Go.Proofs.Try.prog 180 := lR
theorem mz : Ze Go.Proofs.Try.prog 180 [.pointer none] := yC (z := .pointer none) (by kernel_rfl) rfl
instance : Ze Go.Proofs.Try.prog 180 [.pointer none] := mz
theorem lQ : Sc Go.Proofs.Try.prog 193 := yh Go.Proofs.Try.underlying193 rfl (by kernel_rfl)
instance : Sc Go.Proofs.Try.prog 193 := lQ
theorem my : Ze Go.Proofs.Try.prog 193 [.pointer none] := yC (z := .pointer none) (by kernel_rfl) rfl
instance : Ze Go.Proofs.Try.prog 193 [.pointer none] := my
def tab : Tab where
  ag := [(13, 2), (38, 1), (39, 1), (70, 3), (71, 3), (72, 7), (73, 7), (94, 5), (95, 5), (118, 3), (122, 1), (123, 1), (130, 7), (131, 7), (139, 5), (153, 3), (154, 3)]
  sc := [2, 3, 4, 5, 9, 12, 21, 22, 24, 27, 40, 46, 61, 64, 82, 84, 104, 114, 127, 159, 164, 171, 173, 174, 178, 180, 193]
  fd := [((13, 0), (0, 1, false)), ((13, 1), (1, 1, false)), ((38, 0), (0, 1, false)), ((39, 0), (0, 1, false)), ((70, 0), (0, 1, false)), ((70, 1), (1, 1, false)), ((70, 2), (2, 1, false)), ((71, 0), (0, 1, false)), ((71, 1), (1, 1, false)), ((71, 2), (2, 1, false)), ((72, 0), (0, 3, true)), ((72, 1), (3, 3, true)), ((72, 2), (6, 1, false)), ((73, 0), (0, 3, true)), ((73, 1), (3, 3, true)), ((73, 2), (6, 1, false)), ((94, 0), (0, 1, false)), ((94, 1), (1, 1, false)), ((94, 2), (2, 1, false)), ((94, 3), (3, 1, false)), ((94, 4), (4, 1, false)), ((95, 0), (0, 1, false)), ((95, 1), (1, 1, false)), ((95, 2), (2, 1, false)), ((95, 3), (3, 1, false)), ((95, 4), (4, 1, false)), ((118, 0), (0, 1, false)), ((118, 1), (1, 1, false)), ((118, 2), (2, 1, false)), ((122, 0), (0, 1, false)), ((123, 0), (0, 1, false)), ((130, 0), (0, 3, true)), ((130, 1), (3, 3, true)), ((130, 2), (6, 1, false)), ((131, 0), (0, 3, true)), ((131, 1), (3, 3, true)), ((131, 2), (6, 1, false)), ((139, 0), (0, 1, false)), ((139, 1), (1, 1, false)), ((139, 2), (2, 1, false)), ((139, 3), (3, 1, false)), ((139, 4), (4, 1, false)), ((153, 0), (0, 1, false)), ((153, 1), (1, 1, false)), ((153, 2), (2, 1, false)), ((154, 0), (0, 1, false)), ((154, 1), (1, 1, false)), ((154, 2), (2, 1, false))]
  ze := [(2, [.int .i64 (0)]), (3, [.int .i64 (0)]), (4, [.bool false]), (5, [.int .u8 (0)]), (9, [.string .empty]), (12, [.int .u64 (0)]), (13, [.string .empty, .int .u64 (0)]), (21, [.int .i32 (0)]), (22, [.slice none 0 0]), (24, [.slice none 0 0]), (27, [.slice none 0 0]), (38, [.slice none 0 0]), (39, [.slice none 0 0]), (40, [.slice none 0 0]), (46, [.slice none 0 0]), (61, [.slice none 0 0]), (64, [.slice none 0 0]), (70, [.int .i64 (0), .int .i64 (0), .int .i64 (0)]), (71, [.int .i64 (0), .int .i64 (0), .int .i64 (0)]), (72, [.int .i64 (0), .int .i64 (0), .int .i64 (0), .int .i64 (0), .int .i64 (0), .int .i64 (0), .bool false]), (73, [.int .i64 (0), .int .i64 (0), .int .i64 (0), .int .i64 (0), .int .i64 (0), .int .i64 (0), .bool false]), (82, [.slice none 0 0]), (84, [.slice none 0 0]), (94, [.int .i64 (0), .int .i64 (0), .int .i64 (0), .int .i64 (0), .int .i64 (0)]), (95, [.int .i64 (0), .int .i64 (0), .int .i64 (0), .int .i64 (0), .int .i64 (0)]), (104, [.pointer none]), (114, [.slice none 0 0]), (118, [.int .i64 (0), .int .i64 (0), .int .i64 (0)]), (122, [.slice none 0 0]), (123, [.slice none 0 0]), (127, [.slice none 0 0]), (130, [.int .i64 (0), .int .i64 (0), .int .i64 (0), .int .i64 (0), .int .i64 (0), .int .i64 (0), .bool false]), (131, [.int .i64 (0), .int .i64 (0), .int .i64 (0), .int .i64 (0), .int .i64 (0), .int .i64 (0), .bool false]), (139, [.int .i64 (0), .int .i64 (0), .int .i64 (0), .int .i64 (0), .int .i64 (0)]), (153, [.slice none 0 0, .int .i64 (0), .int .i64 (0)]), (154, [.slice none 0 0, .int .i64 (0), .int .i64 (0)]), (159, [.int .u64 (0)]), (164, [.int .i64 (0)]), (171, [.int .u32 (0)]), (173, [.int .u64 (0)]), (174, [.int .u64 (0)]), (178, [.pointer none]), (180, [.pointer none]), (193, [.pointer none])]
  pl := [(13, [(0, 1), (1, 1)]), (38, [(0, 1)]), (39, [(0, 1)]), (70, [(0, 1), (1, 1), (2, 1)]), (71, [(0, 1), (1, 1), (2, 1)]), (72, [(0, 3), (3, 3), (6, 1)]), (73, [(0, 3), (3, 3), (6, 1)]), (94, [(0, 1), (1, 1), (2, 1), (3, 1), (4, 1)]), (95, [(0, 1), (1, 1), (2, 1), (3, 1), (4, 1)]), (118, [(0, 1), (1, 1), (2, 1)]), (122, [(0, 1)]), (123, [(0, 1)]), (130, [(0, 3), (3, 3), (6, 1)]), (131, [(0, 3), (3, 3), (6, 1)]), (139, [(0, 1), (1, 1), (2, 1), (3, 1), (4, 1)]), (153, [(0, 1), (1, 1), (2, 1)]), (154, [(0, 1), (1, 1), (2, 1)])]
  sl := [(22, (5, 1, 1)), (24, (71, 3, 24)), (27, (39, 1, 24)), (40, (118, 3, 24)), (46, (123, 1, 24)), (61, (131, 7, 56)), (64, (73, 7, 56)), (82, (139, 5, 40)), (84, (95, 5, 40)), (114, (9, 1, 16)), (127, (3, 1, 8))]
  ik := [(2, .i64), (3, .i64), (5, .u8), (12, .u64), (21, .i32), (159, .u64), (164, .i64), (171, .u32), (173, .u64), (174, .u64)]
  str := [9]
  bl := [4]
instance : TabC Go.Proofs.Try.prog tab := ⟨{ ag := zQ ag13 (zQ ag38 (zQ ag39 (zQ ag70 (zQ ag71 (zQ ag72 (zQ ag73 (zQ ag94 (zQ ag95 (zQ kG (zQ kF (zQ kE (zQ kD (zQ kC (zQ kB (zQ kA (zQ l9 (xm))))))))))))))))), sc := zQ sc2 (zQ sc3 (zQ sc4 (zQ sc5 (zQ sc9 (zQ sc12 (zQ sc21 (zQ sc22 (zQ sc24 (zQ sc27 (zQ sc40 (zQ sc46 (zQ sc61 (zQ sc64 (zQ sc82 (zQ sc84 (zQ lc (zQ lZ (zQ lY (zQ lX (zQ lW (zQ lV (zQ lU (zQ lT (zQ lS (zQ lR (zQ lQ (xm))))))))))))))))))))))))))), fd := zQ nv (zQ nu (zQ nt (zQ ns (zQ nr (zQ nq (zQ np (zQ nn (zQ nm (zQ nl (zQ nk (zQ nj (zQ ni (zQ nh (zQ ng (zQ nf (zQ ne (zQ nc (zQ nb (zQ na (zQ nZ (zQ nY (zQ nX (zQ nW (zQ nV (zQ nU (zQ qg (zQ qf (zQ qe (zQ qc (zQ qb (zQ qa (zQ qZ (zQ qY (zQ qX (zQ qW (zQ qV (zQ qU (zQ qT (zQ qS (zQ qR (zQ qQ (zQ qP (zQ qO (zQ qN (zQ qM (zQ qL (zQ qK (xm)))))))))))))))))))))))))))))))))))))))))))))))), ze := zQ ze2 (zQ ze3 (zQ ze4 (zQ ze5 (zQ ze9 (zQ ze12 (zQ ze13 (zQ ze21 (zQ ze22 (zQ ze24 (zQ ze27 (zQ ze38 (zQ ze39 (zQ ze40 (zQ ze46 (zQ ze61 (zQ ze64 (zQ ze70 (zQ ze71 (zQ ze72 (zQ ze73 (zQ ze82 (zQ ze84 (zQ ze94 (zQ ze95 (zQ lN (zQ lM (zQ lL (zQ lK (zQ lJ (zQ lI (zQ lH (zQ lG (zQ lF (zQ lE (zQ lD (zQ lC (zQ lB (zQ lA (zQ m9 (zQ m8 (zQ m7 (zQ mz (zQ my (xm)))))))))))))))))))))))))))))))))))))))))))), pl := zQ pl13 (zQ pl38 (zQ pl39 (zQ pl70 (zQ pl71 (zQ pl72 (zQ pl73 (zQ pl94 (zQ pl95 (zQ lm (zQ ll (zQ lj (zQ li (zQ lh (zQ lg (zQ lf (zQ ld (xm))))))))))))))))), sl := zQ sl22 (zQ sl24 (zQ sl27 (zQ sl40 (zQ sl46 (zQ sl61 (zQ sl64 (zQ sl82 (zQ sl84 (zQ lP (zQ lO (xm))))))))))), ik := zQ ik2 (zQ ik3 (zQ ik5 (zQ ik12 (zQ ik21 (zQ lv (zQ lu (zQ lt (zQ ls (zQ lr (xm)))))))))), str := zQ str9 (xm), bl := zQ bl4 (xm) }, by kernel_rfl⟩
instance : Ent Go.Proofs.Try.prog 3 := zX Go.Proofs.Try.func3 rfl (by decide)
instance : Ent Go.Proofs.Try.prog 4 := zX Go.Proofs.Try.func4 rfl (by decide)
instance : Ent Go.Proofs.Try.prog 5 := zX Go.Proofs.Try.func5 rfl (by decide)
instance : Ent Go.Proofs.Try.prog 6 := zX Go.Proofs.Try.func6 rfl (by decide)
instance : Ent Go.Proofs.Try.prog 7 := zX Go.Proofs.Try.func7 rfl (by decide)
instance : Ent Go.Proofs.Try.prog 8 := zX Go.Proofs.Try.func8 rfl (by decide)
instance : Ent Go.Proofs.Try.prog 9 := zX Go.Proofs.Try.func9 rfl (by decide)
instance : Ent Go.Proofs.Try.prog 10 := zX Go.Proofs.Try.func10 rfl (by decide)
instance : Ent Go.Proofs.Try.prog 11 := zX Go.Proofs.Try.func11 rfl (by decide)
instance : Ent Go.Proofs.Try.prog 12 := zX Go.Proofs.Try.func12 rfl (by decide)
instance : Ent Go.Proofs.Try.prog 13 := zX Go.Proofs.Try.func13 rfl (by decide)
instance : Ent Go.Proofs.Try.prog 14 := zX Go.Proofs.Try.func14 rfl (by decide)
instance : Ent Go.Proofs.Try.prog 15 := zX Go.Proofs.Try.func15 rfl (by decide)
instance : Ent Go.Proofs.Try.prog 16 := zX Go.Proofs.Try.func16 rfl (by decide)
instance : Ent Go.Proofs.Try.prog 17 := zX Go.Proofs.Try.func17 rfl (by decide)
instance : Ent Go.Proofs.Try.prog 18 := zX Go.Proofs.Try.func18 rfl (by decide)
instance : Ent Go.Proofs.Try.prog 19 := zX Go.Proofs.Try.func19 rfl (by decide)
instance : Ent Go.Proofs.Try.prog 20 := zX Go.Proofs.Try.func20 rfl (by decide)
instance : Ent Go.Proofs.Try.prog 21 := zX Go.Proofs.Try.func21 rfl (by decide)
instance : Ent Go.Proofs.Try.prog 22 := zX Go.Proofs.Try.func22 rfl (by decide)
instance : Ent Go.Proofs.Try.prog 23 := zX Go.Proofs.Try.func23 rfl (by decide)
instance : Ent Go.Proofs.Try.prog 24 := zX Go.Proofs.Try.func24 rfl (by decide)
instance : Ent Go.Proofs.Try.prog 25 := zX Go.Proofs.Try.func25 rfl (by decide)
instance : Ent Go.Proofs.Try.prog 26 := zX Go.Proofs.Try.func26 rfl (by decide)
instance : Ent Go.Proofs.Try.prog 27 := zX Go.Proofs.Try.func27 rfl (by decide)
instance : Ent Go.Proofs.Try.prog 28 := zX Go.Proofs.Try.func28 rfl (by decide)
instance : Ent Go.Proofs.Try.prog 29 := zX Go.Proofs.Try.func29 rfl (by decide)
instance : Ent Go.Proofs.Try.prog 30 := zX Go.Proofs.Try.func30 rfl (by decide)
instance : Ent Go.Proofs.Try.prog 31 := zX Go.Proofs.Try.func31 rfl (by decide)
instance : Ent Go.Proofs.Try.prog 32 := zX Go.Proofs.Try.func32 rfl (by decide)
instance : Ent Go.Proofs.Try.prog 33 := zX Go.Proofs.Try.func33 rfl (by decide)
instance : Ent Go.Proofs.Try.prog 34 := zX Go.Proofs.Try.func34 rfl (by decide)
instance : Ent Go.Proofs.Try.prog 35 := zX Go.Proofs.Try.func35 rfl (by decide)
instance : Ent Go.Proofs.Try.prog 36 := zX Go.Proofs.Try.func36 rfl (by decide)
instance : Ent Go.Proofs.Try.prog 37 := zX Go.Proofs.Try.func37 rfl (by decide)
instance : Ent Go.Proofs.Try.prog 38 := zX Go.Proofs.Try.func38 rfl (by decide)
instance : Ent Go.Proofs.Try.prog 39 := zX Go.Proofs.Try.func39 rfl (by decide)
instance : Ent Go.Proofs.Try.prog 40 := zX Go.Proofs.Try.func40 rfl (by decide)
instance : Ent Go.Proofs.Try.prog 41 := zX Go.Proofs.Try.func41 rfl (by decide)
instance : Ent Go.Proofs.Try.prog 42 := zX Go.Proofs.Try.func42 rfl (by decide)
instance : Ent Go.Proofs.Try.prog 43 := zX Go.Proofs.Try.func43 rfl (by decide)
instance : Ent Go.Proofs.Try.prog 44 := zX Go.Proofs.Try.func44 rfl (by decide)
instance : Ent Go.Proofs.Try.prog 45 := zX Go.Proofs.Try.func45 rfl (by decide)
instance : Ent Go.Proofs.Try.prog 46 := zX Go.Proofs.Try.func46 rfl (by decide)
instance : Ent Go.Proofs.Try.prog 47 := zX Go.Proofs.Try.func47 rfl (by decide)
instance : Ent Go.Proofs.Try.prog 48 := zX Go.Proofs.Try.func48 rfl (by decide)
instance : Ent Go.Proofs.Try.prog 49 := zX Go.Proofs.Try.func49 rfl (by decide)
instance : Ent Go.Proofs.Try.prog 50 := zX Go.Proofs.Try.func50 rfl (by decide)
instance : Ent Go.Proofs.Try.prog 51 := zX Go.Proofs.Try.func51 rfl (by decide)
instance : Ent Go.Proofs.Try.prog 52 := zX Go.Proofs.Try.func52 rfl (by decide)
instance : Ent Go.Proofs.Try.prog 53 := zX Go.Proofs.Try.func53 rfl (by decide)
instance : Ent Go.Proofs.Try.prog 54 := zX Go.Proofs.Try.func54 rfl (by decide)
instance : Ent Go.Proofs.Try.prog 55 := zX Go.Proofs.Try.func55 rfl (by decide)
instance : Ent Go.Proofs.Try.prog 56 := zX Go.Proofs.Try.func56 rfl (by decide)
instance : Ent Go.Proofs.Try.prog 57 := zX Go.Proofs.Try.func57 rfl (by decide)
instance : Ent Go.Proofs.Try.prog 58 := zX Go.Proofs.Try.func58 rfl (by decide)
instance : Ent Go.Proofs.Try.prog 59 := zX Go.Proofs.Try.func59 rfl (by decide)
instance : Ent Go.Proofs.Try.prog 60 := zX Go.Proofs.Try.func60 rfl (by decide)
instance : Ent Go.Proofs.Try.prog 61 := zX Go.Proofs.Try.func61 rfl (by decide)
instance : Ent Go.Proofs.Try.prog 62 := zX Go.Proofs.Try.func62 rfl (by decide)
instance : Ent Go.Proofs.Try.prog 63 := zX Go.Proofs.Try.func63 rfl (by decide)
instance : Ent Go.Proofs.Try.prog 64 := zX Go.Proofs.Try.func64 rfl (by decide)
instance : Ent Go.Proofs.Try.prog 65 := zX Go.Proofs.Try.func65 rfl (by decide)
instance : Ent Go.Proofs.Try.prog 66 := zX Go.Proofs.Try.func66 rfl (by decide)
instance : Ent Go.Proofs.Try.prog 67 := zX Go.Proofs.Try.func67 rfl (by decide)
instance : Ent Go.Proofs.Try.prog 68 := zX Go.Proofs.Try.func68 rfl (by decide)
instance : Ent Go.Proofs.Try.prog 69 := zX Go.Proofs.Try.func69 rfl (by decide)
instance : Ent Go.Proofs.Try.prog 70 := zX Go.Proofs.Try.func70 rfl (by decide)
instance : Ent Go.Proofs.Try.prog 71 := zX Go.Proofs.Try.func71 rfl (by decide)
instance : Ent Go.Proofs.Try.prog 72 := zX Go.Proofs.Try.func72 rfl (by decide)
instance : Ent Go.Proofs.Try.prog 73 := zX Go.Proofs.Try.func73 rfl (by decide)
instance : Ent Go.Proofs.Try.prog 74 := zX Go.Proofs.Try.func74 rfl (by decide)
instance : Ent Go.Proofs.Try.prog 75 := zX Go.Proofs.Try.func75 rfl (by decide)
instance : Ent Go.Proofs.Try.prog 76 := zX Go.Proofs.Try.func76 rfl (by decide)
instance : Ent Go.Proofs.Try.prog 77 := zX Go.Proofs.Try.func77 rfl (by decide)
instance : Ent Go.Proofs.Try.prog 78 := zX Go.Proofs.Try.func78 rfl (by decide)
instance : Ent Go.Proofs.Try.prog 79 := zX Go.Proofs.Try.func79 rfl (by decide)
instance : Ent Go.Proofs.Try.prog 80 := zX Go.Proofs.Try.func80 rfl (by decide)
instance : Ent Go.Proofs.Try.prog 81 := zX Go.Proofs.Try.func81 rfl (by decide)
instance : Ent Go.Proofs.Try.prog 82 := zX Go.Proofs.Try.func82 rfl (by decide)
instance : Ent Go.Proofs.Try.prog 83 := zX Go.Proofs.Try.func83 rfl (by decide)
instance : Ent Go.Proofs.Try.prog 84 := zX Go.Proofs.Try.func84 rfl (by decide)
instance : Ent Go.Proofs.Try.prog 85 := zX Go.Proofs.Try.func85 rfl (by decide)
instance : Ent Go.Proofs.Try.prog 86 := zX Go.Proofs.Try.func86 rfl (by decide)
instance : Ent Go.Proofs.Try.prog 87 := zX Go.Proofs.Try.func87 rfl (by decide)
instance : Ent Go.Proofs.Try.prog 88 := zX Go.Proofs.Try.func88 rfl (by decide)
instance : Ent Go.Proofs.Try.prog 89 := zX Go.Proofs.Try.func89 rfl (by decide)
instance : Ent Go.Proofs.Try.prog 90 := zX Go.Proofs.Try.func90 rfl (by decide)
instance : Ent Go.Proofs.Try.prog 91 := zX Go.Proofs.Try.func91 rfl (by decide)
instance : Ent Go.Proofs.Try.prog 92 := zX Go.Proofs.Try.func92 rfl (by decide)
instance : Ent Go.Proofs.Try.prog 93 := zX Go.Proofs.Try.func93 rfl (by decide)
instance : Ent Go.Proofs.Try.prog 94 := zX Go.Proofs.Try.func94 rfl (by decide)
instance : Ent Go.Proofs.Try.prog 95 := zX Go.Proofs.Try.func95 rfl (by decide)
instance : Ent Go.Proofs.Try.prog 96 := zX Go.Proofs.Try.func96 rfl (by decide)
instance : Ent Go.Proofs.Try.prog 97 := zX Go.Proofs.Try.func97 rfl (by decide)
instance : Ent Go.Proofs.Try.prog 98 := zX Go.Proofs.Try.func98 rfl (by decide)
instance : Ent Go.Proofs.Try.prog 99 := zX Go.Proofs.Try.func99 rfl (by decide)
instance : Ent Go.Proofs.Try.prog 100 := zX Go.Proofs.Try.func100 rfl (by decide)
instance : Ent Go.Proofs.Try.prog 101 := zX Go.Proofs.Try.func101 rfl (by decide)
instance : Ent Go.Proofs.Try.prog 102 := zX Go.Proofs.Try.func102 rfl (by decide)
instance : Ent Go.Proofs.Try.prog 103 := zX Go.Proofs.Try.func103 rfl (by decide)
instance : Ent Go.Proofs.Try.prog 104 := zX Go.Proofs.Try.func104 rfl (by decide)
instance : Ent Go.Proofs.Try.prog 105 := zX Go.Proofs.Try.func105 rfl (by decide)
instance : Ent Go.Proofs.Try.prog 106 := zX Go.Proofs.Try.func106 rfl (by decide)
instance : Ent Go.Proofs.Try.prog 107 := zX Go.Proofs.Try.func107 rfl (by decide)
instance : Ent Go.Proofs.Try.prog 108 := zX Go.Proofs.Try.func108 rfl (by decide)
instance : Ent Go.Proofs.Try.prog 109 := zX Go.Proofs.Try.func109 rfl (by decide)
instance : Ent Go.Proofs.Try.prog 110 := zX Go.Proofs.Try.func110 rfl (by decide)
instance : Ent Go.Proofs.Try.prog 111 := zX Go.Proofs.Try.func111 rfl (by decide)
instance : Ent Go.Proofs.Try.prog 112 := zX Go.Proofs.Try.func112 rfl (by decide)
instance : Ent Go.Proofs.Try.prog 113 := zX Go.Proofs.Try.func113 rfl (by decide)
instance : Ent Go.Proofs.Try.prog 114 := zX Go.Proofs.Try.func114 rfl (by decide)
instance : Ent Go.Proofs.Try.prog 115 := zX Go.Proofs.Try.func115 rfl (by decide)
instance : Ent Go.Proofs.Try.prog 116 := zX Go.Proofs.Try.func116 rfl (by decide)
instance : Ent Go.Proofs.Try.prog 117 := zX Go.Proofs.Try.func117 rfl (by decide)
instance : Ent Go.Proofs.Try.prog 118 := zX Go.Proofs.Try.func118 rfl (by decide)
instance : Ent Go.Proofs.Try.prog 119 := zX Go.Proofs.Try.func119 rfl (by decide)
instance : Ent Go.Proofs.Try.prog 120 := zX Go.Proofs.Try.func120 rfl (by decide)
instance : Ent Go.Proofs.Try.prog 121 := zX Go.Proofs.Try.func121 rfl (by decide)
instance : Ent Go.Proofs.Try.prog 122 := zX Go.Proofs.Try.func122 rfl (by decide)
instance : Ent Go.Proofs.Try.prog 123 := zX Go.Proofs.Try.func123 rfl (by decide)
instance : Ent Go.Proofs.Try.prog 124 := zX Go.Proofs.Try.func124 rfl (by decide)
instance : Ent Go.Proofs.Try.prog 125 := zX Go.Proofs.Try.func125 rfl (by decide)
instance : Ent Go.Proofs.Try.prog 126 := zX Go.Proofs.Try.func126 rfl (by decide)
instance : Ent Go.Proofs.Try.prog 127 := zX Go.Proofs.Try.func127 rfl (by decide)
instance : Ent Go.Proofs.Try.prog 128 := zX Go.Proofs.Try.func128 rfl (by decide)
instance : Ent Go.Proofs.Try.prog 129 := zX Go.Proofs.Try.func129 rfl (by decide)
instance : Ent Go.Proofs.Try.prog 130 := zX Go.Proofs.Try.func130 rfl (by decide)
instance : Ent Go.Proofs.Try.prog 131 := zX Go.Proofs.Try.func131 rfl (by decide)
instance : Ent Go.Proofs.Try.prog 132 := zX Go.Proofs.Try.func132 rfl (by decide)
instance : Ent Go.Proofs.Try.prog 133 := zX Go.Proofs.Try.func133 rfl (by decide)
instance : Ent Go.Proofs.Try.prog 134 := zX Go.Proofs.Try.func134 rfl (by decide)
instance : Ent Go.Proofs.Try.prog 135 := zX Go.Proofs.Try.func135 rfl (by decide)
instance : Ent Go.Proofs.Try.prog 136 := zX Go.Proofs.Try.func136 rfl (by decide)
instance : Ent Go.Proofs.Try.prog 137 := zX Go.Proofs.Try.func137 rfl (by decide)
instance : Ent Go.Proofs.Try.prog 138 := zX Go.Proofs.Try.func138 rfl (by decide)
instance : Ent Go.Proofs.Try.prog 139 := zX Go.Proofs.Try.func139 rfl (by decide)
instance : Ent Go.Proofs.Try.prog 140 := zX Go.Proofs.Try.func140 rfl (by decide)
instance : Ent Go.Proofs.Try.prog 141 := zX Go.Proofs.Try.func141 rfl (by decide)
instance : Ent Go.Proofs.Try.prog 142 := zX Go.Proofs.Try.func142 rfl (by decide)
instance : Ent Go.Proofs.Try.prog 143 := zX Go.Proofs.Try.func143 rfl (by decide)
instance : Ent Go.Proofs.Try.prog 144 := zX Go.Proofs.Try.func144 rfl (by decide)
instance : Ent Go.Proofs.Try.prog 145 := zX Go.Proofs.Try.func145 rfl (by decide)
instance : Ent Go.Proofs.Try.prog 146 := zX Go.Proofs.Try.func146 rfl (by decide)
instance : Ent Go.Proofs.Try.prog 147 := zX Go.Proofs.Try.func147 rfl (by decide)
instance : Ent Go.Proofs.Try.prog 148 := zX Go.Proofs.Try.func148 rfl (by decide)
instance : Ent Go.Proofs.Try.prog 149 := zX Go.Proofs.Try.func149 rfl (by decide)
instance : Ent Go.Proofs.Try.prog 150 := zX Go.Proofs.Try.func150 rfl (by decide)
instance : Ent Go.Proofs.Try.prog 151 := zX Go.Proofs.Try.func151 rfl (by decide)
instance : Ent Go.Proofs.Try.prog 152 := zX Go.Proofs.Try.func152 rfl (by decide)
instance : Ent Go.Proofs.Try.prog 153 := zX Go.Proofs.Try.func153 rfl (by decide)
instance : Ent Go.Proofs.Try.prog 154 := zX Go.Proofs.Try.func154 rfl (by decide)
instance : Ent Go.Proofs.Try.prog 155 := zX Go.Proofs.Try.func155 rfl (by decide)
instance : Ent Go.Proofs.Try.prog 156 := zX Go.Proofs.Try.func156 rfl (by decide)
instance : Ent Go.Proofs.Try.prog 157 := zX Go.Proofs.Try.func157 rfl (by decide)
instance : Ent Go.Proofs.Try.prog 158 := zX Go.Proofs.Try.func158 rfl (by decide)
instance : Ent Go.Proofs.Try.prog 159 := zX Go.Proofs.Try.func159 rfl (by decide)
instance : Ent Go.Proofs.Try.prog 160 := zX Go.Proofs.Try.func160 rfl (by decide)
instance : Ent Go.Proofs.Try.prog 161 := zX Go.Proofs.Try.func161 rfl (by decide)
instance : Ent Go.Proofs.Try.prog 162 := zX Go.Proofs.Try.func162 rfl (by decide)
instance : Ent Go.Proofs.Try.prog 163 := zX Go.Proofs.Try.func163 rfl (by decide)
instance : Ent Go.Proofs.Try.prog 164 := zX Go.Proofs.Try.func164 rfl (by decide)
instance : Ent Go.Proofs.Try.prog 165 := zX Go.Proofs.Try.func165 rfl (by decide)
instance : Ent Go.Proofs.Try.prog 166 := zX Go.Proofs.Try.func166 rfl (by decide)
instance : Ent Go.Proofs.Try.prog 167 := zX Go.Proofs.Try.func167 rfl (by decide)
instance : Ent Go.Proofs.Try.prog 168 := zX Go.Proofs.Try.func168 rfl (by decide)
instance : Ent Go.Proofs.Try.prog 169 := zX Go.Proofs.Try.func169 rfl (by decide)
instance : Ent Go.Proofs.Try.prog 170 := zX Go.Proofs.Try.func170 rfl (by decide)
instance : Ent Go.Proofs.Try.prog 171 := zX Go.Proofs.Try.func171 rfl (by decide)
instance : Ent Go.Proofs.Try.prog 172 := zX Go.Proofs.Try.func172 rfl (by decide)
instance : Ent Go.Proofs.Try.prog 173 := zX Go.Proofs.Try.func173 rfl (by decide)
instance : Ent Go.Proofs.Try.prog 174 := zX Go.Proofs.Try.func174 rfl (by decide)
instance : Ent Go.Proofs.Try.prog 175 := zX Go.Proofs.Try.func175 rfl (by decide)
instance : Ent Go.Proofs.Try.prog 176 := zX Go.Proofs.Try.func176 rfl (by decide)
instance : Ent Go.Proofs.Try.prog 177 := zX Go.Proofs.Try.func177 rfl (by decide)
instance : Ent Go.Proofs.Try.prog 178 := zX Go.Proofs.Try.func178 rfl (by decide)
instance : Ent Go.Proofs.Try.prog 179 := zX Go.Proofs.Try.func179 rfl (by decide)
instance : Ent Go.Proofs.Try.prog 180 := zX Go.Proofs.Try.func180 rfl (by decide)
instance : Ent Go.Proofs.Try.prog 181 := zX Go.Proofs.Try.func181 rfl (by decide)
instance : Ent Go.Proofs.Try.prog 182 := zX Go.Proofs.Try.func182 rfl (by decide)
instance : Ent Go.Proofs.Try.prog 183 := zX Go.Proofs.Try.func183 rfl (by decide)
instance : Ent Go.Proofs.Try.prog 184 := zX Go.Proofs.Try.func184 rfl (by decide)
instance : Ent Go.Proofs.Try.prog 185 := zX Go.Proofs.Try.func185 rfl (by decide)
instance : Ent Go.Proofs.Try.prog 186 := zX Go.Proofs.Try.func186 rfl (by decide)
end Go.Proofs.Ytkcicbigpbdjpaa.Ab
namespace Go.Proofs.Ytkcicbigpbdjpaa.Ab
open Go.RowKit
def u8T : Ty Int := ⟨1, fun n => [.k (.int .u8 n)], fun _ => rfl, by decide, fun r c hc => by
  simp only [List.mem_cons, List.not_mem_nil, or_false] at hc
  subst hc
  exact ⟨rfl, rfl⟩⟩
structure Cur where
  code : List Int
  pos : Nat
  seed : Int
abbrev yN (c : Cur) : Reg := ⟨154, 3, [yy u8T c.code, I c.pos, I c.seed], 0⟩
def tn (s : Int) : Int := IntKind.i64.wrap (IntKind.i64.wrap (s * 6364136223846793005) + 1442695040888963407)
def mQ (s : Int) : Int := ut .i64 (kc .i64 (wS .i64 (tn s) 33) (wS .i64 (tn s) 45)) 255
def wJ (c : Cur) : Int := match c.code[c.pos]? with
  | some b => ut .i64 (IntKind.i64.wrap (mQ c.seed + IntKind.i64.wrap b)) 255
  | none => mQ c.seed
def yk (c : Cur) : Cur := ⟨c.code, match c.code[c.pos]? with | some _ => c.pos + 1 | none => c.pos, tn c.seed⟩
theorem xe (c : Cur) : 0 ≤ wJ c ∧ wJ c ≤ 255 := by
  unfold wJ
  split
  · exact sN _
  · exact sN _
theorem v7 (c : Cur) (hl : c.code.length ≤ 1000000000) : zn Go.Proofs.Try.prog 163 [.ptr 0 0] [yN c] (I (wJ c)) [yN (yk c)] true := by
  refine zj [2] Go.Proofs.Try.func163 rfl rfl ?_
  simp only [Go.Proofs.Try.ntmps163, List.length_cons, List.length_nil, Nat.reduceAdd, Nat.reduceSub, List.replicate_succ, List.replicate_zero, List.cons_append, List.nil_append]
  repeat' first | refine zJ ?_ | refine zA ?_ | refine zO [] ?_ | (refine isA ?_; refine zb rfl ?_) | (refine isL ?_; refine zU rfl (by kernel_rfl) rfl rfl ?_) | (refine za rfl ?_; refine zT rfl (by kernel_rfl) rfl rfl ?_) | (refine isL ?_; refine zY rfl (by kernel_rfl) rfl (y5 (n := 33) rfl rfl rfl) rfl ?_) | (refine isL ?_; refine zY rfl (by kernel_rfl) rfl (y5 (n := 45) rfl rfl rfl) rfl ?_) | (refine isL ?_; refine zY rfl (by kernel_rfl) rfl (pc rfl rfl rfl) rfl ?_) | (refine isL ?_; refine zY rfl (by kernel_rfl) rfl (uY rfl rfl rfl) rfl ?_) | refine zD ?_ | refine zB _ rfl (by kernel_rfl) ?_ | refine zV rfl ?_ | refine zW rfl ?_ | refine zC ?_ | with_reducible refine zM ?_ | refine zH ?_ | refine zI ?_ | (with_reducible first | refine zK ?_ | refine zL ?_ | refine zE ?_ | refine zG ?_ | refine zF ?_) | refine zN ?_
  refine zf rfl (fun h => ?_) (fun h => ?_)
  · have hlt : c.pos < c.code.length := by have := of_decide_eq_true h; omega
    obtain ⟨z, hz⟩ : ∃ z, c.code[c.pos]? = some z := ⟨_, List.getElem?_eq_getElem hlt⟩
    have e1 : wJ c = ut .i64 (IntKind.i64.wrap (mQ c.seed + IntKind.i64.wrap z)) 255 := by rw [wJ, hz]
    have e2 : yk c = ⟨c.code, c.pos + 1, tn c.seed⟩ := by rw [yk, hz]
    repeat' first | refine zJ ?_ | refine zA ?_ | refine zO [] ?_ | (refine isA ?_; refine zb rfl ?_) | (refine isL ?_; refine zU rfl (by kernel_rfl) rfl rfl ?_) | (refine za rfl ?_; refine zT rfl (by kernel_rfl) rfl rfl ?_) | (refine yn ?_; refine zd rfl (yT (t := u8T) (z := z) rfl rfl rfl rfl (Int.natCast_nonneg c.pos) hz) rfl ?_) | (refine ym rfl ?_; refine zY rfl (by kernel_rfl) rfl (yT (t := u8T) (z := z) rfl rfl rfl rfl (Int.natCast_nonneg c.pos) hz) rfl ?_) | (refine isL ?_; refine zY rfl (by kernel_rfl) rfl (uY rfl rfl rfl) rfl ?_) | exact (by rw [e1, e2]; exact vJ 1 [0] yF (by decide) rfl (le_refl rfl) (.cons rfl rfl rfl rfl (zc (le_refl rfl) (zc (xP hlt (by omega)) (zc (le_refl rfl) zh))) .nil)) | refine zD ?_ | refine zB _ rfl (by kernel_rfl) ?_ | refine zV rfl ?_ | refine zW rfl ?_ | refine zC ?_ | with_reducible refine zM ?_ | refine zH ?_ | refine zI ?_ | (with_reducible first | refine zK ?_ | refine zL ?_ | refine zE ?_ | refine zG ?_ | refine zF ?_) | refine zN ?_
  · have hge : c.code.length ≤ c.pos := by have := of_decide_eq_false h; omega
    have hz : c.code[c.pos]? = none := List.getElem?_eq_none hge
    have e1 : wJ c = mQ c.seed := by rw [wJ, hz]
    have e2 : yk c = ⟨c.code, c.pos, tn c.seed⟩ := by rw [yk, hz]
    repeat' first | refine zJ ?_ | refine zA ?_ | refine zO [] ?_ | (refine isA ?_; refine zb rfl ?_) | (refine isL ?_; refine zU rfl (by kernel_rfl) rfl rfl ?_) | (refine za rfl ?_; refine zT rfl (by kernel_rfl) rfl rfl ?_) | exact (by rw [e1, e2]; exact vJ 1 [0] yF (by decide) rfl (le_refl rfl) (.cons rfl rfl rfl rfl (by repeat' first | exact zh | refine zc ?_ ?_ | exact zl | exact le_refl rfl | exact zm rfl rfl | exact zz rfl) .nil)) | refine zD ?_ | refine zB _ rfl (by kernel_rfl) ?_ | refine zV rfl ?_ | refine zW rfl ?_ | refine zC ?_ | with_reducible refine zM ?_ | refine zH ?_ | refine zI ?_ | (with_reducible first | refine zK ?_ | refine zL ?_ | refine zE ?_ | refine zG ?_ | refine zF ?_) | refine zN ?_
end Go.Proofs.Ytkcicbigpbdjpaa.Ab
namespace Go.Proofs.Ytkcicbigpbdjpaa.Ab
open Go.RowKit
theorem zP (c : Cur) : NoH (yN c).cells := vW rfl
def kN (a b c d : Int) : Int := IntKind.i64.wrap (IntKind.i64.wrap (IntKind.i64.wrap (IntKind.i64.wrap (a * 16777216) + IntKind.i64.wrap (b * 65536)) + IntKind.i64.wrap (c * 256)) + d)
theorem nL {a b c d : Int} (ha : 0 ≤ a ∧ a ≤ 255) (hb : 0 ≤ b ∧ b ≤ 255) (hc : 0 ≤ c ∧ c ≤ 255) (hd : 0 ≤ d ∧ d ≤ 255) : 0 ≤ kN a b c d := by
  have e1 : IntKind.i64.wrap (a * 16777216) = a * 16777216 := by rw [IntKind.wrap_i64]; omega
  have e2 : IntKind.i64.wrap (b * 65536) = b * 65536 := by rw [IntKind.wrap_i64]; omega
  have e3 : IntKind.i64.wrap (c * 256) = c * 256 := by rw [IntKind.wrap_i64]; omega
  have e4 : IntKind.i64.wrap (a * 16777216 + b * 65536) = a * 16777216 + b * 65536 := by rw [IntKind.wrap_i64]; omega
  have e5 : IntKind.i64.wrap (a * 16777216 + b * 65536 + c * 256) = a * 16777216 + b * 65536 + c * 256 := by rw [IntKind.wrap_i64]; omega
  have e6 : IntKind.i64.wrap (a * 16777216 + b * 65536 + c * 256 + d) = a * 16777216 + b * 65536 + c * 256 + d := by rw [IntKind.wrap_i64]; omega
  rw [kN, e1, e2, e4, e3, e5, e6]
  omega
def beV (n : Int) (c : Cur) : Int := cond (decide (n ≤ 0)) 0 (cond (decide (n ≤ 256)) ((wJ c).tmod n) ((kN (wJ c) (wJ (yk c)) (wJ (yk (yk c))) (wJ (yk (yk (yk c))))).tmod n))
def beC (n : Int) (c : Cur) : Cur := cond (decide (n ≤ 0)) c (cond (decide (n ≤ 256)) (yk c) (yk (yk (yk (yk c)))))
theorem yK (n : Int) (c : Cur) : (beC n c).code = c.code := by
  unfold beC
  cases decide (n ≤ 0) <;> cases decide (n ≤ 256) <;> rfl
theorem xG {n : Int} (h : 0 < n) (c : Cur) : 0 ≤ beV n c ∧ beV n c < n := by
  have h0 : decide (n ≤ 0) = false := decide_eq_false (by omega)
  unfold beV
  rw [h0, cond_false]
  cases decide (n ≤ 256) with
  | true => exact ⟨Int.tmod_nonneg _ (xe c).1, Int.tmod_lt_of_pos _ h⟩
  | false => exact ⟨Int.tmod_nonneg _ (nL (xe _) (xe _) (xe _) (xe _)), Int.tmod_lt_of_pos _ h⟩
theorem y0 (n : Int) (c : Cur) (hl : c.code.length ≤ 1000000000) : zn Go.Proofs.Try.prog 143 [.ptr 0 0, I n] [yN c] (I (beV n c)) [yN (beC n c)] true := by
  refine zj [4] Go.Proofs.Try.func143 rfl rfl ?_
  simp only [Go.Proofs.Try.ntmps143, List.length_cons, List.length_nil, Nat.reduceAdd, Nat.reduceSub, List.replicate_succ, List.replicate_zero, List.cons_append, List.nil_append]
  repeat' first | refine zJ ?_ | refine zA ?_ | refine zO [] ?_ | (refine isA ?_; refine zb rfl ?_) | (refine isL ?_; refine zU rfl (by kernel_rfl) rfl rfl ?_) | (refine za rfl ?_; refine zT rfl (by kernel_rfl) rfl rfl ?_) | refine zD ?_ | refine zB _ rfl (by kernel_rfl) ?_ | refine zV rfl ?_ | refine zW rfl ?_ | refine zC ?_ | with_reducible refine zM ?_ | refine zH ?_ | refine zI ?_ | (with_reducible first | refine zK ?_ | refine zL ?_ | refine zE ?_ | refine zG ?_ | refine zF ?_) | refine zN ?_
  refine zf rfl (fun h => ?_) (fun h => ?_)
  · repeat' first | refine zJ ?_ | refine zA ?_ | refine zO [] ?_ | (refine isA ?_; refine zb rfl ?_) | (refine isL ?_; refine zU rfl (by kernel_rfl) rfl rfl ?_) | (refine za rfl ?_; refine zT rfl (by kernel_rfl) rfl rfl ?_) | exact (by rw [beV, beC, h]; exact vJ 1 [0] yF (by decide) rfl (le_refl rfl) (.cons rfl rfl rfl rfl (zg (zP c)) .nil)) | refine zD ?_ | refine zB _ rfl (by kernel_rfl) ?_ | refine zV rfl ?_ | refine zW rfl ?_ | refine zC ?_ | with_reducible refine zM ?_ | refine zH ?_ | refine zI ?_ | (with_reducible first | refine zK ?_ | refine zL ?_ | refine zE ?_ | refine zG ?_ | refine zF ?_) | refine zN ?_
  · have hn : n ≠ 0 := by have := of_decide_eq_false h; omega
    repeat' first | refine zJ ?_ | refine zA ?_ | refine zO [] ?_ | (refine isA ?_; refine zb rfl ?_) | (refine isL ?_; refine zU rfl (by kernel_rfl) rfl rfl ?_) | (refine za rfl ?_; refine zT rfl (by kernel_rfl) rfl rfl ?_) | refine zD ?_ | refine zB _ rfl (by kernel_rfl) ?_ | refine zV rfl ?_ | refine zW rfl ?_ | refine zC ?_ | with_reducible refine zM ?_ | refine zH ?_ | refine zI ?_ | (with_reducible first | refine zK ?_ | refine zL ?_ | refine zE ?_ | refine zG ?_ | refine zF ?_) | refine zN ?_
    refine zf rfl (fun h' => ?_) (fun h' => ?_)
    · repeat' first | refine zJ ?_ | refine zA ?_ | refine zO [] ?_ | (refine isA ?_; refine zb rfl ?_) | (refine isL ?_; refine zU rfl (by kernel_rfl) rfl rfl ?_) | (refine za rfl ?_; refine zT rfl (by kernel_rfl) rfl rfl ?_) | (refine zq 163 ?_; refine zd rfl (zS (K := []) (Rs' := [_]) [0] (by decide) rfl (v7 c hl) (.cons rfl rfl rfl (zP _) (zP _) .nil) (.cons (.ptr rfl) .nil) (fun q hq => by cases hq) rfl) rfl ?_) | (refine zr 163 rfl ?_; refine zY rfl (by kernel_rfl) rfl (zS (K := []) (Rs' := [_]) [0] (by decide) rfl (v7 c hl) (.cons rfl rfl rfl (zP _) (zP _) .nil) (.cons (.ptr rfl) .nil) (fun q hq => by cases hq) rfl) rfl ?_) | (refine isA ?_; refine zd rfl (uW rfl rfl rfl hn) rfl ?_) | exact (by rw [beV, beC, h, h']; exact vJ 1 [0] yF (by decide) rfl (le_refl rfl) (.cons rfl rfl rfl rfl (zg (zP (yk c))) .nil)) | refine zD ?_ | refine zB _ rfl (by kernel_rfl) ?_ | refine zV rfl ?_ | refine zW rfl ?_ | refine zC ?_ | with_reducible refine zM ?_ | refine zH ?_ | refine zI ?_ | (with_reducible first | refine zK ?_ | refine zL ?_ | refine zE ?_ | refine zG ?_ | refine zF ?_) | refine zN ?_
    · repeat' first | refine zJ ?_ | refine zA ?_ | refine zO [] ?_ | (refine isA ?_; refine zb rfl ?_) | (refine isL ?_; refine zU rfl (by kernel_rfl) rfl rfl ?_) | (refine za rfl ?_; refine zT rfl (by kernel_rfl) rfl rfl ?_) | (refine zq 163 (x := #[.tmp 17]) ?_; refine zd rfl (zS (K := []) (Rs' := [_]) [0] (by decide) rfl (v7 c hl) (.cons rfl rfl rfl (zP _) (zP _) .nil) (.cons (.ptr rfl) .nil) (fun q hq => by cases hq) rfl) rfl ?_) | (refine zq 163 (x := #[.tmp 19]) ?_; refine zd rfl (zS (K := []) (Rs' := [_]) [0] (by decide) rfl (v7 (yk c) hl) (.cons rfl rfl rfl (zP _) (zP _) .nil) (.cons (.ptr rfl) .nil) (fun q hq => by cases hq) rfl) rfl ?_) | (refine zq 163 (x := #[.tmp 21]) ?_; refine zd rfl (zS (K := []) (Rs' := [_]) [0] (by decide) rfl (v7 (yk (yk c)) hl) (.cons rfl rfl rfl (zP _) (zP _) .nil) (.cons (.ptr rfl) .nil) (fun q hq => by cases hq) rfl) rfl ?_) | (refine zq 163 (x := #[.tmp 23]) ?_; refine zd rfl (zS (K := []) (Rs' := [_]) [0] (by decide) rfl (v7 (yk (yk (yk c))) hl) (.cons rfl rfl rfl (zP _) (zP _) .nil) (.cons (.ptr rfl) .nil) (fun q hq => by cases hq) rfl) rfl ?_) | (refine isA ?_; refine zd rfl (uW rfl rfl rfl hn) rfl ?_) | exact (by rw [beV, beC, h, h']; exact vJ 1 [0] yF (by decide) rfl (le_refl rfl) (.cons rfl rfl rfl rfl (zg (zP (yk (yk (yk (yk c)))))) .nil)) | refine zD ?_ | refine zB _ rfl (by kernel_rfl) ?_ | refine zV rfl ?_ | refine zW rfl ?_ | refine zC ?_ | with_reducible refine zM ?_ | refine zH ?_ | refine zI ?_ | (with_reducible first | refine zK ?_ | refine zL ?_ | refine zE ?_ | refine zG ?_ | refine zF ?_) | refine zN ?_
theorem uo (n : Int) (c : Cur) (hl : c.code.length ≤ 1000000000) : zn Go.Proofs.Try.prog 128 [.ptr 0 0, I n] [yN c] (B (decide (beV n c = 0))) [yN (beC n c)] true := by
  refine zj [4] Go.Proofs.Try.func128 rfl rfl ?_
  simp only [Go.Proofs.Try.ntmps128, List.length_cons, List.length_nil, Nat.reduceAdd, Nat.reduceSub, List.replicate_succ, List.replicate_zero, List.cons_append, List.nil_append]
  repeat' first | refine zJ ?_ | refine zA ?_ | refine zO [] ?_ | (refine isA ?_; refine zb rfl ?_) | (refine isL ?_; refine zU rfl (by kernel_rfl) rfl rfl ?_) | (refine za rfl ?_; refine zT rfl (by kernel_rfl) rfl rfl ?_) | (refine zq 143 ?_; refine zd rfl (zS (K := []) (Rs' := [_]) [0] (by decide) rfl (y0 n c hl) (.cons rfl rfl rfl (zP _) (zP _) .nil) (.cons (.ptr rfl) (.cons (.same rfl) .nil)) (fun q hq => by cases hq) rfl) rfl ?_) | (refine zr 143 rfl ?_; refine zY rfl (by kernel_rfl) rfl (zS (K := []) (Rs' := [_]) [0] (by decide) rfl (y0 n c hl) (.cons rfl rfl rfl (zP _) (zP _) .nil) (.cons (.ptr rfl) (.cons (.same rfl) .nil)) (fun q hq => by cases hq) rfl) rfl ?_) | exact vJ 1 [0] yF (by decide) rfl (le_refl rfl) (.cons rfl rfl rfl rfl (zg (zP _)) .nil) | refine zD ?_ | refine zB _ rfl (by kernel_rfl) ?_ | refine zV rfl ?_ | refine zW rfl ?_ | refine zC ?_ | with_reducible refine zM ?_ | refine zH ?_ | refine zI ?_ | (with_reducible first | refine zK ?_ | refine zL ?_ | refine zE ?_ | refine zG ?_ | refine zF ?_) | refine zN ?_
theorem ld_at {P : Program} {o : Oper} {ρ : Operand → V} {H : List Reg} {t i : Nat} {x : Operand} {cs : List V} {v : V} [ht : Sc P t] (ho : o.op = .load t x) (hx : ρ x = .pref (cs.drop i)) (hz : cs[i]? = some v) : zu P o ρ H v H := by
  have hlt := (List.getElem?_eq_some_iff.1 hz).1
  rw [List.drop_eq_getElem_cons hlt] at hx
  have hv : cs[i] = v := by rw [List.getElem?_eq_getElem hlt] at hz; exact Option.some.inj hz
  rw [hv] at hx
  exact wa ho hx
theorem kY (xs : List V) (n : Nat) (z : Int) (c : Cur) (hl : c.code.length ≤ 1000000000) (h0 : 0 < n) (hz : xs[(beV n c).toNat]? = some (I z)) : zn Go.Proofs.Try.prog 131 [.ptr 0 0, .lst n xs] [yN c] (I z) [yN (beC n c)] true := by
  obtain ⟨r0, r1⟩ := xG (n := n) (by omega) c
  refine zj [4] Go.Proofs.Try.func131 rfl rfl ?_
  simp only [Go.Proofs.Try.ntmps131, List.length_cons, List.length_nil, Nat.reduceAdd, Nat.reduceSub, List.replicate_succ, List.replicate_zero, List.cons_append, List.nil_append]
  repeat' first | refine zJ ?_ | refine zA ?_ | refine zO [] ?_ | (refine isA ?_; refine zb rfl ?_) | (refine isL ?_; refine zU rfl (by kernel_rfl) rfl rfl ?_) | (refine za rfl ?_; refine zT rfl (by kernel_rfl) rfl rfl ?_) | (refine zq 143 ?_; refine zd rfl (zS (K := []) (Rs' := [_]) [0] (by decide) rfl (y0 n c hl) (.cons rfl rfl rfl (zP _) (zP _) .nil) (.cons (.ptr rfl) (.cons (.same rfl) .nil)) (fun q hq => by cases hq) rfl) rfl ?_) | (refine zr 143 rfl ?_; refine zY rfl (by kernel_rfl) rfl (zS (K := []) (Rs' := [_]) [0] (by decide) rfl (y0 n c hl) (.cons rfl rfl rfl (zP _) (zP _) .nil) (.cons (.ptr rfl) (.cons (.same rfl) .nil)) (fun q hq => by cases hq) rfl) rfl ?_) | (refine yn ?_; refine zd rfl (wb rfl rfl rfl r0 r1) rfl ?_) | (refine ym rfl ?_; refine zY rfl (by kernel_rfl) rfl (wb rfl rfl rfl r0 r1) rfl ?_) | (refine w4 ?_; refine zd rfl (ld_at rfl rfl (by rw [Nat.mul_one]; exact hz)) rfl ?_) | exact vJ 1 [0] yF (by decide) rfl (le_refl rfl) (.cons rfl rfl rfl rfl (zg (zP _)) .nil) | refine zD ?_ | refine zB _ rfl (by kernel_rfl) ?_ | refine zV rfl ?_ | refine zW rfl ?_ | refine zC ?_ | with_reducible refine zM ?_ | refine zH ?_ | refine zI ?_ | (with_reducible first | refine zK ?_ | refine zL ?_ | refine zE ?_ | refine zG ?_ | refine zF ?_) | refine zN ?_
def tv (xs : List Int) : Nat → Int
  | 0 => IntKind.i64.wrap (10101 + xs.length)
  | i + 1 => match xs[i]? with
    | some b => ut .i64 (IntKind.i64.wrap (IntKind.i64.wrap (IntKind.i64.wrap (tv xs i * 131) + IntKind.i64.wrap b) + 7)) 1073741823
    | none => tv xs i
def xR (xs : List Int) : Cur := ⟨xs, 0, tv xs (min xs.length 4000)⟩
theorem wV (xs : List Int) (hl : xs.length ≤ 1000000000) : zn Go.Proofs.Try.prog 104 [yy u8T xs] [] (.ptr 0 0) [yN (xR xs)] true := by
  refine zj [2] Go.Proofs.Try.func104 rfl rfl ?_
  simp only [Go.Proofs.Try.ntmps104, List.length_cons, List.length_nil, Nat.reduceAdd, Nat.reduceSub, List.replicate_succ, List.replicate_zero, List.cons_append, List.nil_append]
  repeat' first | refine zJ ?_ | refine zA ?_ | refine zO [] ?_ | (refine isA ?_; refine zb rfl ?_) | (refine isL ?_; refine zU rfl (by kernel_rfl) rfl rfl ?_) | (refine za rfl ?_; refine zT rfl (by kernel_rfl) rfl rfl ?_) | refine zD ?_ | refine zB _ rfl (by kernel_rfl) ?_ | refine zV rfl ?_ | refine zW rfl ?_ | refine zC ?_ | with_reducible refine zM ?_ | refine zH ?_ | refine zI ?_ | (with_reducible first | refine zK ?_ | refine zL ?_ | refine zE ?_ | refine zG ?_ | refine zF ?_) | refine zN ?_
  refine zy (α := { i : Nat // i ≤ min xs.length 4000 }) (fun i => ⟨[yy u8T xs, .any, .any, I (tv xs i.1), I i.1, .any, .any, .any, .any, .any, .any, .any, .any, .any, .any, .any, .any, .any, .any, .any, .any, .any, .any, .any, .any, .any, .any, .any, .any, .any, .any, .any], [], 0⟩) (fun i => xs.length - i.1) ⟨0, Nat.zero_le _⟩ ?_ ?_
  · exact yq [] rfl rfl (by decide) .nil (by repeat' first | exact zh | refine zc ?_ ?_ | exact zl | exact le_refl rfl | exact zm rfl rfl | exact zz rfl)
  · rintro ⟨i, hi⟩
    have hdone : i = min xs.length 4000 → xR xs = ⟨xs, 0, tv xs i⟩ := fun e => by rw [xR, e]
    repeat' first | refine zJ ?_ | refine zA ?_ | refine zO [] ?_ | (refine isA ?_; refine zb rfl ?_) | (refine isL ?_; refine zU rfl (by kernel_rfl) rfl rfl ?_) | (refine za rfl ?_; refine zT rfl (by kernel_rfl) rfl rfl ?_) | refine zD ?_ | refine zB _ rfl (by kernel_rfl) ?_ | refine zV rfl ?_ | refine zW rfl ?_ | refine zC ?_ | with_reducible refine zM ?_ | refine zH ?_ | refine zI ?_ | (with_reducible first | refine zK ?_ | refine zL ?_ | refine zE ?_ | refine zG ?_ | refine zF ?_) | refine zN ?_
    refine xi rfl rfl (fun h => ?_) (fun h => ?_)
    · have hlt : i < xs.length := by simpa using h
      obtain ⟨z, hz⟩ : ∃ z, xs[i]? = some z := ⟨_, List.getElem?_eq_getElem hlt⟩
      have es : tv xs (i + 1) = ut .i64 (IntKind.i64.wrap (IntKind.i64.wrap (IntKind.i64.wrap (tv xs i * 131) + IntKind.i64.wrap z) + 7)) 1073741823 := by rw [tv, hz]
      repeat' first | refine zJ ?_ | refine zA ?_ | refine zO [] ?_ | (refine isA ?_; refine zb rfl ?_) | (refine isL ?_; refine zU rfl (by kernel_rfl) rfl rfl ?_) | (refine za rfl ?_; refine zT rfl (by kernel_rfl) rfl rfl ?_) | refine zD ?_ | refine zB _ rfl (by kernel_rfl) ?_ | refine zV rfl ?_ | refine zW rfl ?_ | refine zC ?_ | with_reducible refine zM ?_ | refine zH ?_ | refine zI ?_ | (with_reducible first | refine zK ?_ | refine zL ?_ | refine zE ?_ | refine zG ?_ | refine zF ?_) | refine zN ?_
      refine zf rfl (fun h' => ?_) (fun h' => ?_)
      · have h4 : i < 4000 := by have := of_decide_eq_true h'; simp only at this; omega
        repeat' first | refine zJ ?_ | refine zA ?_ | refine zO [] ?_ | (refine isA ?_; refine zb rfl ?_) | (refine isL ?_; refine zU rfl (by kernel_rfl) rfl rfl ?_) | (refine za rfl ?_; refine zT rfl (by kernel_rfl) rfl rfl ?_) | (refine yn ?_; refine zd rfl (yT (t := u8T) (z := z) rfl rfl rfl rfl (Int.natCast_nonneg i) hz) rfl ?_) | (refine ym rfl ?_; refine zY rfl (by kernel_rfl) rfl (yT (t := u8T) (z := z) rfl rfl rfl rfl (Int.natCast_nonneg i) hz) rfl ?_) | (refine isA ?_; refine zd rfl (uY rfl rfl rfl) rfl ?_) | refine zD ?_ | refine zB _ rfl (by kernel_rfl) ?_ | refine zV rfl ?_ | refine zW rfl ?_ | refine zC ?_ | with_reducible refine zM ?_ | refine zH ?_ | refine zI ?_ | (with_reducible first | refine zK ?_ | refine zL ?_ | refine zE ?_ | refine zG ?_ | refine zF ?_) | refine zN ?_
        refine ⟨⟨i + 1, by omega⟩, by simp only; omega, ?_⟩
        exact yq [] rfl rfl (by decide) .nil (by
          repeat' first | exact zh | refine zc ?_ ?_ | exact zl | exact le_refl rfl | exact xP hlt (by omega) | exact yP (congrArg _ es))
      · have h4 : ¬ i < 4000 := by have := of_decide_eq_false h'; simp only at this; omega
        repeat' first | refine zJ ?_ | refine zA ?_ | refine zO [] ?_ | (refine isA ?_; refine zb rfl ?_) | (refine isL ?_; refine zU rfl (by kernel_rfl) rfl rfl ?_) | (refine za rfl ?_; refine zT rfl (by kernel_rfl) rfl rfl ?_) | exact (by rw [hdone (by omega)]; exact vJ 0 [0] (fun i hi => absurd hi (Nat.not_lt_zero _)) (by decide) rfl (zz rfl) (.cons rfl rfl rfl rfl (by repeat' first | exact zh | refine zc ?_ ?_ | exact zl | exact le_refl rfl | exact zm rfl rfl | exact zz rfl) .nil)) | refine zD ?_ | refine zB _ rfl (by kernel_rfl) ?_ | refine zV rfl ?_ | refine zW rfl ?_ | refine zC ?_ | with_reducible refine zM ?_ | refine zH ?_ | refine zI ?_ | (with_reducible first | refine zK ?_ | refine zL ?_ | refine zE ?_ | refine zG ?_ | refine zF ?_) | refine zN ?_
    · have hge : ¬ i < xs.length := by simpa using h
      repeat' first | refine zJ ?_ | refine zA ?_ | refine zO [] ?_ | (refine isA ?_; refine zb rfl ?_) | (refine isL ?_; refine zU rfl (by kernel_rfl) rfl rfl ?_) | (refine za rfl ?_; refine zT rfl (by kernel_rfl) rfl rfl ?_) | exact (by rw [hdone (by omega)]; exact vJ 0 [0] (fun i hi => absurd hi (Nat.not_lt_zero _)) (by decide) rfl (zz rfl) (.cons rfl rfl rfl rfl (by repeat' first | exact zh | refine zc ?_ ?_ | exact zl | exact le_refl rfl | exact zm rfl rfl | exact zz rfl) .nil)) | refine zD ?_ | refine zB _ rfl (by kernel_rfl) ?_ | refine zV rfl ?_ | refine zW rfl ?_ | refine zC ?_ | with_reducible refine zM ?_ | refine zH ?_ | refine zI ?_ | (with_reducible first | refine zK ?_ | refine zL ?_ | refine zE ?_ | refine zG ?_ | refine zF ?_) | refine zN ?_
end Go.Proofs.Ytkcicbigpbdjpaa.Ab
namespace Go.Proofs.Ytkcicbigpbdjpaa.Ab
open Go.RowKit
section
variable {P : Program} {o : Oper} {ρ : Operand → V} {H : List Reg}
structure IntFs (P : Program) (t : TypeId) (fs : Array Field) : Prop where
  u : P.underlying t = some (.struct fs)
  held : P.stoodInHeld t = false
  guard : P.eqGuardType P.depth t = false
  fs : ∀ (i : Nat) (f : Field), fs.toList[i]? = some f → (f.name == "_") = false ∧ f.offset = i ∧ P.underlying f.type = some (.int .i64)
theorem sD {d : Nat} {xs ys : Array Value} {w : World} : ∀ (fs : List Field) (us bs : List Int), us.length = fs.length → bs.length = fs.length →
    (∀ (j : Nat) (f : Field) (a b : Int), fs[j]? = some f → us[j]? = some a → bs[j]? = some b → (f.name == "_") = false ∧ P.underlying f.type = some (.int .i64) ∧ xs[f.offset]? = some (.int .i64 a) ∧ ys[f.offset]? = some (.int .i64 b)) → (Op.eqFields (d + 1) xs ys fs).run P w = .ok (decide (us = bs)) w
  | [], [], [], _, _, _ => by simp [Op.eqFields]
  | f :: fs, a :: us, b :: bs, h1, h2, h => by
    obtain ⟨g1, g2, g3, g4⟩ := h 0 f a b rfl rfl rfl
    have hn' : f.name ≠ "_" := by simpa using g1
    have ha : (part f.type xs f.offset).run P w = .ok (.int .i64 a) w := by simp [part, isAgg, run_underlying g2, g3]
    have hb : (part f.type ys f.offset).run P w = .ok (.int .i64 b) w := by simp [part, isAgg, run_underlying g2, g4]
    have ih := sD (d := d) (xs := xs) (ys := ys) (w := w) fs us bs (by simpa using h1) (by simpa using h2) (fun j f' a' b' q1 q2 q3 => h (j + 1) f' a' b' q1 q2 q3)
    rw [Op.eqFields]
    simp only [if_pos hn', Sem.run_bind, ha, hb, run_equalIn_int w d f.type .i64 .i64 a b g2, Result.andThen_ok]
    by_cases hab : a = b
    · subst hab
      simpa using ih
    · simp [hab]
  | [], _ :: _, _, h1, _, _ => by simp at h1
  | [], [], _ :: _, _, h2, _ => by simp at h2
  | _ :: _, [], _, h1, _, _ => by simp at h1
  | _ :: _, _ :: _, [], _, h2, _ => by simp at h2
theorem qH {A : Nat → Prop} {w : World} {φ : List Hd} {us : List Int} {xs : Array Value} (h : zi A w φ (us.map I) (fun i => xs[i]?)) {j : Nat} {a : Int} (ha : us[j]? = some a) : xs[j]? = some (.int .i64 a) := by
  obtain ⟨y, h1, h2⟩ := yG h (i := j) (c := I a) (by rw [List.getElem?_map, ha]; rfl)
  simp only [Rel] at h2
  subst h2
  exact h1
end
end Go.Proofs.Ytkcicbigpbdjpaa.Ab
namespace Go.Proofs.Ytkcicbigpbdjpaa.Ab
open Go.RowKit
section
variable {C : Cx} {A A' : Nat → Prop} {φ φ' : List Hd} {H : List Reg} {w w' : World} {P : Program} {o : Oper} {ρ : Operand → V}
end
end Go.Proofs.Ytkcicbigpbdjpaa.Ab
namespace Go.Proofs.Ytkcicbigpbdjpaa.Ab
open Go.RowKit
section
variable {C : Cx} {A A' : Nat → Prop} {φ φ' : List Hd} {H : List Reg} {w w' : World} {P : Program} {o : Oper} {ρ : Operand → V} {ops : Array Oper} {rest : List Oper} {Q : Exit → St → Prop} {S T : St}
mutual
inductive Nz (k : Nat) : V → V → Prop where
  | same (v : V) : Nz k v v
  | nil : Nz k (.k (.slice none 0 0)) (.sl k 0 0)
  | agg {cs ds : List V} (h : NzS k cs ds) : Nz k (.agg cs) (.agg ds)
  | tup {cs ds : List V} (h : NzS k cs ds) : Nz k (.tup cs) (.tup ds)
inductive NzS (k : Nat) : List V → List V → Prop where
  | rest (cs : List V) : NzS k cs cs
  | cons {c d : V} {cs ds : List V} (h : Nz k c d) (hs : NzS k cs ds) : NzS k (c :: cs) (d :: ds)
end
theorem NzS.length {k : Nat} : ∀ {cs ds : List V}, NzS k cs ds → ds.length = cs.length
  | _, _, .rest _ => rfl
  | _, _, .cons h hs => by simp [NzS.length hs]
inductive NzR (k : Nat) : List Reg → List Reg → Prop where
  | rest (H : List Reg) : NzR k H H
  | cons {r : Reg} {cs : List V} {H K : List Reg} (h : NzS k r.cells cs) (hs : NzR k H K) : NzR k (r :: H) ({ r with cells := cs } :: K)
theorem NzR.get {k : Nat} : ∀ {H K : List Reg}, NzR k H K → K.length = H.length ∧ ∀ (i : Nat) (r' : Reg), K[i]? = some r' → ∃ r, H[i]? = some r ∧ r'.mode = r.mode ∧ r'.esz = r.esz ∧ r'.e = r.e ∧ NzS k r.cells r'.cells
  | _, _, .rest H => ⟨rfl, fun i r h => ⟨r, h, rfl, rfl, rfl, .rest _⟩⟩
  | _, _, .cons h hs => by
    obtain ⟨e1, e2⟩ := hs.get
    refine ⟨by simp [e1], fun i r' hi => ?_⟩
    cases i with
    | zero => simp at hi; subst hi; exact ⟨_, rfl, rfl, rfl, rfl, h⟩
    | succ i => simp only [List.getElem?_cons_succ] at hi ⊢; exact e2 i r' hi
mutual
theorem Nz.rel {k : Nat} {hd : Hd} (hφ : φ[k]? = some hd) (hb : hd.blk = none) (hc : hd.cap = 0) : ∀ {v v' : V} {x : Value}, Nz k v v' → Rel A w φ v x → Rel A w φ v' x
  | _, _, x, .same v, h => h
  | _, _, x, .nil, h => by
    rw [Rel] at h
    rw [Rel]
    exact ⟨hd, hφ, Or.inl ⟨by rw [h, hb, hc]; rfl, by omega⟩⟩
  | _, _, x, .agg hs, h => by
    rw [Rel] at h ⊢
    obtain ⟨xs, e1, e2, h1⟩ := h
    exact ⟨xs, e1, e2.trans (NzS.length hs).symm, NzS.rels hφ hb hc hs h1⟩
  | _, _, x, .tup hs, h => by
    rw [Rel] at h ⊢
    obtain ⟨xs, e1, e2, h1⟩ := h
    exact ⟨xs, e1, e2.trans (NzS.length hs).symm, NzS.rels hφ hb hc hs h1⟩
theorem NzS.rels {k : Nat} {hd : Hd} (hφ : φ[k]? = some hd) (hb : hd.blk = none) (hc : hd.cap = 0) : ∀ {cs ds : List V} {g : Nat → Option Value}, NzS k cs ds → zi A w φ cs g → zi A w φ ds g
  | _, _, g, .rest _, h => h
  | _, _, g, .cons h hs, hr => by
    rw [zi] at hr ⊢
    obtain ⟨⟨y, h1, h2⟩, h3⟩ := hr
    exact ⟨⟨y, h1, Nz.rel hφ hb hc h h2⟩, NzS.rels hφ hb hc hs h3⟩
end
mutual
inductive Vw (H : List Reg) : V → V → Prop where
  | same (v : V) : Vw H v v
  | pur {v v' : V} (h : Pur false H v v') : Vw H v v'
  | agg {cs ds : List V} (h : VwS H cs ds) : Vw H (.agg cs) (.agg ds)
  | tup {cs ds : List V} (h : VwS H cs ds) : Vw H (.tup cs) (.tup ds)
inductive VwS (H : List Reg) : List V → List V → Prop where
  | rest (cs : List V) : VwS H cs cs
  | cons {c d : V} {cs ds : List V} (h : Vw H c d) (hs : VwS H cs ds) : VwS H (c :: cs) (d :: ds)
end
theorem VwS.length : ∀ {cs ds : List V}, VwS H cs ds → ds.length = cs.length
  | _, _, .rest _ => rfl
  | _, _, .cons h hs => by simp [VwS.length hs]
theorem VwS.all {f : V → V} (hf : ∀ c, Vw H c (f c)) : ∀ cs : List V, VwS H cs (cs.map f)
  | [] => .rest _
  | c :: cs => .cons (hf c) (VwS.all hf cs)
mutual
theorem Vw.rel (hok : HeapOk A w φ H) : ∀ {v v' : V} {x : Value}, Vw H v v' → Rel A w φ v x → Rel A w φ v' x
  | _, _, x, .same _, h => h
  | _, _, x, .pur hp, h => x8 (Pur.noH hp) (Pur.rel hok (fun b hb => hb) (fun h => by cases h) hp h)
  | _, _, x, .agg hs, h => by
    rw [Rel] at h ⊢
    obtain ⟨xs, e1, e2, h1⟩ := h
    exact ⟨xs, e1, e2.trans (VwS.length hs).symm, VwS.rels hok hs h1⟩
  | _, _, x, .tup hs, h => by
    rw [Rel] at h ⊢
    obtain ⟨xs, e1, e2, h1⟩ := h
    exact ⟨xs, e1, e2.trans (VwS.length hs).symm, VwS.rels hok hs h1⟩
theorem VwS.rels (hok : HeapOk A w φ H) : ∀ {cs ds : List V} {g : Nat → Option Value}, VwS H cs ds → zi A w φ cs g → zi A w φ ds g
  | _, _, g, .rest _, h => h
  | _, _, g, .cons h hs, hr => by
    rw [zi] at hr ⊢
    obtain ⟨⟨y, h1, h2⟩, h3⟩ := hr
    exact ⟨⟨y, h1, Vw.rel hok h h2⟩, VwS.rels hok hs h3⟩
end
inductive VwR (H : List Reg) : List Reg → List Reg → Prop where
  | rest (L : List Reg) : VwR H L L
  | cons {r : Reg} {cs : List V} {L K : List Reg} (h : VwS H r.cells cs) (hs : VwR H L K) : VwR H (r :: L) ({ r with cells := cs } :: K)
theorem VwR.get {G : List Reg} : ∀ {H K : List Reg}, VwR G H K → K.length = H.length ∧ ∀ (i : Nat) (r' : Reg), K[i]? = some r' → ∃ r, H[i]? = some r ∧ r'.mode = r.mode ∧ r'.esz = r.esz ∧ r'.e = r.e ∧ VwS G r.cells r'.cells
  | _, _, .rest H => ⟨rfl, fun i r h => ⟨r, h, rfl, rfl, rfl, .rest _⟩⟩
  | _, _, .cons h hs => by
    obtain ⟨e1, e2⟩ := hs.get
    refine ⟨by simp [e1], fun i r' hi => ?_⟩
    cases i with
    | zero => simp at hi; subst hi; exact ⟨_, rfl, rfl, rfl, rfl, h⟩
    | succ i => simp only [List.getElem?_cons_succ] at hi ⊢; exact e2 i r' hi
end
end Go.Proofs.Ytkcicbigpbdjpaa.Ab
namespace Go.Proofs.Ytkcicbigpbdjpaa.Ab
open Go.RowKit
def bkI (hs : List Nat) (n i : Nat) : Nat := (hs[i]?).getD (n + (i - hs.length))
mutual
inductive Bk (hs : List Nat) (n : Nat) : V → V → Prop where
  | same {v : V} (h : noH v = true) : Bk hs n v v
  | sl {i h off m : Nat} (h1 : bkI hs n i = h) : Bk hs n (.sl i off m) (.sl h off m)
  | ptr {i h off : Nat} (h1 : bkI hs n i = h) : Bk hs n (.ptr i off) (.ptr h off)
  | agg {cs ds : List V} (h : BkS hs n cs ds) : Bk hs n (.agg cs) (.agg ds)
  | tup {cs ds : List V} (h : BkS hs n cs ds) : Bk hs n (.tup cs) (.tup ds)
inductive BkS (hs : List Nat) (n : Nat) : List V → List V → Prop where
  | rest {cs : List V} (h : NoH cs) : BkS hs n cs cs
  | cons {c d : V} {cs ds : List V} (h : Bk hs n c d) (ht : BkS hs n cs ds) : BkS hs n (c :: cs) (d :: ds)
end
theorem BkS.nil {hs : List Nat} {n : Nat} : BkS hs n [] [] := .rest fun c hc => by cases hc
theorem BkS.length {hs : List Nat} {n : Nat} : ∀ {cs ds : List V}, BkS hs n cs ds → ds.length = cs.length
  | _, _, .rest _ => rfl
  | _, _, .cons h ht => by simp [BkS.length ht]
theorem BkS.map {α : Type} {hs : List Nat} {n : Nat} {f g : α → V} : ∀ (l : List α), (∀ x ∈ l, Bk hs n (f x) (g x)) → BkS hs n (l.map f) (l.map g)
  | [], _ => .nil
  | x :: l, h => .cons (h x (List.mem_cons_self ..)) (BkS.map l fun y hy => h y (List.mem_cons_of_mem _ hy))
section
variable {A : Nat → Prop} {w : World} {φ φ' : List Hd} {hs : List Nat} {n : Nat}
mutual
theorem Bk.rel (hg : ∀ (i : Nat) hd, φ'[i]? = some hd → φ[bkI hs n i]? = some hd) : ∀ {v v' : V} {x : Value}, Bk hs n v v' → Rel A w φ' v x → Rel A w φ v' x
  | v, _, x, .same h, hr => x8 h hr
  | _, _, x, .sl h1, hr => by
    rw [Rel] at hr ⊢
    obtain ⟨hd, h2, h3⟩ := hr
    exact ⟨hd, h1 ▸ hg _ _ h2, h3⟩
  | _, _, x, .ptr h1, hr => by
    rw [Rel] at hr ⊢
    obtain ⟨hd, b, h2, h3⟩ := hr
    exact ⟨hd, b, h1 ▸ hg _ _ h2, h3⟩
  | .agg cs, .agg ds, x, .agg h, hr => by
    rw [Rel] at hr ⊢
    obtain ⟨xs, e1, e2, h2⟩ := hr
    exact ⟨xs, e1, e2.trans (BkS.length h).symm, BkS.rels hg h h2⟩
  | .tup cs, .tup ds, x, .tup h, hr => by
    rw [Rel] at hr ⊢
    obtain ⟨xs, e1, e2, h2⟩ := hr
    exact ⟨xs, e1, e2.trans (BkS.length h).symm, BkS.rels hg h h2⟩
theorem BkS.rels (hg : ∀ (i : Nat) hd, φ'[i]? = some hd → φ[bkI hs n i]? = some hd) : ∀ {cs ds : List V} {g : Nat → Option Value}, BkS hs n cs ds → zi A w φ' cs g → zi A w φ ds g
  | _, _, g, .rest h, hr => xM h hr
  | c :: cs, _, g, .cons h ht, hr => by
    rw [zi] at hr ⊢
    obtain ⟨⟨y, h1, h2⟩, h3⟩ := hr
    exact ⟨⟨y, h1, Bk.rel hg h h2⟩, BkS.rels hg ht h3⟩
end
end
theorem ww {hs : List Nat} : ∀ {cs : List V}, NoH cs → PassS hs cs cs
  | [], _ => .nil
  | c :: cs, h => .cons (.same (h c (List.mem_cons_self ..))) (ww fun d hd => h d (List.mem_cons_of_mem _ hd))
inductive BkR (hs : List Nat) (n : Nat) : List Reg → List Reg → Prop where
  | nil : BkR hs n [] []
  | cons {R : Reg} {cs : List V} {K K2 : List Reg} (h : BkS hs n R.cells cs) (ht : BkR hs n K K2) : BkR hs n (R :: K) ({ R with cells := cs } :: K2)
theorem BkR.get {hs : List Nat} {n : Nat} : ∀ {K K2 : List Reg}, BkR hs n K K2 → K2.length = K.length ∧ ∀ (i : Nat) (r : Reg), K2[i]? = some r → ∃ R, K[i]? = some R ∧ r.mode = R.mode ∧ r.esz = R.esz ∧ r.e = R.e ∧ BkS hs n R.cells r.cells
  | _, _, .nil => ⟨rfl, fun i r h => by simp at h⟩
  | _, _, .cons h ht => by
    obtain ⟨e1, e2⟩ := ht.get
    refine ⟨by simp [e1], fun i r hi => ?_⟩
    cases i with
    | zero => simp at hi; subst hi; exact ⟨_, rfl, rfl, rfl, rfl, h⟩
    | succ i => simp only [List.getElem?_cons_succ] at hi ⊢; exact e2 i r hi
theorem BkR.ofN {hs : List Nat} {n : Nat} : ∀ {K : List Reg}, (∀ r ∈ K, NoH r.cells) → BkR hs n K K
  | [], _ => .nil
  | r :: K, h => .cons (cs := r.cells) (.rest (h r (List.mem_cons_self ..))) (BkR.ofN fun q hq => h q (List.mem_cons_of_mem _ hq))
inductive GiveN (H : List Reg) (hs0 : List Nat) (n : Nat) : List Nat → List Reg → List Reg → List Reg → Prop where
  | nil : GiveN H hs0 n [] [] [] []
  | cons {h : Nat} {R0 R' : Reg} {cs cs2 : List V} {hs : List Nat} {Rs Rs' R2 : List Reg} (hH : H[h]? = some R0) (hm : R0.mode = 0) (hp : PassS hs0 R0.cells cs) (hm' : R'.mode ≠ 1) (hb : BkS hs0 n R'.cells cs2) (ht : GiveN H hs0 n hs Rs Rs' R2) :
      GiveN H hs0 n (h :: hs) ({ R0 with cells := cs } :: Rs) (R' :: Rs') ({ R' with cells := cs2 } :: R2)
theorem GiveN.spec {H : List Reg} {hs0 : List Nat} {n : Nat} : ∀ {hs : List Nat} {Rs Rs' R2 : List Reg}, GiveN H hs0 n hs Rs Rs' R2 → Rs.length = hs.length ∧ Rs'.length = hs.length ∧ R2.length = hs.length ∧ ∀ (i h : Nat), hs[i]? = some h →
    ∃ R0 R R' RR, H[h]? = some R0 ∧ R0.mode = 0 ∧ Rs[i]? = some R ∧ R.mode = 0 ∧ R.esz = R0.esz ∧ R.e = R0.e ∧ PassS hs0 R0.cells R.cells ∧ Rs'[i]? = some R' ∧ R'.mode ≠ 1 ∧ R2[i]? = some RR ∧ RR.mode = R'.mode ∧ RR.esz = R'.esz ∧ RR.e = R'.e ∧ BkS hs0 n R'.cells RR.cells
  | _, _, _, _, .nil => ⟨rfl, rfl, rfl, fun i h hi => by simp at hi⟩
  | _, _, _, _, .cons hH hm hp hm' hb ht => by
    obtain ⟨e1, e2, e3, e4⟩ := ht.spec
    refine ⟨by simp [e1], by simp [e2], by simp [e3], fun i h hi => ?_⟩
    cases i with
    | zero =>
      simp at hi
      subst hi
      exact ⟨_, _, _, _, hH, hm, rfl, hm, rfl, rfl, hp, rfl, hm', rfl, rfl, rfl, rfl, hb⟩
    | succ i =>
      simp only [List.getElem?_cons_succ] at hi ⊢
      exact e4 i h hi
section
variable {P : Program} {o : Oper} {ρ : Operand → V} {H : List Reg}
theorem sW {f : FuncId} {args : List Operand} {ats : Array TypeId} {cargs : List V} {r r2 : V} {Rs Rs' R2 K K2 : List Reg} {al : Bool} (hs : List Nat) (hnd : hs.Nodup) [he : Ent P f] (ho : o.op = .call { callee := .value (.func f), args := args.toArray, argTypes := ats })
    (hm : zn P f cargs Rs r (Rs' ++ K) al) (hg : GiveN H hs H.length hs Rs Rs' R2) (hargs : PassS hs (args.map ρ) cargs) (hK : BkR hs H.length K K2) (hr : Bk hs H.length r r2) : zu P o ρ H r2 (yg H hs R2 ++ K2) := by
  intro S hS hρ C φ a w hI next Q hn
  obtain ⟨hm2, ⟨A, hA, hrr⟩, hsz, hd0⟩ := hI
  subst hS
  obtain ⟨g1, g2, g2', g3⟩ := hg.spec
  obtain ⟨q1, q2⟩ := hK.get
  have hlen := hA.ok.len
  have hargr : zi A w φ (args.map ρ) (fun i => (args.map a.eval).toArray[i]?) := vS fun x hx => by
    rw [← hρ x (by rw [ho]; simp only [Op.operands, Call.operands]; simp [hx])]
    exact vK hrr x
  have hlt : ∀ (i h : Nat), hs[i]? = some h → h < S.H.length := fun i h hi => by
    obtain ⟨R0, _, _, _, q, _⟩ := g3 i h hi
    exact (List.getElem?_eq_some_iff.1 q).1
  let hds : List Hd := hs.map fun h => φ.getD h ⟨none, 0, 0, 0⟩
  have hl1 : hds.length = hs.length := by simp [hds]
  have hget : ∀ (i h : Nat), hs[i]? = some h → ∃ hd, φ[h]? = some hd ∧ hds[i]? = some hd := fun i h hi => by
    have h1 : h < φ.length := by rw [hA.ok.len]; exact hlt i h hi
    refine ⟨φ[h], List.getElem?_eq_getElem h1, ?_⟩
    simp only [hds, List.getElem?_map, hi, Option.map_some, List.getD, List.getElem?_eq_getElem h1, Option.getD_some]
  have hback : ∀ (i : Nat) (d : Hd), hds[i]? = some d → ∃ h, hs[i]? = some h ∧ φ[h]? = some d := fun i d hi => by
    cases hx : hs[i]? with
    | none =>
      have : hds[i]? = none := by simp [hds, hx]
      rw [this] at hi
      cases hi
    | some h =>
      obtain ⟨hd, q1, q2⟩ := hget i h hx
      rw [q2] at hi
      cases hi
      exact ⟨h, rfl, q1⟩
  have hpas : ∀ (i h : Nat), hs[i]? = some h → ∀ hd, φ[h]? = some hd → hds[i]? = some hd := fun i h hi hd hhd => by
    obtain ⟨hd', p1, p2⟩ := hget i h hi
    rw [hhd] at p1
    cases p1
    exact p2
  have hli : ∀ j b, zk hds Rs j b → ∃ h, hs[j]? = some h ∧ zk φ S.H h b := fun j b ⟨d, r', q1, q2, q3, q4⟩ => by
    obtain ⟨h, p1, p2⟩ := hback j d q1
    obtain ⟨R0, R, R', RR, e1, e2, e3, _⟩ := g3 j h p1
    exact ⟨h, p1, d, R0, p2, e1, e2, q4⟩
  have hok1 : HeapOk A w hds Rs := by
    refine ⟨by rw [hl1, g1], fun j d r' q1 q2 q3 => ?_, fun j j' b q1 q2 => ?_, fun j b q1 => ?_, fun j d r' b q1 q2 q3 q4 => ?_, hA.ok.low⟩
    · obtain ⟨h, p1, p2⟩ := hback j d q1
      obtain ⟨R0, R, R', RR, e1, e2, e3, e4, e5, e6, e7, _⟩ := g3 j h p1
      rw [e3] at q2
      cases q2
      obtain ⟨f1, f2⟩ := hA.ok.regs h d R0 p2 e1 (by omega)
      refine ⟨⟨f1.1.trans e5.symm, f1.2.1.trans e6.symm, f1.2.2⟩, ?_⟩
      cases hk : d.blk with
      | none =>
        rw [hk] at f2
        have := PassS.length e7
        rw [f2.1] at this
        exact ⟨List.length_eq_zero_iff.1 this.symm, f2.2⟩
      | some b =>
        rw [hk] at f2
        obtain ⟨c, k1, k2, k3, k4⟩ := f2
        exact ⟨c, k1, k2, by rw [← PassS.length e7]; exact k3, PassS.rels hpas e7 k4⟩
    · obtain ⟨h, p1, p2⟩ := hli j b q1
      obtain ⟨h', p1', p2'⟩ := hli j' b q2
      have := hA.ok.inj _ _ _ p2 p2'
      subst this
      exact (List.getElem?_inj (List.getElem?_eq_some_iff.1 p1).1 hnd).1 (p1.trans p1'.symm)
    · obtain ⟨h, p1, p2⟩ := hli j b q1
      exact hA.ok.apart _ _ p2
    · obtain ⟨h, p1, p2⟩ := hback j d q1
      obtain ⟨R0, R, R', RR, e1, e2, e3, e4, _⟩ := g3 j h p1
      rw [e3] at q2
      cases q2
      omega
  have hcall := hm A hds w (args.map a.eval).toArray hok1 (PassS.rels hpas hargs hargr) (by simp [← PassS.length hargs])
  unfold Oper.wp
  rw [uc ho, Oper.upon_enter]
  refine hcall.mono ?_
  rintro e w' ⟨x, φ', A', rfl, k1, k2, k3, k4, k5, k6⟩
  obtain ⟨ψ', rfl⟩ : ∃ ψ', φ' = hds ++ ψ' := by
    refine ⟨φ'.drop hds.length, ?_⟩
    refine List.ext_getElem? fun i => ?_
    rcases Nat.lt_or_ge i hds.length with hi | hi
    · rw [List.getElem?_append_left hi, k6 i _ (List.getElem?_eq_getElem hi), List.getElem?_eq_getElem hi]
    · rw [List.getElem?_append_right hi, List.getElem?_drop, Nat.add_sub_cancel' hi]
  have hno : ∀ b, (∀ h ∈ hs, ¬ zk φ S.H h b) → ∀ j, ¬ zk hds Rs j b := fun b hn j hl => by
    obtain ⟨h, p1, p2⟩ := hli j b hl
    exact hn h (List.mem_of_getElem? p1) p2
  have hA' : ∀ b, A' b → A b ∨ w.heap.size ≤ b := fun b hb => (k3 b hb).imp (fun h => h.2) id
  have hl : ∀ j b, zk (hds ++ ψ') (Rs' ++ K) j b → w.heap.size ≤ b ∨ ∃ h ∈ hs, zk φ S.H h b := fun j b hl => (k4 j b hl).imp id fun ⟨j0, h⟩ => by obtain ⟨g, p1, p2⟩ := hli j0 b h; exact ⟨g, List.mem_of_getElem? p1, p2⟩
  have hoth : ∀ b, b < w.heap.size → (∀ h ∈ hs, ¬ zk φ S.H h b) → w'.heap[b]? = w.heap[b]? := fun b hb hn => k5.block b hb (hno b hn)
  have hset : ∀ (i h : Nat), hs[i]? = some h → (yg S.H hs R2)[h]? = R2[i]? := vl S.H hs R2 hnd g2' (fun x hx => by obtain ⟨i, hi⟩ := List.getElem?_of_mem hx; exact hlt i x hi)
  have hkeep : ∀ x, x ∉ hs → (yg S.H hs R2)[x]? = S.H[x]? := fun x hx => wd S.H hs R2 x hx
  have hl2 : (yg S.H hs R2).length = S.H.length := xZ S.H hs R2
  generalize yg S.H hs R2 = H2 at hset hkeep hl2 hn
  have hφm : ∀ (i : Nat) (d : Hd), φ[i]? = some d → (φ ++ ψ')[i]? = some d := fun i d hh => z6 hh
  have hAm : ∀ b, A b → (A b ∨ A' b) ∧ w'.heap[b]? = w.heap[b]? := fun b hb => ⟨Or.inl hb, hoth b (hA.ok.low b hb) fun h _ hl => hA.ok.apart h b hl hb⟩
  have hψ : ψ'.length = K.length := by have := k1.len; rw [List.length_append, List.length_append, hl1, g2] at this; omega
  have hbk : ∀ (i : Nat) hd, (hds ++ ψ')[i]? = some hd → (φ ++ ψ')[bkI hs S.H.length i]? = some hd := fun i hd hi => by
    rcases Nat.lt_or_ge i hds.length with h1 | h1
    · rw [List.getElem?_append_left h1] at hi
      obtain ⟨h, p1, p2⟩ := hback i hd hi
      unfold bkI
      rw [p1]
      exact hφm _ _ p2
    · rw [List.getElem?_append_right h1] at hi
      unfold bkI
      rw [show hs[i]? = none from List.getElem?_eq_none (by omega), Option.getD_none, ← hlen, List.getElem?_append_right (by omega)]
      rw [← hi]
      congr 1
      omega
  have hleft : ∀ {α : Type} (a b : List α) (j : Nat), (a ++ b)[a.length + j]? = b[j]? := fun a b j => by
    rw [List.getElem?_append_right (Nat.le_add_right _ _), Nat.add_sub_cancel_left]
  have hsplit : ∀ (i : Nat) (d : Hd) (r : Reg), (φ ++ ψ')[i]? = some d → (H2 ++ K2)[i]? = some r → (∃ y R', i ∈ hs ∧ y < hs.length ∧ (hds ++ ψ')[y]? = some d ∧ (Rs' ++ K)[y]? = some R' ∧ (∃ R0, φ[i]? = some d ∧ S.H[i]? = some R0 ∧ R0.mode = 0) ∧ r.mode = R'.mode ∧ r.esz = R'.esz ∧ r.e = R'.e ∧ BkS hs S.H.length R'.cells r.cells ∧ R'.mode ≠ 1) ∨ (i ∉ hs ∧ φ[i]? = some d ∧ S.H[i]? = some r) ∨
      (∃ j R', i = φ.length + j ∧ (hds ++ ψ')[hs.length + j]? = some d ∧ (Rs' ++ K)[hs.length + j]? = some R' ∧ r.mode = R'.mode ∧ r.esz = R'.esz ∧ r.e = R'.e ∧ BkS hs S.H.length R'.cells r.cells) := fun i d r h1 h2 => by
    rcases Nat.lt_or_ge i φ.length with hlt | hge
    · rw [List.getElem?_append_left hlt] at h1
      rw [List.getElem?_append_left (by omega)] at h2
      by_cases hmm : i ∈ hs
      · obtain ⟨y, hy⟩ := List.getElem?_of_mem hmm
        obtain ⟨R0, R, R', RR, e1, e2, e3, e4, e5, e6, e7, e8, e9, e10, e11, e12, e13, e14⟩ := g3 y i hy
        rw [hset y i hy, e10] at h2
        cases h2
        exact Or.inl ⟨y, R', hmm, (List.getElem?_eq_some_iff.1 hy).1, z6 (hpas y i hy d h1), z6 e8, ⟨R0, h1, e1, e2⟩, e11, e12, e13, e14, e9⟩
      · rw [hkeep i hmm] at h2
        exact Or.inr (Or.inl ⟨hmm, h1, h2⟩)
    · rw [List.getElem?_append_right hge] at h1
      rw [List.getElem?_append_right (by omega), hl2, ← hlen] at h2
      obtain ⟨R', p1, p2, p3, p4, p5⟩ := q2 _ _ h2
      exact Or.inr (Or.inr ⟨i - φ.length, R', by omega, by rw [← hl1, hleft]; exact h1, by rw [← g2, hleft]; exact p1, p2, p3, p4, p5⟩)
  have hlive : ∀ i b, zk (φ ++ ψ') (H2 ++ K2) i b → (i ∈ hs ∧ zk φ S.H i b ∧ ∃ y, y < hs.length ∧ zk (hds ++ ψ') (Rs' ++ K) y b) ∨ (i ∉ hs ∧ zk φ S.H i b) ∨ (∃ j, i = φ.length + j ∧ zk (hds ++ ψ') (Rs' ++ K) (hs.length + j) b) := by
    rintro i b ⟨d, r, h1, h2, h3, h4⟩
    rcases hsplit i d r h1 h2 with ⟨y, R', p1, p2, p3, p4, ⟨R0, p5, p6, p7⟩, p8, _⟩ | ⟨hne, p1, p2⟩ | ⟨j, R', p0, p1, p2, p3, _⟩
    · exact Or.inl ⟨p1, ⟨d, R0, p5, p6, p7, h4⟩, y, p2, d, R', p3, p4, by omega, h4⟩
    · exact Or.inr (Or.inl ⟨hne, d, r, p1, p2, h3, h4⟩)
    · exact Or.inr (Or.inr ⟨j, p0, d, R', p1, p2, by omega, h4⟩)
  have hlow : ∀ i b, zk φ S.H i b → b < w.heap.size := fun i b ⟨d, r, h1, h2, h3, h4⟩ => xy hA.ok h1 h2 (by omega) h4
  have hcells : ∀ (d : Hd) (R' r : Reg) (y : Nat), (hds ++ ψ')[y]? = some d → (Rs' ++ K)[y]? = some R' → r.mode ≤ 1 → r.mode = R'.mode → r.esz = R'.esz → r.e = R'.e → BkS hs S.H.length R'.cells r.cells → kH (fun b => A b ∨ A' b) w' (φ ++ ψ') d r := fun d R' r y p1 p2 p3 p4 p5 p6 p7 => by
    obtain ⟨e1, e2⟩ := k1.regs y d R' p1 p2 (by omega)
    refine ⟨⟨e1.1.trans p5.symm, e1.2.1.trans p6.symm, e1.2.2⟩, ?_⟩
    cases hk : d.blk with
    | none =>
      rw [hk] at e2
      have := BkS.length p7
      rw [e2.1] at this
      exact ⟨List.length_eq_zero_iff.1 this, e2.2⟩
    | some b =>
      rw [hk] at e2
      obtain ⟨c, c1, c2, c3, c4⟩ := e2
      exact ⟨c, c1, c2, by rw [BkS.length p7]; exact c3, zi.mono (fun b hb => ⟨Or.inr hb, rfl⟩) (fun _ _ h => h) (BkS.rels hbk p7 c4)⟩
  have hJ : InvA C (fun b => A b ∨ A' b) (φ ++ ψ') (H2 ++ K2) w' := by
    refine ⟨⟨by simp [hlen, hψ, hl2, q1], fun i d r h1 h2 h3 => ?_, fun i i' b h1 h2 => ?_, fun i b h1 => ?_, fun i d r b h1 h2 h3 h4 => ?_, fun b hb => ?_⟩, fun b hb => ?_, fun i b h1 => ?_, ?_, fun i d hh => hφm i d (hA.pre i d hh)⟩
    · rcases hsplit i d r h1 h2 with ⟨y, R', p1, p2, p3, p4, _, p8, p9, p10, p11, p12⟩ | ⟨hne, p1, p2⟩ | ⟨j, R', p0, p1, p2, p3, p4, p5, p6⟩
      · exact hcells d R' r y p3 p4 h3 p8 p9 p10 p11
      · obtain ⟨e1, e2⟩ := hA.ok.regs i d r p1 p2 h3
        refine ⟨e1, ?_⟩
        cases hk : d.blk with
        | none => rw [hk] at e2; exact e2
        | some b =>
          rw [hk] at e2
          obtain ⟨c, c1, c2, c3, c4⟩ := e2
          have hnl : ∀ h ∈ hs, ¬ zk φ S.H h b := fun h hmm hl => by
            rcases Nat.lt_or_ge r.mode 1 with hm1 | hm1
            · have := hA.ok.inj _ _ _ ⟨d, r, p1, p2, by omega, hk⟩ hl
              exact hne (this ▸ hmm)
            · exact hA.ok.apart h b hl (hA.ok.frz i d r b p1 p2 (by omega) hk)
          exact ⟨c, (hoth b (xy hA.ok p1 p2 h3 hk) hnl).trans c1, c2, c3, zi.mono hAm hφm c4⟩
      · exact hcells d R' r _ p1 p2 h3 p3 p4 p5 p6
    · have hnew : ∀ j i, i ∉ hs → zk φ S.H i b → zk (hds ++ ψ') (Rs' ++ K) (hs.length + j) b → False := fun j i hi h1 h2 => by
        rcases hl _ _ h2 with h3 | ⟨h, hmm, h3⟩
        · have := hlow _ _ h1; omega
        · have := hA.ok.inj _ _ _ h1 h3
          exact hi (this ▸ hmm)
      rcases hlive i b h1 with ⟨p1, p2, y, p3, p4⟩ | ⟨p1, p2⟩ | ⟨j, p1, p2⟩ <;> rcases hlive i' b h2 with ⟨r1, r2', y', r3, r4⟩ | ⟨r1, r2'⟩ | ⟨j', r1, r2'⟩
      · exact hA.ok.inj _ _ _ p2 r2'
      · exact hA.ok.inj _ _ _ p2 r2'
      · have := k1.inj _ _ _ p4 r2'; omega
      · exact hA.ok.inj _ _ _ p2 r2'
      · exact hA.ok.inj _ _ _ p2 r2'
      · exact (hnew j' i p1 p2 r2').elim
      · have := k1.inj _ _ _ r4 p2; omega
      · exact (hnew j i' r1 r2' p2).elim
      · have := k1.inj _ _ _ p2 r2'; omega
    · have t7 : zk φ S.H i b → ¬ (A b ∨ A' b) := fun h1 hb => by
        rcases hb with hb | hb
        · exact hA.ok.apart _ _ h1 hb
        · rcases hA' b hb with hb | hb
          · exact hA.ok.apart _ _ h1 hb
          · have := hlow _ _ h1; omega
      rcases hlive i b h1 with ⟨p1, p2, _⟩ | ⟨p1, p2⟩ | ⟨j, p1, p2⟩
      · exact t7 p2
      · exact t7 p2
      · rintro (hb | hb)
        · rcases hl _ _ p2 with h3 | ⟨h, hmm, h3⟩
          · have := hA.ok.low b hb; omega
          · exact hA.ok.apart _ _ h3 hb
        · exact k1.apart _ _ p2 hb
    · rcases hsplit i d r h1 h2 with ⟨y, R', p1, p2, p3, p4, _, p8, p9, p10, p11, p12⟩ | ⟨hne, p1, p2⟩ | ⟨j, R', p0, p1, p2, p3, p4, p5, p6⟩
      · omega
      · exact Or.inl (hA.ok.frz i d r b p1 p2 h3 h4)
      · exact Or.inr (k1.frz (hs.length + j) d R' b p1 p2 (by omega) h4)
    · rcases hb with hb | hb
      · exact Nat.lt_of_lt_of_le (hA.ok.low b hb) k5.size
      · exact k1.low b hb
    · rcases hb with hb | hb
      · exact hA.old b hb
      · rcases hA' b hb with hb | hb
        · exact hA.old b hb
        · exact Or.inr (Nat.le_trans hA.frame.size hb)
    · rcases hlive i b h1 with ⟨p1, p2, _⟩ | ⟨p1, p2⟩ | ⟨j, p1, p2⟩
      · exact hA.own _ _ p2
      · exact hA.own _ _ p2
      · rcases hl _ _ p2 with h3 | ⟨h, hmm, h3⟩
        · exact Or.inl (Nat.le_trans hA.frame.size h3)
        · exact hA.own _ _ h3
    · obtain ⟨f1, f2, f3, f4, f5⟩ := hA.frame
      refine ⟨k5.os.trans f1, k5.tape.trans f2, k5.output.trans f3, Nat.le_trans f4 k5.size, fun i hi hnn => ?_⟩
      rw [← f5 i hi hnn]
      refine hoth i (Nat.lt_of_lt_of_le hi f4) fun h hmm hl => ?_
      rcases hA.own h i hl with h1 | ⟨h9, h1⟩
      · omega
      · exact hnn h9 h1
  have hr' : zi (fun b => A b ∨ A' b) w' (φ ++ ψ') S.tmps (fun i => a.tmps[i]?) := zi.mono (fun b hb => ⟨Or.inl hb, k5.block b (hA.ok.low b hb) (hno b fun h hm hl => hA.ok.apart h b hl hb)⟩) (fun h hd hh => z6 hh) hrr
  have hx : Rel (fun b => A b ∨ A' b) w' (φ ++ ψ') r2 x := Bk.rel hbk hr (Rel.mono (fun b hb => ⟨Or.inr hb, rfl⟩) (fun _ _ h => h) k2)
  obtain ⟨h7, h8⟩ := wu (H := H2 ++ K2) hsz hr' hx o.dst
  refine hn x w' (φ ++ ψ') ⟨by cases o.dst <;> exact hm2, ⟨_, ?_, h7⟩, h8, by cases o.dst <;> exact hd0⟩
  rw [xU]
  exact hJ
theorem pw {f : FuncId} {args : List Operand} {ats : Array TypeId} {cargs : List V} {r r2 : V} {Rs Rs' R2 K K2 H' : List Reg} {al : Bool} (hs : List Nat) (hnd : hs.Nodup) [he : Ent P f] (ho : o.op = .call { callee := .value (.func f), args := args.toArray, argTypes := ats })
    (hm : zn P f cargs Rs r (Rs' ++ K) al) (hg : GiveN H hs H.length hs Rs Rs' R2) (hargs : PassS hs (args.map ρ) cargs) (hK : BkR hs H.length K K2) (hr : Bk hs H.length r r2) (hH : yg H hs R2 ++ K2 = H') : zu P o ρ H r2 H' := by
  subst hH
  exact sW hs hnd ho hm hg hargs hK hr
end
end Go.Proofs.Ytkcicbigpbdjpaa.Ab
namespace Go.Proofs.Ytkcicbigpbdjpaa.Ab
open Go.RowKit
section
variable {P : Program} {o : Oper} {ρ : Operand → V} {H : List Reg} {l : List V}
theorem nI {t : TypeId} {fs : Array Field} (hu : P.underlying t = some (.struct fs)) (hh : P.stoodInHeld t = false) (hg : P.eqGuardType P.depth t = false)
    (h : fs.toList.zipIdx.all (fun p => !(p.1.name == "_") && Nat.beq p.1.offset p.2 && (match P.underlying p.1.type with | some (.int .i64) => true | _ => false)) = true) : IntFs P t fs := ⟨hu, hh, hg, fun i f hf => by
  rw [List.all_eq_true] at h
  have := h (f, i) (List.mem_of_getElem? (i := i) (by rw [List.getElem?_zipIdx, hf]; simp))
  simp only [Bool.and_eq_true, Bool.not_eq_true', Nat.beq_eq] at this
  refine ⟨this.1.1, this.1.2, ?_⟩
  have h2 := this.2
  split at h2
  · assumption
  · cases h2⟩
end
section
variable {P : Program} {T : Tab} {ops : Array Oper} {ds d : List Nat} {n : Nat} {Q : Exit → St → Prop} {o : Oper} {l l' : List V} {H K : List Reg} {m : Nat}
end
section
variable {P : Program} {o : Oper} {ρ : Operand → V} {K : List Reg}
theorem nQ {α : Type} (T : Ty α) {xs : List α} {i off : Nat} {z : α} {v : V} (hz : xs[i]? = some z) (hv : (T.enc z)[off]? = some v) : (T.flat xs)[i * T.n + off]? = some v := by
  rw [← List.getElem?_drop, tS T hz]
  exact z6 hv
theorem t6 {α : Type} {T : Ty α} {t e h i off : Nat} {x : Operand} {xs : List α} {z : α} {v : V} [ht : Sc P t] (ho : o.op = .load t x) (hx : ρ x = .ptr h (i * T.n + off)) (hH : K[h]? = some (xN T e xs)) (hz : xs[i]? = some z) (hv : (T.enc z)[off]? = some v) : zu P o ρ K v K :=
  w7 ho hx hH (Nat.zero_le _) (nQ T hz hv)
theorem y7 {α : Type} {T : Ty α} {t e h i : Nat} {x : Operand} {xs : List α} {z : α} [ht : Ag P t T.n] (ho : o.op = .load t x) (hx : ρ x = .ptr h (i * T.n)) (hH : K[h]? = some (xN T e xs)) (hz : xs[i]? = some z) : zu P o ρ K (.agg (T.enc z)) K := by
  have hlt := (List.getElem?_eq_some_iff.1 hz).1
  have := xt (P := P) (o := o) (ρ := ρ) (H := K) (n := T.n) ho hx hH (Nat.zero_le _) (by
    show i * T.n + T.n ≤ (T.flat xs).length
    rw [yH, ← Nat.succ_mul]
    exact Nat.mul_le_mul_right _ hlt)
  have e : ((xN T e xs).cells.drop (i * T.n)).take T.n = T.enc z := by
    show ((T.flat xs).drop (i * T.n)).take T.n = _
    rw [tS T hz, ← T.len z, List.take_left']
    rfl
  rw [e] at this
  exact this
end
theorem GiveN.flat {H : List Reg} {hs0 : List Nat} {n h : Nat} {R R' : Reg} {hs : List Nat} {Rs Rs' R2 : List Reg} (hH : H[h]? = some R) (hm : R.mode = 0) (hm' : R'.mode = 0) (hN : NoH R.cells) (hN' : NoH R'.cells) (ht : GiveN H hs0 n hs Rs Rs' R2) : GiveN H hs0 n (h :: hs) (R :: Rs) (R' :: Rs') (R' :: R2) :=
  .cons (R0 := R) (R' := R') (cs := R.cells) (cs2 := R'.cells) hH hm (ww hN) (by omega) (.rest hN') ht
end Go.Proofs.Ytkcicbigpbdjpaa.Ab
namespace Go.Proofs.Ytkcicbigpbdjpaa.Ab
open Go.RowKit
def shR (k : Nat) (r : Reg) : Reg := { r with cells := uK k r.cells }
section
variable {A A' : Nat → Prop} {w w' : World} {φ φ' : List Hd} {H : List Reg}
end
section
variable {P : Program} {o : Oper} {ρ : Operand → V} {H : List Reg}
end
section
variable {α : Type} {T : Ty α} {e : TypeId}
def nC (b : Nat) : List (List α) → List V
  | [] => []
  | x :: xs => .sl b 0 x.length :: nC (b + 1) xs
def nR (T : Ty α) (e : TypeId) (rs : List (List α)) : List Reg := rs.map (xN T e)
def lsT (T : Ty α) : Ty (List α) := ⟨1, fun xs => [yy T xs], fun _ => rfl, by decide, fun r c hc => by
  simp only [List.mem_cons, List.not_mem_nil, or_false] at hc
  subst hc
  exact ⟨rfl, rfl⟩⟩
theorem xA {H : List Reg} {h : Nat} {x : List α} (hH : H[h]? = some (xN T e x)) : Pur true H (.sl h 0 x.length) (yy T x) := vD hH rfl rfl rfl
end
def FlatS (cs : List V) : Prop := ∀ c ∈ cs, (match c with | .k _ | .sl _ _ _ | .ptr _ _ | .any => true | _ => false) = true
section
variable {l : List V} {H : List Reg}
inductive EqS : List V → List V → Prop where
  | nil : EqS [] []
  | any {d : V} {cs ds : List V} (h : EqS cs ds) : EqS (.any :: cs) (d :: ds)
  | same {c d : V} {cs ds : List V} (hc : d = c) (h : EqS cs ds) : EqS (c :: cs) (d :: ds)
theorem EqS.length : ∀ {cs ds : List V}, EqS cs ds → ds.length = cs.length
  | _, _, .nil => rfl
  | _, _, .any h => by simp [EqS.length h]
  | _, _, .same _ h => by simp [EqS.length h]
theorem EqS.rels {A : Nat → Prop} {w : World} {φ : List Hd} : ∀ {cs ds : List V} {g : Nat → Option Value}, EqS cs ds → zi A w φ ds g → zi A w φ cs g
  | _, _, g, .nil, h => h
  | _, _, g, .any hs, h => by
    rw [zi] at h ⊢
    obtain ⟨⟨y, h1, h2⟩, h3⟩ := h
    exact ⟨⟨y, h1, by simp [Rel]⟩, EqS.rels hs h3⟩
  | _, _, g, .same hc hs, h => by
    subst hc
    rw [zi] at h ⊢
    obtain ⟨h1, h3⟩ := h
    exact ⟨h1, EqS.rels hs h3⟩
theorem yp {l' : List V} {H H' : List Reg} {m : Nat} (hH : H' = H) (ht : EqS l' l) : Sub ⟨l', H', m⟩ ⟨l, H, m⟩ := fun C φ a w hI => by
  subst hH
  obtain ⟨hm0, ⟨A, hA, hr⟩, hs, hd⟩ := hI
  exact ⟨φ, hm0, ⟨A, hA, EqS.rels ht hr⟩, hs.trans (EqS.length ht), hd⟩
end
theorem wA {i n : Nat} (h : i < n) (hn : n ≤ 1000000000000) : I (IntKind.i64.wrap ((i : Int) + 1)) = I ((i + 1 : Nat) : Int) := congrArg I (uu h hn)
section
variable {P : Program} {o : Oper} {ρ : Operand → V} {H : List Reg}
end
end Go.Proofs.Ytkcicbigpbdjpaa.Ab
namespace Go.Proofs.Ytkcicbigpbdjpaa.Ab
open Go.RowKit
section
variable {α : Type} {T : Ty α} {e : TypeId}
end
section
variable {P : Program} {o : Oper} {ρ : Operand → V} {H : List Reg}
end
end Go.Proofs.Ytkcicbigpbdjpaa.Ab
namespace Go.Proofs.Ytkcicbigpbdjpaa.Ab
open Go.RowKit
structure Rw where
  a : Int
  b : Int
  c : Int
def rwE (r : Rw) : List V := [I r.a, I r.b, I r.c]
def rwT : Ty Rw := ⟨3, rwE, fun _ => rfl, by decide, fun r c hc => by
  simp only [rwE, List.mem_cons, List.not_mem_nil, or_false] at hc
  rcases hc with rfl | rfl | rfl <;> exact ⟨rfl, rfl⟩⟩
abbrev rwL (xs : List Rw) : V := yy rwT xs
abbrev rwR (xs : List Rw) : Reg := xN rwT 71 xs
def szL (n : Nat) (left : Int) : Int := cond (decide (IntKind.i64.wrap (left - n) < 0)) (-1) (IntKind.i64.wrap (left - n))
def z3 : Rw := ⟨0, 0, 0⟩
def eqC (x y : Rw) : Bool := bif !(decide (x.a = y.a)) then false else bif !(decide (x.b = y.b)) then false else bif !(decide (x.c = y.c)) then false else true
def eqL : List Rw → List Rw → Bool
  | [], [] => true
  | x :: xs, y :: ys => eqC x y && eqL xs ys
  | _, _ => false
theorem y4 (xs : List Rw) : sO (rwT.flat xs) := fun c hc => by
  simp only [Ty.flat, List.mem_flatMap] at hc
  obtain ⟨x, _, hx⟩ := hc
  simp only [rwT, rwE, List.mem_cons, List.not_mem_nil, or_false] at hx
  rcases hx with rfl | rfl | rfl <;> exact ⟨_, rfl⟩
def kk (k : Int) : Nat → Int
  | 0 => k
  | n + 1 => IntKind.i64.wrap (kk k n + 1)
def mkRw (k : Int) (j : Nat) : Rw := ⟨kk k (3 * j), kk k (3 * j + 1), kk k (3 * j + 2)⟩
def mkC (k : Int) (xs : List Rw) (i : Nat) : List Rw := (List.range i).map (mkRw k) ++ xs.drop i
end Go.Proofs.Ytkcicbigpbdjpaa.Ab
namespace Go.Proofs.Ytkcicbigpbdjpaa.Ab
open Go.RowKit
section
variable {P : Program} {o : Oper} {ρ : Operand → V} {H : List Reg} {α : Type} {T : Ty α}
end
section
variable {P : Program} {ops : Array Oper} {ds : List Nat} {k : Nat} {Q : Exit → St → Prop} {S : St}
theorem lq {d : Option Tmp} {t : TypeId} {n : Nat} {els : Array (Nat × Operand)} {ty : TypeId} {p : String} {a : Array Edge} {g : Option (Nat × Bool)} (ho : ops[k]? = some ⟨d, .buildSlice t n els, ty, p, a, g⟩) (h : ALex P ops ds k Q S) : ALex P ops ds k Q S := h
end
end Go.Proofs.Ytkcicbigpbdjpaa.Ab
namespace Go.Proofs.Ytkcicbigpbdjpaa.Ab
open Go.RowKit
def pkV (zs : List Int) (c : Cur) : Int := (zs[(beV zs.length c).toNat]?).getD 0
theorem xB (zs : List Int) (c : Cur) (hl : c.code.length ≤ 1000000000) (h0 : 0 < zs.length) : zn Go.Proofs.Try.prog 131 [.ptr 0 0, .lst zs.length (zs.map I)] [yN c] (I (pkV zs c)) [yN (beC zs.length c)] true := by
  obtain ⟨r0, r1⟩ := xG (n := zs.length) (by omega) c
  refine kY _ _ _ c hl h0 ?_
  have hlt : (beV zs.length c).toNat < zs.length := by omega
  rw [List.getElem?_map, pkV, List.getElem?_eq_getElem hlt]
  rfl
theorem uk {l : List V} {H : List Reg} {t : Tmp} {n : Nat} {v r : V} {K : Reg} (hv : CellIs l H t n v) (hr : Le [0] r v) (hH : HLes [0] H [0] [K]) :
    (Exit.ret = .ret ∨ Exit.ret = .normal) ∧ ∃ v, CellIs l H t n v ∧ Out true r [K] v ⟨l, H, 1⟩ := ⟨Or.inl rfl, v, hv, vt (S := ⟨l, H, 1⟩) [0] yF (vy (by decide) hH) hr (Or.inl rfl)⟩
theorem wE {o : Oper} {ρ : Operand → V} {H H' : List Reg} {f : FuncId} {a : Operand} {args : List Operand} {ats : Array TypeId} {cargs : List V} {m : Nat} {c c' : Cur} {R : Reg} (n h : Nat) [he : Ent Go.Proofs.Try.prog f]
    (hm : zn Go.Proofs.Try.prog f (.ptr 0 0 :: cargs) [yN c] (.sl 1 0 m) [yN c', R] true) (ho : o.op = .call { callee := .value (.func f), args := (a :: args).toArray, argTypes := ats })
    (ha : ρ a = .ptr h 0) (hargs : args.map ρ = cargs) (hN : noHs cargs = true) (hR : NoH R.cells) (hH : H[h]? = some (yN c)) (hn : H.length = n) (hH' : H.set h (yN c') ++ [R] = H') : zu Go.Proofs.Try.prog o ρ H (.sl n 0 m) H' := by
  subst hn
  refine pw (args := a :: args) (K := [R]) (K2 := [R]) (Rs' := [yN c']) [h] (by simp) ho hm (.cons (R0 := yN c) (R' := yN c') hH rfl (ww (zP _)) Nat.zero_ne_one (.rest (zP _)) .nil) ?_ (.ofN (fun q hq => by simp at hq; subst hq; exact hR)) (.sl rfl) hH'
  show PassS [h] (ρ a :: args.map ρ) _
  rw [ha, hargs]
  exact .cons (.ptr rfl) (ww (vW hN))
def yS (keys : Int) (c : Cur) : Rw × Cur := (⟨beV keys c, beV 100 (beC keys c), pkV [0, 0, 1, 2, 3] (beC 100 (beC keys c))⟩, beC 5 (beC 100 (beC keys c)))
theorem vo (keys : Int) (c : Cur) : (yS keys c).2.code = c.code := by
  show (beC 5 (beC 100 (beC keys c))).code = _
  rw [yK, yK, yK]
theorem qm (keys : Int) (c : Cur) (hl : c.code.length ≤ 1000000000) : zn Go.Proofs.Try.prog 159 [.ptr 0 0, I keys] [yN c] (.agg (rwE (yS keys c).1)) [yN (yS keys c).2] true := by
  have h1 : (beC keys c).code.length ≤ 1000000000 := by rw [yK]; exact hl
  have h2 : (beC 100 (beC keys c)).code.length ≤ 1000000000 := by rw [yK]; exact h1
  refine u6 4 71 Go.Proofs.Try.func159 rfl rfl ?_
  simp only [Go.Proofs.Try.ntmps159, List.length_cons, List.length_nil, Nat.reduceAdd, Nat.reduceSub, List.replicate_succ, List.replicate_zero, List.cons_append, List.nil_append]
  repeat' first | (refine isA ?_; refine zd rfl (xO rfl rfl rfl rfl rfl) rfl ?_) | refine zJ ?_ | refine zA ?_ | refine zO [] ?_ | (refine isA ?_; refine zb rfl ?_) | (refine isL ?_; refine zU rfl (by kernel_rfl) rfl rfl ?_) | (refine za rfl ?_; refine zT rfl (by kernel_rfl) rfl rfl ?_) | (refine zq 143 (x := #[.tmp 5, .tmp 6]) ?_; refine zd rfl (zS (K := []) (Rs' := [_]) [0] (by decide) rfl (y0 keys c hl) (.cons rfl rfl rfl (zP _) (zP _) .nil) (.cons (.ptr rfl) (.cons (.same rfl) .nil)) (fun q hq => by cases hq) rfl) rfl ?_) | (refine zr 143 (x := #[.tmp 5, .tmp 6]) rfl ?_; refine zY rfl (by kernel_rfl) rfl (zS (K := []) (Rs' := [_]) [0] (by decide) rfl (y0 keys c hl) (.cons rfl rfl rfl (zP _) (zP _) .nil) (.cons (.ptr rfl) (.cons (.same rfl) .nil)) (fun q hq => by cases hq) rfl) rfl ?_) | (refine zq 143 ?_; refine zd rfl (zS (K := []) (Rs' := [_]) [0] (by decide) rfl (y0 100 (beC keys c) h1) (.cons rfl rfl rfl (zP _) (zP _) .nil) (.cons (.ptr rfl) (.cons (.same rfl) .nil)) (fun q hq => by cases hq) rfl) rfl ?_) | (refine zr 143 rfl ?_; refine zY rfl (by kernel_rfl) rfl (zS (K := []) (Rs' := [_]) [0] (by decide) rfl (y0 100 (beC keys c) h1) (.cons rfl rfl rfl (zP _) (zP _) .nil) (.cons (.ptr rfl) (.cons (.same rfl) .nil)) (fun q hq => by cases hq) rfl) rfl ?_) | (refine zq 131 ?_; refine zd rfl (zS (K := []) (Rs' := [_]) [0] (by decide) rfl (xB [0, 0, 1, 2, 3] (beC 100 (beC keys c)) h2 (by decide)) (.cons rfl rfl rfl (zP _) (zP _) .nil) (.cons (.ptr rfl) (.cons (.same rfl) .nil)) (fun q hq => by cases hq) rfl) rfl ?_) | (refine zr 131 rfl ?_; refine zY rfl (by kernel_rfl) rfl (zS (K := []) (Rs' := [_]) [0] (by decide) rfl (xB [0, 0, 1, 2, 3] (beC 100 (beC keys c)) h2 (by decide)) (.cons rfl rfl rfl (zP _) (zP _) .nil) (.cons (.ptr rfl) (.cons (.same rfl) .nil)) (fun q hq => by cases hq) rfl) rfl ?_) | exact uk (xl rfl rfl rfl rfl rfl) (le_refl rfl) (.cons rfl rfl rfl rfl (zg (zP _)) .nil) | refine zD ?_ | refine zB _ rfl (by kernel_rfl) ?_ | refine zV rfl ?_ | refine zW rfl ?_ | refine zC ?_ | with_reducible refine zM ?_ | refine zH ?_ | refine zI ?_ | (with_reducible first | refine zK ?_ | refine zL ?_ | refine zE ?_ | refine zG ?_ | refine zF ?_) | refine zN ?_
def xL (keys : Int) (c : Cur) : Nat → List Rw × Cur
  | 0 => ([], c)
  | i + 1 => ((xL keys c i).1 ++ [(yS keys (xL keys c i).2).1], (yS keys (xL keys c i).2).2)
theorem vm (keys : Int) (c : Cur) : ∀ i, (xL keys c i).1.length = i
  | 0 => rfl
  | i + 1 => by rw [xL, List.length_append, vm keys c i]; rfl
theorem vF (keys : Int) (c : Cur) : ∀ i, (xL keys c i).2.code = c.code
  | 0 => rfl
  | i + 1 => by rw [xL, vo, vF keys c i]
def zw (most : Int) (c : Cur) : List Rw × Cur := xL (pkV [1, 2, 4, 10] c) (beC (IntKind.i64.wrap (most + 1)) (beC 4 c)) (beV (IntKind.i64.wrap (most + 1)) (beC 4 c)).toNat
theorem xu (most : Int) (c : Cur) : (zw most c).2.code = c.code := by rw [zw, vF, yK, yK]
theorem vn {most : Int} (h0 : 0 ≤ most) (h1 : most ≤ 1000) (c : Cur) : ((zw most c).1.length : Int) ≤ most := by
  have e : IntKind.i64.wrap (most + 1) = most + 1 := by rw [IntKind.wrap_i64]; omega
  rw [zw, vm, e]
  have := xG (n := most + 1) (by omega) (beC 4 c)
  omega
theorem sn (most : Int) (m0 : 0 ≤ most) (m1 : most ≤ 1000) (c : Cur) (hl : c.code.length ≤ 1000000000) : zn Go.Proofs.Try.prog 129 [.ptr 0 0, I most] [yN c] (.sl 1 0 (zw most c).1.length) [yN (zw most c).2, rwR (zw most c).1] true := by
  have h1 : (beC 4 c).code.length ≤ 1000000000 := by rw [yK]; exact hl
  have e : IntKind.i64.wrap (most + 1) = most + 1 := by rw [IntKind.wrap_i64]; omega
  obtain ⟨r0, r1⟩ := xG (n := IntKind.i64.wrap (most + 1)) (by omega) (beC 4 c)
  obtain ⟨k, hk⟩ : ∃ k : Nat, beV (IntKind.i64.wrap (most + 1)) (beC 4 c) = k := ⟨(beV (IntKind.i64.wrap (most + 1)) (beC 4 c)).toNat, by omega⟩
  have hkl : k ≤ 1000 := by omega
  refine zj [4] Go.Proofs.Try.func129 rfl rfl ?_
  simp only [Go.Proofs.Try.ntmps129, List.length_cons, List.length_nil, Nat.reduceAdd, Nat.reduceSub, List.replicate_succ, List.replicate_zero, List.cons_append, List.nil_append]
  repeat' first | (refine isA ?_; refine zd rfl (xO (cs := [1, 2, 4, 10].map I) rfl rfl rfl rfl rfl) rfl ?_) | refine zJ ?_ | refine zA ?_ | refine zO [] ?_ | (refine isA ?_; refine zb rfl ?_) | (refine isL ?_; refine zU rfl (by kernel_rfl) rfl rfl ?_) | (refine za rfl ?_; refine zT rfl (by kernel_rfl) rfl rfl ?_) | (refine zq 131 ?_; refine zd rfl (zS (K := []) (Rs' := [_]) [0] (by decide) rfl (xB [1, 2, 4, 10] c hl (by decide)) (.cons rfl rfl rfl (zP _) (zP _) .nil) (.cons (.ptr rfl) (.cons (.same rfl) .nil)) (fun q hq => by cases hq) rfl) rfl ?_) | (refine zr 131 rfl ?_; refine zY rfl (by kernel_rfl) rfl (zS (K := []) (Rs' := [_]) [0] (by decide) rfl (xB [1, 2, 4, 10] c hl (by decide)) (.cons rfl rfl rfl (zP _) (zP _) .nil) (.cons (.ptr rfl) (.cons (.same rfl) .nil)) (fun q hq => by cases hq) rfl) rfl ?_) | (refine zq 143 ?_; refine zd rfl (zS (K := []) (Rs' := [_]) [0] (by decide) rfl (y0 (IntKind.i64.wrap (most + 1)) (beC 4 c) h1) (.cons rfl rfl rfl (zP _) (zP _) .nil) (.cons (.ptr rfl) (.cons (.same rfl) .nil)) (fun q hq => by cases hq) rfl) rfl ?_) | (refine zr 143 rfl ?_; refine zY rfl (by kernel_rfl) rfl (zS (K := []) (Rs' := [_]) [0] (by decide) rfl (y0 (IntKind.i64.wrap (most + 1)) (beC 4 c) h1) (.cons rfl rfl rfl (zP _) (zP _) .nil) (.cons (.ptr rfl) (.cons (.same rfl) .nil)) (fun q hq => by cases hq) rfl) rfl ?_) | refine zD ?_ | refine zB _ rfl (by kernel_rfl) ?_ | refine zV rfl ?_ | refine zW rfl ?_ | refine zC ?_ | with_reducible refine zM ?_ | refine zH ?_ | refine zI ?_ | (with_reducible first | refine zK ?_ | refine zL ?_ | refine zE ?_ | refine zG ?_ | refine zF ?_) | refine zN ?_
  have hq : (beC (IntKind.i64.wrap (most + 1)) (beC 4 c)).code.length ≤ 1000000000 := by rw [yK]; exact h1
  have hD : zw most c = xL (pkV [1, 2, 4, 10] c) (beC (IntKind.i64.wrap (most + 1)) (beC 4 c)) k := by rw [zw, hk]; rfl
  rw [hD, hk]
  generalize hQ : pkV [1, 2, 4, 10] c = q
  generalize hE : beC (IntKind.i64.wrap (most + 1)) (beC 4 c) = d at hq
  refine zy (α := { j : Nat // j ≤ k }) (fun j => ⟨[.ptr 0 0, .any, .any, .any, .any, .sl 1 0 (xL q d j.1).1.length, I q, I ((k : Int) - j.1), .any, .any, .any, .any, .any, .any, .any, .any, .any, .any, .any, .any, .any, .any, .any, .any, .any, .any, .any], [yN (xL q d j.1).2, rwR (xL q d j.1).1], 1⟩) (fun j => k - j.1) ⟨0, Nat.zero_le _⟩ ?_ ?_
  · refine yf 1 [0, 1] rfl rfl yF (by decide) (.cons rfl rfl rfl rfl (zg (zP _)) (.cons rfl rfl rfl rfl (zx rfl) .nil)) (by
      repeat' first | exact zh | refine zc ?_ ?_ | exact zl | exact le_refl rfl | exact zz rfl | exact zm rfl rfl | exact yP (congrArg _ (by simp)))
  · rintro ⟨j, hj⟩
    have hcl : (xL q d j).2.code.length ≤ 1000000000 := by rw [vF]; exact hq
    have hol := vm q d j
    repeat' first | refine zJ ?_ | refine zA ?_ | refine zO [] ?_ | (refine isA ?_; refine zb rfl ?_) | (refine isL ?_; refine zU rfl (by kernel_rfl) rfl rfl ?_) | (refine za rfl ?_; refine zT rfl (by kernel_rfl) rfl rfl ?_) | refine zD ?_ | refine zB _ rfl (by kernel_rfl) ?_ | refine zV rfl ?_ | refine zW rfl ?_ | refine zC ?_ | with_reducible refine zM ?_ | refine zH ?_ | refine zI ?_ | (with_reducible first | refine zK ?_ | refine zL ?_ | refine zE ?_ | refine zG ?_ | refine zF ?_) | refine zN ?_
    refine zf rfl (fun h => ?_) (fun h => ?_)
    · have hlt : j < k := by have := of_decide_eq_true h; simp only at this; omega
      repeat' first | (refine isA ?_; refine zd rfl (xO rfl rfl rfl rfl rfl) rfl ?_) | refine zJ ?_ | refine zA ?_ | refine zO [] ?_ | (refine isA ?_; refine zb rfl ?_) | (refine isL ?_; refine zU rfl (by kernel_rfl) rfl rfl ?_) | (refine za rfl ?_; refine zT rfl (by kernel_rfl) rfl rfl ?_) | (refine zq 159 ?_; refine zd rfl (zS (K := []) (Rs' := [_]) [0] (by decide) rfl (qm q (xL q d j).2 hcl) (.cons rfl rfl rfl (zP _) (zP _) .nil) (.cons (.ptr rfl) (.cons (.same rfl) .nil)) (fun q hq => by cases hq) rfl) rfl ?_) | (refine zr 159 rfl ?_; refine zY rfl (by kernel_rfl) rfl (zS (K := []) (Rs' := [_]) [0] (by decide) rfl (qm q (xL q d j).2 hcl) (.cons rfl rfl rfl (zP _) (zP _) .nil) (.cons (.ptr rfl) (.cons (.same rfl) .nil)) (fun q hq => by cases hq) rfl) rfl ?_) | (refine x6 ?_; refine zd rfl (yY (t := rwT) (xs := (xL q d j).1) (ys := [(yS q (xL q d j).2).1]) rfl rfl rfl rfl (.lst _ _) (by rw [hol]; simp; omega) rfl) rfl ?_) | (refine xv rfl ?_; refine zY rfl (by kernel_rfl) rfl (yY (t := rwT) (xs := (xL q d j).1) (ys := [(yS q (xL q d j).2).1]) rfl rfl rfl rfl (.lst _ _) (by rw [hol]; simp; omega) rfl) rfl ?_) | refine zD ?_ | refine zB _ rfl (by kernel_rfl) ?_ | refine zV rfl ?_ | refine zW rfl ?_ | refine zC ?_ | with_reducible refine zM ?_ | refine zH ?_ | refine zI ?_ | (with_reducible first | refine zK ?_ | refine zL ?_ | refine zE ?_ | refine zG ?_ | refine zF ?_) | refine zN ?_
      refine ⟨⟨j + 1, hlt⟩, by simp only; omega, ?_⟩
      exact yf 1 [0, 2] rfl rfl yF (by decide) (.cons rfl rfl rfl rfl (zg (zP _)) (.cons rfl rfl rfl rfl (zg (zR _ _)) .nil)) (by
        repeat' first | exact zh | refine zc ?_ ?_ | exact zl | exact le_refl rfl | exact zz rfl | exact zm rfl rfl | exact yP (congrArg _ (show (k : Int) - ((j + 1 : Nat) : Int) = IntKind.i64.wrap ((k : Int) - (j : Int) - 1) by rw [IntKind.wrap_i64]; omega)))
    · have hge : j = k := by have := of_decide_eq_false h; simp only at this; omega
      subst hge
      repeat' first | refine zJ ?_ | refine zA ?_ | refine zO [] ?_ | (refine isA ?_; refine zb rfl ?_) | (refine isL ?_; refine zU rfl (by kernel_rfl) rfl rfl ?_) | (refine za rfl ?_; refine zT rfl (by kernel_rfl) rfl rfl ?_) | exact vJ 1 [0, 1] yF (by decide) rfl (zm rfl rfl) (.cons rfl rfl rfl rfl (zg (zP _)) (.cons rfl rfl rfl rfl (zg (zR _ _)) .nil)) | refine zD ?_ | refine zB _ rfl (by kernel_rfl) ?_ | refine zV rfl ?_ | refine zW rfl ?_ | refine zC ?_ | with_reducible refine zM ?_ | refine zH ?_ | refine zI ?_ | (with_reducible first | refine zK ?_ | refine zL ?_ | refine zE ?_ | refine zG ?_ | refine zF ?_) | refine zN ?_
def wZ (c : Cur) : Rw × Cur :=
  cond (decide (beV 8 (yS 10 c).2 = 0)) (⟨pkV [-1, 10] (beC 8 (yS 10 c).2), (yS 10 c).1.b, (yS 10 c).1.c⟩, beC 2 (beC 8 (yS 10 c).2))
    (cond (decide (beV 8 (yS 10 c).2 = 1)) (⟨(yS 10 c).1.a, pkV [-1, 100, 99] (beC 8 (yS 10 c).2), (yS 10 c).1.c⟩, beC 3 (beC 8 (yS 10 c).2))
      (cond (decide (beV 8 (yS 10 c).2 = 2)) (⟨(yS 10 c).1.a, (yS 10 c).1.b, pkV [-1, 4] (beC 8 (yS 10 c).2)⟩, beC 2 (beC 8 (yS 10 c).2)) ((yS 10 c).1, beC 8 (yS 10 c).2)))
theorem pU (c : Cur) : (wZ c).2.code = c.code := by
  unfold wZ
  cases decide (beV 8 (yS 10 c).2 = 0) <;> cases decide (beV 8 (yS 10 c).2 = 1) <;> cases decide (beV 8 (yS 10 c).2 = 2) <;> simp [yK, vo]
theorem l7 (c : Cur) (hl : c.code.length ≤ 1000000000) : zn Go.Proofs.Try.prog 155 [.ptr 0 0] [yN c] (.agg (rwE (wZ c).1)) [yN (wZ c).2] true := by
  have h1 : (yS 10 c).2.code.length ≤ 1000000000 := by rw [vo]; exact hl
  have h2 : (beC 8 (yS 10 c).2).code.length ≤ 1000000000 := by rw [yK]; exact h1
  refine u6 2 71 Go.Proofs.Try.func155 rfl rfl ?_
  simp only [Go.Proofs.Try.ntmps155, List.length_cons, List.length_nil, Nat.reduceAdd, Nat.reduceSub, List.replicate_succ, List.replicate_zero, List.cons_append, List.nil_append]
  repeat' first | refine zJ ?_ | refine zA ?_ | refine zO [] ?_ | (refine isA ?_; refine zb rfl ?_) | (refine isL ?_; refine zU rfl (by kernel_rfl) rfl rfl ?_) | (refine za rfl ?_; refine zT rfl (by kernel_rfl) rfl rfl ?_) | (refine zq 159 ?_; refine zd rfl (zS (K := []) (Rs' := [_]) [0] (by decide) rfl (qm 10 c hl) (.cons rfl rfl rfl (zP _) (zP _) .nil) (.cons (.ptr rfl) (.cons (.same rfl) .nil)) (fun q hq => by cases hq) rfl) rfl ?_) | (refine zr 159 rfl ?_; refine zY rfl (by kernel_rfl) rfl (zS (K := []) (Rs' := [_]) [0] (by decide) rfl (qm 10 c hl) (.cons rfl rfl rfl (zP _) (zP _) .nil) (.cons (.ptr rfl) (.cons (.same rfl) .nil)) (fun q hq => by cases hq) rfl) rfl ?_) | (refine zq 143 ?_; refine zd rfl (zS (K := []) (Rs' := [_]) [0] (by decide) rfl (y0 8 (yS 10 c).2 h1) (.cons rfl rfl rfl (zP _) (zP _) .nil) (.cons (.ptr rfl) (.cons (.same rfl) .nil)) (fun q hq => by cases hq) rfl) rfl ?_) | (refine zr 143 rfl ?_; refine zY rfl (by kernel_rfl) rfl (zS (K := []) (Rs' := [_]) [0] (by decide) rfl (y0 8 (yS 10 c).2 h1) (.cons rfl rfl rfl (zP _) (zP _) .nil) (.cons (.ptr rfl) (.cons (.same rfl) .nil)) (fun q hq => by cases hq) rfl) rfl ?_) | refine zD ?_ | refine zB _ rfl (by kernel_rfl) ?_ | refine zV rfl ?_ | refine zW rfl ?_ | refine zC ?_ | with_reducible refine zM ?_ | refine zH ?_ | refine zI ?_ | (with_reducible first | refine zK ?_ | refine zL ?_ | refine zE ?_ | refine zG ?_ | refine zF ?_) | refine zN ?_
  refine zf rfl (fun b0 => ?_) (fun b0 => ?_)
  · skip
    have D : wZ c = (⟨pkV [-1, 10] (beC 8 (yS 10 c).2), (yS 10 c).1.b, (yS 10 c).1.c⟩, beC 2 (beC 8 (yS 10 c).2)) := by rw [wZ, b0]; rfl
    repeat' first | (refine isA ?_; refine zd rfl (xO rfl rfl rfl rfl rfl) rfl ?_) | refine zJ ?_ | refine zA ?_ | refine zO [] ?_ | (refine isA ?_; refine zb rfl ?_) | (refine isL ?_; refine zU rfl (by kernel_rfl) rfl rfl ?_) | (refine za rfl ?_; refine zT rfl (by kernel_rfl) rfl rfl ?_) | (refine zq 131 ?_; refine zd rfl (zS (K := []) (Rs' := [_]) [0] (by decide) rfl (xB [-1, 10] (beC 8 (yS 10 c).2) h2 (Nat.zero_lt_succ _)) (.cons rfl rfl rfl (zP _) (zP _) .nil) (.cons (.ptr rfl) (.cons (.same rfl) .nil)) (fun q hq => by cases hq) rfl) rfl ?_) | (refine zr 131 rfl ?_; refine zY rfl (by kernel_rfl) rfl (zS (K := []) (Rs' := [_]) [0] (by decide) rfl (xB [-1, 10] (beC 8 (yS 10 c).2) h2 (Nat.zero_lt_succ _)) (.cons rfl rfl rfl (zP _) (zP _) .nil) (.cons (.ptr rfl) (.cons (.same rfl) .nil)) (fun q hq => by cases hq) rfl) rfl ?_) | exact (by rw [D]; exact uk (xl rfl rfl rfl rfl rfl) (le_refl rfl) (.cons rfl rfl rfl rfl (zg (zP _)) .nil)) | refine zD ?_ | refine zB _ rfl (by kernel_rfl) ?_ | refine zV rfl ?_ | refine zW rfl ?_ | refine zC ?_ | with_reducible refine zM ?_ | refine zH ?_ | refine zI ?_ | (with_reducible first | refine zK ?_ | refine zL ?_ | refine zE ?_ | refine zG ?_ | refine zF ?_) | refine zN ?_
  · repeat' first | refine zJ ?_ | refine zA ?_ | refine zO [] ?_ | (refine isA ?_; refine zb rfl ?_) | (refine isL ?_; refine zU rfl (by kernel_rfl) rfl rfl ?_) | (refine za rfl ?_; refine zT rfl (by kernel_rfl) rfl rfl ?_) | refine zD ?_ | refine zB _ rfl (by kernel_rfl) ?_ | refine zV rfl ?_ | refine zW rfl ?_ | refine zC ?_ | with_reducible refine zM ?_ | refine zH ?_ | refine zI ?_ | (with_reducible first | refine zK ?_ | refine zL ?_ | refine zE ?_ | refine zG ?_ | refine zF ?_) | refine zN ?_
    refine zf rfl (fun b1 => ?_) (fun b1 => ?_)
    · skip
      have D : wZ c = (⟨(yS 10 c).1.a, pkV [-1, 100, 99] (beC 8 (yS 10 c).2), (yS 10 c).1.c⟩, beC 3 (beC 8 (yS 10 c).2)) := by rw [wZ, b0, b1]; rfl
      repeat' first | (refine isA ?_; refine zd rfl (xO rfl rfl rfl rfl rfl) rfl ?_) | refine zJ ?_ | refine zA ?_ | refine zO [] ?_ | (refine isA ?_; refine zb rfl ?_) | (refine isL ?_; refine zU rfl (by kernel_rfl) rfl rfl ?_) | (refine za rfl ?_; refine zT rfl (by kernel_rfl) rfl rfl ?_) | (refine zq 131 ?_; refine zd rfl (zS (K := []) (Rs' := [_]) [0] (by decide) rfl (xB [-1, 100, 99] (beC 8 (yS 10 c).2) h2 (Nat.zero_lt_succ _)) (.cons rfl rfl rfl (zP _) (zP _) .nil) (.cons (.ptr rfl) (.cons (.same rfl) .nil)) (fun q hq => by cases hq) rfl) rfl ?_) | (refine zr 131 rfl ?_; refine zY rfl (by kernel_rfl) rfl (zS (K := []) (Rs' := [_]) [0] (by decide) rfl (xB [-1, 100, 99] (beC 8 (yS 10 c).2) h2 (Nat.zero_lt_succ _)) (.cons rfl rfl rfl (zP _) (zP _) .nil) (.cons (.ptr rfl) (.cons (.same rfl) .nil)) (fun q hq => by cases hq) rfl) rfl ?_) | exact (by rw [D]; exact uk (xl rfl rfl rfl rfl rfl) (le_refl rfl) (.cons rfl rfl rfl rfl (zg (zP _)) .nil)) | refine zD ?_ | refine zB _ rfl (by kernel_rfl) ?_ | refine zV rfl ?_ | refine zW rfl ?_ | refine zC ?_ | with_reducible refine zM ?_ | refine zH ?_ | refine zI ?_ | (with_reducible first | refine zK ?_ | refine zL ?_ | refine zE ?_ | refine zG ?_ | refine zF ?_) | refine zN ?_
    · repeat' first | refine zJ ?_ | refine zA ?_ | refine zO [] ?_ | (refine isA ?_; refine zb rfl ?_) | (refine isL ?_; refine zU rfl (by kernel_rfl) rfl rfl ?_) | (refine za rfl ?_; refine zT rfl (by kernel_rfl) rfl rfl ?_) | refine zD ?_ | refine zB _ rfl (by kernel_rfl) ?_ | refine zV rfl ?_ | refine zW rfl ?_ | refine zC ?_ | with_reducible refine zM ?_ | refine zH ?_ | refine zI ?_ | (with_reducible first | refine zK ?_ | refine zL ?_ | refine zE ?_ | refine zG ?_ | refine zF ?_) | refine zN ?_
      refine zf rfl (fun b2 => ?_) (fun b2 => ?_)
      · skip
        have D : wZ c = (⟨(yS 10 c).1.a, (yS 10 c).1.b, pkV [-1, 4] (beC 8 (yS 10 c).2)⟩, beC 2 (beC 8 (yS 10 c).2)) := by rw [wZ, b0, b1, b2]; rfl
        repeat' first | (refine isA ?_; refine zd rfl (xO rfl rfl rfl rfl rfl) rfl ?_) | refine zJ ?_ | refine zA ?_ | refine zO [] ?_ | (refine isA ?_; refine zb rfl ?_) | (refine isL ?_; refine zU rfl (by kernel_rfl) rfl rfl ?_) | (refine za rfl ?_; refine zT rfl (by kernel_rfl) rfl rfl ?_) | (refine zq 131 ?_; refine zd rfl (zS (K := []) (Rs' := [_]) [0] (by decide) rfl (xB [-1, 4] (beC 8 (yS 10 c).2) h2 (Nat.zero_lt_succ _)) (.cons rfl rfl rfl (zP _) (zP _) .nil) (.cons (.ptr rfl) (.cons (.same rfl) .nil)) (fun q hq => by cases hq) rfl) rfl ?_) | (refine zr 131 rfl ?_; refine zY rfl (by kernel_rfl) rfl (zS (K := []) (Rs' := [_]) [0] (by decide) rfl (xB [-1, 4] (beC 8 (yS 10 c).2) h2 (Nat.zero_lt_succ _)) (.cons rfl rfl rfl (zP _) (zP _) .nil) (.cons (.ptr rfl) (.cons (.same rfl) .nil)) (fun q hq => by cases hq) rfl) rfl ?_) | exact (by rw [D]; exact uk (xl rfl rfl rfl rfl rfl) (le_refl rfl) (.cons rfl rfl rfl rfl (zg (zP _)) .nil)) | refine zD ?_ | refine zB _ rfl (by kernel_rfl) ?_ | refine zV rfl ?_ | refine zW rfl ?_ | refine zC ?_ | with_reducible refine zM ?_ | refine zH ?_ | refine zI ?_ | (with_reducible first | refine zK ?_ | refine zL ?_ | refine zE ?_ | refine zG ?_ | refine zF ?_) | refine zN ?_
      · skip
        have D : wZ c = ((yS 10 c).1, beC 8 (yS 10 c).2) := by rw [wZ, b0, b1, b2]; rfl
        repeat' first | refine zJ ?_ | refine zA ?_ | refine zO [] ?_ | (refine isA ?_; refine zb rfl ?_) | (refine isL ?_; refine zU rfl (by kernel_rfl) rfl rfl ?_) | (refine za rfl ?_; refine zT rfl (by kernel_rfl) rfl rfl ?_) | exact (by rw [D]; exact uk (xl rfl rfl rfl rfl rfl) (le_refl rfl) (.cons rfl rfl rfl rfl (zg (zP _)) .nil)) | refine zD ?_ | refine zB _ rfl (by kernel_rfl) ?_ | refine zV rfl ?_ | refine zW rfl ?_ | refine zC ?_ | with_reducible refine zM ?_ | refine zH ?_ | refine zI ?_ | (with_reducible first | refine zK ?_ | refine zL ?_ | refine zE ?_ | refine zG ?_ | refine zF ?_) | refine zN ?_
def yo (most : Int) (c : Cur) : List Rw × Cur :=
  cond (decide (beV 14 (zw most c).2 = 0)) ((zw most c).1 ++ [(wZ (beC 14 (zw most c).2)).1], (wZ (beC 14 (zw most c).2)).2) ((zw most c).1, beC 14 (zw most c).2)
theorem sr (most : Int) (c : Cur) : (yo most c).2.code = c.code := by
  unfold yo
  cases decide (beV 14 (zw most c).2 = 0) <;> simp [yK, xu, pU]
theorem tD {most : Int} (h0 : 0 ≤ most) (h1 : most ≤ 1000) (c : Cur) : ((yo most c).1.length : Int) ≤ most + 1 := by
  have := vn h0 h1 c
  unfold yo
  cases decide (beV 14 (zw most c).2 = 0) <;> simp <;> omega
theorem ka (most : Int) (m0 : 0 ≤ most) (m1 : most ≤ 1000) (c : Cur) (hl : c.code.length ≤ 1000000000) : zn Go.Proofs.Try.prog 105 [.ptr 0 0, I most] [yN c] (.sl 1 0 (yo most c).1.length) [yN (yo most c).2, rwR (yo most c).1] true := by
  have h1 : (zw most c).2.code.length ≤ 1000000000 := by rw [xu]; exact hl
  have h2 : (beC 14 (zw most c).2).code.length ≤ 1000000000 := by rw [yK]; exact h1
  have hrl := vn m0 m1 c
  refine zj [4] Go.Proofs.Try.func105 rfl rfl ?_
  simp only [Go.Proofs.Try.ntmps105, List.length_cons, List.length_nil, Nat.reduceAdd, Nat.reduceSub, List.replicate_succ, List.replicate_zero, List.cons_append, List.nil_append]
  repeat' first | refine zJ ?_ | refine zA ?_ | refine zO [] ?_ | (refine isA ?_; refine zb rfl ?_) | (refine isL ?_; refine zU rfl (by kernel_rfl) rfl rfl ?_) | (refine za rfl ?_; refine zT rfl (by kernel_rfl) rfl rfl ?_) | (refine zq 129 ?_; refine zd rfl (wE (args := [_]) 1 0 (sn most m0 m1 c hl) rfl rfl rfl rfl (zR _ _) rfl rfl rfl) rfl ?_) | (refine zr 129 rfl ?_; refine zY rfl (by kernel_rfl) rfl (wE (args := [_]) 1 0 (sn most m0 m1 c hl) rfl rfl rfl rfl (zR _ _) rfl rfl rfl) rfl ?_) | (refine zq 128 ?_; refine zd rfl (zS (K := []) (Rs' := [_]) [0] (by decide) rfl (uo 14 (zw most c).2 h1) (.cons rfl rfl rfl (zP _) (zP _) .nil) (.cons (.ptr rfl) (.cons (.same rfl) .nil)) (fun q hq => by cases hq) rfl) rfl ?_) | (refine zr 128 rfl ?_; refine zY rfl (by kernel_rfl) rfl (zS (K := []) (Rs' := [_]) [0] (by decide) rfl (uo 14 (zw most c).2 h1) (.cons rfl rfl rfl (zP _) (zP _) .nil) (.cons (.ptr rfl) (.cons (.same rfl) .nil)) (fun q hq => by cases hq) rfl) rfl ?_) | refine zD ?_ | refine zB _ rfl (by kernel_rfl) ?_ | refine zV rfl ?_ | refine zW rfl ?_ | refine zC ?_ | with_reducible refine zM ?_ | refine zH ?_ | refine zI ?_ | (with_reducible first | refine zK ?_ | refine zL ?_ | refine zE ?_ | refine zG ?_ | refine zF ?_) | refine zN ?_
  refine zf rfl (fun b0 => ?_) (fun b0 => ?_)
  · skip
    have D : yo most c = ((zw most c).1 ++ [(wZ (beC 14 (zw most c).2)).1], (wZ (beC 14 (zw most c).2)).2) := by rw [yo, b0]; rfl
    repeat' first | (refine isA ?_; refine zd rfl (xO rfl rfl rfl rfl rfl) rfl ?_) | refine zJ ?_ | refine zA ?_ | refine zO [] ?_ | (refine isA ?_; refine zb rfl ?_) | (refine isL ?_; refine zU rfl (by kernel_rfl) rfl rfl ?_) | (refine za rfl ?_; refine zT rfl (by kernel_rfl) rfl rfl ?_) | (refine zq 155 ?_; refine zd rfl (zS (K := []) (Rs' := [_]) [0] (by decide) rfl (l7 (beC 14 (zw most c).2) h2) (.cons rfl rfl rfl (zP _) (zP _) .nil) (.cons (.ptr rfl) .nil) (fun q hq => by cases hq) rfl) rfl ?_) | (refine zr 155 rfl ?_; refine zY rfl (by kernel_rfl) rfl (zS (K := []) (Rs' := [_]) [0] (by decide) rfl (l7 (beC 14 (zw most c).2) h2) (.cons rfl rfl rfl (zP _) (zP _) .nil) (.cons (.ptr rfl) .nil) (fun q hq => by cases hq) rfl) rfl ?_) | (refine x6 ?_; refine zd rfl (yY (t := rwT) (xs := (zw most c).1) (ys := [(wZ (beC 14 (zw most c).2)).1]) rfl rfl rfl rfl (.lst _ _) (by simp; omega) rfl) rfl ?_) | (refine xv rfl ?_; refine zY rfl (by kernel_rfl) rfl (yY (t := rwT) (xs := (zw most c).1) (ys := [(wZ (beC 14 (zw most c).2)).1]) rfl rfl rfl rfl (.lst _ _) (by simp; omega) rfl) rfl ?_) | exact (by rw [D]; exact vJ 1 [0, 2] yF (by decide) rfl (zm rfl rfl) (.cons rfl rfl rfl rfl (zg (zP _)) (.cons rfl rfl rfl rfl (zg (zR _ _)) .nil))) | refine zD ?_ | refine zB _ rfl (by kernel_rfl) ?_ | refine zV rfl ?_ | refine zW rfl ?_ | refine zC ?_ | with_reducible refine zM ?_ | refine zH ?_ | refine zI ?_ | (with_reducible first | refine zK ?_ | refine zL ?_ | refine zE ?_ | refine zG ?_ | refine zF ?_) | refine zN ?_
  · skip
    have D : yo most c = ((zw most c).1, beC 14 (zw most c).2) := by rw [yo, b0]; rfl
    repeat' first | refine zJ ?_ | refine zA ?_ | refine zO [] ?_ | (refine isA ?_; refine zb rfl ?_) | (refine isL ?_; refine zU rfl (by kernel_rfl) rfl rfl ?_) | (refine za rfl ?_; refine zT rfl (by kernel_rfl) rfl rfl ?_) | exact (by rw [D]; exact vJ 1 [0, 1] yF (by decide) rfl (zm rfl rfl) (.cons rfl rfl rfl rfl (zg (zP _)) (.cons rfl rfl rfl rfl (zg (zR _ _)) .nil))) | refine zD ?_ | refine zB _ rfl (by kernel_rfl) ?_ | refine zV rfl ?_ | refine zW rfl ?_ | refine zC ?_ | with_reducible refine zM ?_ | refine zH ?_ | refine zI ?_ | (with_reducible first | refine zK ?_ | refine zL ?_ | refine zE ?_ | refine zG ?_ | refine zF ?_) | refine zN ?_
end Go.Proofs.Ytkcicbigpbdjpaa.Ab
namespace Go.Proofs.Ytkcicbigpbdjpaa.Ab
open Go.RowKit
section
variable {P : Program}
def uE (r : Reg) : Reg := { r with mode := 2 }
theorem zn.frozenK {f : FuncId} {cargs : List V} {Rs Rs' K : List Reg} {r r' : V} {al : Bool} (h : zn P f cargs Rs r (Rs' ++ K) al) (hl : Rs'.length = Rs.length) (hN : ∀ q ∈ Rs', NoH q.cells)
    (hm : ∀ (i : Nat) (R R' : Reg), Rs[i]? = some R → Rs'[i]? = some R' → R.mode = 0 → R'.mode = 0) (hp : Pur true (Rs'.map uE ++ K) r r') : zn P f cargs Rs r' Rs' true := by
  intro A φ w xs hok hrel hsz
  refine (h A φ w xs hok hrel hsz).mono ?_
  rintro e w' ⟨x, φ', A', rfl, k1, k2, k3, k4, k5, k6⟩
  have hlen : φ'.length = Rs'.length + K.length := by rw [k1.len, List.length_append]
  have hφl : φ.length = Rs'.length := by rw [hok.len, hl]
  have hget : ∀ (i : Nat) (q : Reg), (Rs'.map uE ++ K)[i]? = some q → q.mode ≤ 1 → Rs'.length ≤ i ∧ (Rs' ++ K)[i]? = some q := fun i q hq hm1 => by
    rcases Nat.lt_or_ge i Rs'.length with hlt | hge
    · rw [List.getElem?_append_left (by simpa using hlt), List.getElem?_map] at hq
      obtain ⟨z, hz⟩ : ∃ z, Rs'[i]? = some z := ⟨_, List.getElem?_eq_getElem hlt⟩
      rw [hz] at hq
      simp only [Option.map_some, Option.some.injEq] at hq
      subst hq
      exact absurd (show (2 : Nat) ≤ 1 from hm1) (by decide)
    · refine ⟨hge, ?_⟩
      rw [List.getElem?_append_right (by simpa using hge), List.length_map] at hq
      rw [List.getElem?_append_right hge]
      exact hq
  have hlive2 : ∀ i b, zk φ' (Rs'.map uE ++ K) i b → Rs'.length ≤ i ∧ zk φ' (Rs' ++ K) i b := fun i b ⟨hd, q, q1, q2, q3, q4⟩ =>
    have := hget i q q2 (by omega)
    ⟨this.1, hd, q, q1, this.2, q3, q4⟩
  have kd : HeapOk A' w' φ' (Rs'.map uE ++ K) := ⟨by rw [hlen]; simp, fun i hd q q1 q2 q3 => k1.regs i hd q q1 (hget i q q2 q3).2 q3, fun i j b q1 q2 => k1.inj i j b (hlive2 i b q1).2 (hlive2 j b q2).2, fun i b q1 => k1.apart i b (hlive2 i b q1).2, fun i hd q b q1 q2 q3 q4 => k1.frz i hd q b q1 (hget i q q2 (by omega)).2 q3 q4, k1.low⟩
  have hT : ∀ (i : Nat) (hd : Hd), (φ'.take Rs'.length)[i]? = some hd → i < Rs'.length ∧ φ'[i]? = some hd := fun i hd hi => by
    have hlt : i < (φ'.take Rs'.length).length := (List.getElem?_eq_some_iff.1 hi).1
    rw [List.length_take] at hlt
    rw [List.getElem?_take_of_lt (by omega)] at hi
    exact ⟨by omega, hi⟩
  have hL : ∀ i b, zk (φ'.take Rs'.length) Rs' i b → i < Rs'.length ∧ zk φ' (Rs' ++ K) i b := fun i b ⟨hd, q, q1, q2, q3, q4⟩ =>
    have := hT i hd q1
    ⟨this.1, hd, q, this.2, by rw [List.getElem?_append_left this.1]; exact q2, q3, q4⟩
  have hmono : ∀ b, A' b → (A' b ∨ ∃ i, zk φ' (Rs'.map uE ++ K) i b) ∧ w'.heap[b]? = w'.heap[b]? := fun b hb => ⟨Or.inl hb, rfl⟩
  refine ⟨x, φ'.take Rs'.length, fun b => A' b ∨ ∃ i, zk φ' (Rs'.map uE ++ K) i b, rfl, ⟨by rw [List.length_take]; omega, fun i hd q q1 q2 q3 => ?_, fun i j b q1 q2 => k1.inj i j b (hL i b q1).2 (hL j b q2).2, fun i b q1 hb => ?_, fun i hd q b q1 q2 q3 q4 => ?_, fun b hb => ?_⟩, ?_, fun b hb => ?_, fun i b q1 => k4 i b (hL i b q1).2, k5, fun i hd q1 => ?_⟩
  · obtain ⟨t1, t2⟩ := hT i hd q1
    have := k1.regs i hd q t2 (by rw [List.getElem?_append_left t1]; exact q2) q3
    obtain ⟨e1, e2⟩ := this
    refine ⟨e1, ?_⟩
    cases hk : hd.blk with
    | none => rw [hk] at e2; exact e2
    | some b =>
      rw [hk] at e2
      obtain ⟨c, f1, f2, f3, f4⟩ := e2
      exact ⟨c, f1, f2, f3, zi.mono hmono (fun _ _ h => h) (xM (hN q (List.mem_of_getElem? q2)) f4)⟩
  · rcases hb with hb | ⟨j, hb⟩
    · exact k1.apart i b (hL i b q1).2 hb
    · obtain ⟨g1, g2⟩ := hlive2 j b hb
      have := k1.inj i j b (hL i b q1).2 g2
      have := (hL i b q1).1
      omega
  · obtain ⟨t1, t2⟩ := hT i hd q1
    exact Or.inl (k1.frz i hd q b t2 (by rw [List.getElem?_append_left t1]; exact q2) q3 q4)
  · rcases hb with hb | ⟨j, hb⟩
    · exact k1.low b hb
    · obtain ⟨g1, hd, q, g2, g3, g4, g5⟩ := hlive2 j b hb
      exact xy k1 g2 g3 (by omega) g5
  · exact Rel.mono (fun b hb => ⟨hb, rfl⟩) (fun j hd hj => by simp at hj) (Pur.rel kd (fun b hb => Or.inl hb) (fun _ j b hb => Or.inr ⟨j, hb⟩) hp k2)
  · rcases hb with hb | ⟨j, hb⟩
    · exact (k3 b hb).imp (fun h => ⟨rfl, h.2⟩) id
    · obtain ⟨g1, g2⟩ := hlive2 j b hb
      rcases k4 j b g2 with h1 | ⟨h0, hd, q, p1, p2, p3, p4⟩
      · exact Or.inr h1
      · exfalso
        have hlt : h0 < Rs'.length := by have := (List.getElem?_eq_some_iff.1 p1).1; omega
        obtain ⟨z, hz⟩ : ∃ z, Rs'[h0]? = some z := ⟨_, List.getElem?_eq_getElem hlt⟩
        have hz0 := hm h0 q z p2 hz p3
        have := k1.inj j h0 b g2 ⟨hd, z, k6 h0 hd p1, by rw [List.getElem?_append_left hlt]; exact hz, hz0, p4⟩
        omega
  · have hlt : i < Rs'.length := by have := (List.getElem?_eq_some_iff.1 q1).1; omega
    rw [List.getElem?_take_of_lt hlt]
    exact k6 i hd q1
end
theorem sK {P : Program} (id : Nat) {ops : Array Oper} {b : Bool} {y : Code} {Q : Exit → St → Prop} {S : St} (T : St) (h : AW P (.region id ops b) (fun e S' => e = .normal ∧ Sub T S') S) (k : AW P y Q T) : AW P (.seq (.region id ops b) y) Q S :=
  zJ ⟨fun C φ a w hI => wp_mono (h.out C φ a w hI) fun e a' w' hq => by
    obtain ⟨S', φ1, hI', he, hs⟩ := hq
    subst he
    obtain ⟨φ2, h2⟩ := hs C φ1 a' w' hI'
    exact ⟨T, φ2, h2, k⟩⟩
@[irreducible] def Hold (p : Prop) : Prop := p
theorem pX {p : Prop} (h : Hold p) : p := by unfold Hold at h; exact h
theorem t7 {p : Prop} (h : p) : Hold p := by unfold Hold; exact h
end Go.Proofs.Ytkcicbigpbdjpaa.Ab
namespace Go.Proofs.Ytkcicbigpbdjpaa.Ab
open Go.RowKit
abbrev Rn := List Rw
abbrev rnT : Ty Rn := lsT rwT
abbrev rnL (rs : List Rn) : V := yy rnT rs
abbrev rnN (rs : List Rn) : List Reg := ⟨39, 1, nC 1 rs, 0⟩ :: nR rwT 71 rs
def okRn (rs : List Rn) : Prop := rs.length ≤ 1000000000 ∧ ∀ x ∈ rs, x.length ≤ 1000000000
theorem okRn.at {rs : List Rn} (h : okRn rs) {i : Nat} {x : Rn} (hx : rs[i]? = some x) : x.length ≤ 1000000000 := h.2 x (List.mem_of_getElem? hx)
def szG : List Rn → Int → Int
  | [], l => l
  | x :: xs, l => cond (decide (szL x.length l < 0)) (-1) (szG xs (szL x.length l))
def szR (rs : List Rn) (l : Int) : Int := cond (decide (IntKind.i64.wrap (l - rs.length) < 0)) (-1) (szG rs (IntKind.i64.wrap (l - rs.length)))
def tot (rs : List Rn) : Nat := (rs.map List.length).sum
abbrev nilV : V := .k (.slice none 0 0)
theorem wo {α : Type} {rs : List α} {i : Nat} {z : α} (hz : rs[i]? = some z) : rs.take (i + 1) = rs.take i ++ [z] := by
  rw [List.take_add_one, hz]; rfl
end Go.Proofs.Ytkcicbigpbdjpaa.Ab
namespace Go.Proofs.Ytkcicbigpbdjpaa.Ab
open Go.RowKit
theorem yR {α : Type} {rs : List α} {i : Nat} {z : α} (hz : rs[i]? = some z) : rs.drop i = z :: rs.drop (i + 1) := by
  obtain ⟨h, e⟩ := List.getElem?_eq_some_iff.1 hz
  rw [List.drop_eq_getElem_cons h, e]
def mkRu : Int → List Rn → List Rn
  | _, [] => []
  | k, x :: xs => mkC k x x.length :: mkRu (kk k (3 * x.length)) xs
def mid (k : Int) (rs : List Rn) (i : Nat) : List Rn := mkRu k (rs.take i) ++ rs.drop i
end Go.Proofs.Ytkcicbigpbdjpaa.Ab
namespace Go.Proofs.Ytkcicbigpbdjpaa.Ab
open Go.RowKit
def inV (x lo hi : Int) : Bool := decide (lo ≤ x) && decide (x ≤ hi)
theorem ms (x lo hi : Int) : zn Go.Proofs.Try.prog 114 [I x, I lo, I hi] [] (B (inV x lo hi)) [] false := by
  refine zj [6] Go.Proofs.Try.func114 rfl rfl ?_
  simp only [Go.Proofs.Try.ntmps114, List.length_cons, List.length_nil, Nat.reduceAdd, Nat.reduceSub, List.replicate_succ, List.replicate_zero, List.cons_append, List.nil_append]
  repeat' first | refine zJ ?_ | refine zA ?_ | refine zO [] ?_ | (refine isA ?_; refine zb rfl ?_) | (refine isL ?_; refine zU rfl (by kernel_rfl) rfl rfl ?_) | (refine za rfl ?_; refine zT rfl (by kernel_rfl) rfl rfl ?_) | exact yX rfl rfl (by first | ((try simp only [Bool.not_eq_true', Bool.not_eq_false'] at *); simp only [inV, *, Bool.true_and, Bool.false_and, Bool.and_true, Bool.and_false, Bool.true_or, Bool.false_or, Bool.or_true, Bool.or_false, Bool.not_true, Bool.not_false, cond_true, cond_false]; done) | (simp_all [inV]; done) | (simp_all [inV]; intros; omega)) | refine zD ?_ | refine zB _ rfl (by kernel_rfl) ?_ | refine zV rfl ?_ | refine zW rfl ?_ | refine zC ?_ | with_reducible refine zM ?_ | refine zH ?_ | refine zI ?_ | (with_reducible first | refine zK ?_ | refine zL ?_ | refine zE ?_ | refine zG ?_ | refine zF ?_) | refine zN ?_ | (refine vY ?_; refine xi rfl rfl (fun hbr => ?_) (fun hbr => ?_) <;> (fail_if_success (with_reducible (have hx : true = true := hbr))) <;> (fail_if_success (with_reducible (have hx : false = false := hbr)))) | (refine za rfl ?_; refine yz rfl rfl rfl rfl (fun hbr => ?_) (fun hbr => ?_) <;> (fail_if_success (with_reducible (have hx : true = true := hbr))) <;> (fail_if_success (with_reducible (have hx : false = false := hbr))))
theorem vg (x lo hi : Int) : zn Go.Proofs.Try.prog 141 [I x, I lo, I hi] [] (B (inV x lo hi)) [] false := by
  refine zj [6] Go.Proofs.Try.func141 rfl rfl ?_
  simp only [Go.Proofs.Try.ntmps141, List.length_cons, List.length_nil, Nat.reduceAdd, Nat.reduceSub, List.replicate_succ, List.replicate_zero, List.cons_append, List.nil_append]
  repeat' first | refine zJ ?_ | refine zA ?_ | refine zO [] ?_ | (refine isA ?_; refine zb rfl ?_) | (refine isL ?_; refine zU rfl (by kernel_rfl) rfl rfl ?_) | (refine za rfl ?_; refine zT rfl (by kernel_rfl) rfl rfl ?_) | exact yX rfl rfl (by first | ((try simp only [Bool.not_eq_true', Bool.not_eq_false'] at *); simp only [inV, *, Bool.true_and, Bool.false_and, Bool.and_true, Bool.and_false, Bool.true_or, Bool.false_or, Bool.or_true, Bool.or_false, Bool.not_true, Bool.not_false, cond_true, cond_false]; done) | (simp_all [inV]; done) | (simp_all [inV]; intros; omega)) | refine zD ?_ | refine zB _ rfl (by kernel_rfl) ?_ | refine zV rfl ?_ | refine zW rfl ?_ | refine zC ?_ | with_reducible refine zM ?_ | refine zH ?_ | refine zI ?_ | (with_reducible first | refine zK ?_ | refine zL ?_ | refine zE ?_ | refine zG ?_ | refine zF ?_) | refine zN ?_ | (refine vY ?_; refine xi rfl rfl (fun hbr => ?_) (fun hbr => ?_) <;> (fail_if_success (with_reducible (have hx : true = true := hbr))) <;> (fail_if_success (with_reducible (have hx : false = false := hbr)))) | (refine za rfl ?_; refine yz rfl rfl rfl rfl (fun hbr => ?_) (fun hbr => ?_) <;> (fail_if_success (with_reducible (have hx : true = true := hbr))) <;> (fail_if_success (with_reducible (have hx : false = false := hbr))))
def vRw (x : Rw) : Bool := inV x.a 0 9 && (inV x.b 0 99 && inV x.c 0 3)
theorem mo (x : Rw) : zn Go.Proofs.Try.prog 152 [.agg (rwE x)] [] (B (vRw x)) [] false := by
  refine zj [2] Go.Proofs.Try.func152 rfl rfl ?_
  simp only [Go.Proofs.Try.ntmps152, List.length_cons, List.length_nil, Nat.reduceAdd, Nat.reduceSub, List.replicate_succ, List.replicate_zero, List.cons_append, List.nil_append]
  repeat' first | refine zJ ?_ | refine zA ?_ | refine zO [] ?_ | (refine isA ?_; refine zb rfl ?_) | (refine isL ?_; refine zU rfl (by kernel_rfl) rfl rfl ?_) | (refine za rfl ?_; refine zT rfl (by kernel_rfl) rfl rfl ?_) | (refine zq 114 ?_; refine zd rfl (zZ rfl (ms _ _ _) (.cons (.same rfl) (.cons (.same rfl) (.cons (.same rfl) .nil))) rfl) rfl ?_) | (refine zr 114 rfl ?_; refine zY rfl (by kernel_rfl) rfl (zZ rfl (ms _ _ _) (.cons (.same rfl) (.cons (.same rfl) (.cons (.same rfl) .nil))) rfl) rfl ?_) | exact yX rfl rfl (by first | ((try simp only [Bool.not_eq_true', Bool.not_eq_false'] at *); simp only [vRw, *, Bool.true_and, Bool.false_and, Bool.and_true, Bool.and_false, Bool.true_or, Bool.false_or, Bool.or_true, Bool.or_false, Bool.not_true, Bool.not_false, cond_true, cond_false]; done) | (simp_all [vRw]; done) | (simp_all [vRw]; intros; omega)) | refine zD ?_ | refine zB _ rfl (by kernel_rfl) ?_ | refine zV rfl ?_ | refine zW rfl ?_ | refine zC ?_ | with_reducible refine zM ?_ | refine zH ?_ | refine zI ?_ | (with_reducible first | refine zK ?_ | refine zL ?_ | refine zE ?_ | refine zG ?_ | refine zF ?_) | refine zN ?_ | (refine vY ?_; refine xi rfl rfl (fun hbr => ?_) (fun hbr => ?_) <;> (fail_if_success (with_reducible (have hx : true = true := hbr))) <;> (fail_if_success (with_reducible (have hx : false = false := hbr)))) | (refine za rfl ?_; refine yz rfl rfl rfl rfl (fun hbr => ?_) (fun hbr => ?_) <;> (fail_if_success (with_reducible (have hx : true = true := hbr))) <;> (fail_if_success (with_reducible (have hx : false = false := hbr))))
theorem mr (x : Rw) : zn Go.Proofs.Try.prog 157 [.agg (rwE x)] [] (B (vRw x)) [] false := by
  refine zj [2] Go.Proofs.Try.func157 rfl rfl ?_
  simp only [Go.Proofs.Try.ntmps157, List.length_cons, List.length_nil, Nat.reduceAdd, Nat.reduceSub, List.replicate_succ, List.replicate_zero, List.cons_append, List.nil_append]
  repeat' first | refine zJ ?_ | refine zA ?_ | refine zO [] ?_ | (refine isA ?_; refine zb rfl ?_) | (refine isL ?_; refine zU rfl (by kernel_rfl) rfl rfl ?_) | (refine za rfl ?_; refine zT rfl (by kernel_rfl) rfl rfl ?_) | (refine zq 141 ?_; refine zd rfl (zZ rfl (vg _ _ _) (.cons (.same rfl) (.cons (.same rfl) (.cons (.same rfl) .nil))) rfl) rfl ?_) | (refine zr 141 rfl ?_; refine zY rfl (by kernel_rfl) rfl (zZ rfl (vg _ _ _) (.cons (.same rfl) (.cons (.same rfl) (.cons (.same rfl) .nil))) rfl) rfl ?_) | exact yX rfl rfl (by first | ((try simp only [Bool.not_eq_true', Bool.not_eq_false'] at *); simp only [vRw, *, Bool.true_and, Bool.false_and, Bool.and_true, Bool.and_false, Bool.true_or, Bool.false_or, Bool.or_true, Bool.or_false, Bool.not_true, Bool.not_false, cond_true, cond_false]; done) | (simp_all [vRw]; done) | (simp_all [vRw]; intros; omega)) | refine zD ?_ | refine zB _ rfl (by kernel_rfl) ?_ | refine zV rfl ?_ | refine zW rfl ?_ | refine zC ?_ | with_reducible refine zM ?_ | refine zH ?_ | refine zI ?_ | (with_reducible first | refine zK ?_ | refine zL ?_ | refine zE ?_ | refine zG ?_ | refine zF ?_) | refine zN ?_ | (refine vY ?_; refine xi rfl rfl (fun hbr => ?_) (fun hbr => ?_) <;> (fail_if_success (with_reducible (have hx : true = true := hbr))) <;> (fail_if_success (with_reducible (have hx : false = false := hbr)))) | (refine za rfl ?_; refine yz rfl rfl rfl rfl (fun hbr => ?_) (fun hbr => ?_) <;> (fail_if_success (with_reducible (have hx : true = true := hbr))) <;> (fail_if_success (with_reducible (have hx : false = false := hbr))))
def avR (xs : List Rw) : Bool := xs.all vRw && decide ((xs.length : Int) ≤ 24)
end Go.Proofs.Ytkcicbigpbdjpaa.Ab
namespace Go.Proofs.Ytkcicbigpbdjpaa.Ab
open Go.RowKit
def vG (a b : Int) : Int := cond (decide (a < b)) (-1) (cond (decide (b < a)) 1 0)
def ye : List Int → List Int → Int
  | x :: xs, y :: ys => cond (decide (x < y)) (-1) (cond (decide (y < x)) 1 (ye xs ys))
  | _, _ => 0
def rwN (x : Rw) : List Int := [x.a, x.b, x.c]
def yM (x y : Rw) : Int := ye (rwN x) (rwN y)
theorem wz (a b : Int) : zn Go.Proofs.Try.prog 147 [I a, I b] [] (I (vG a b)) [] false := by
  refine zj [4] Go.Proofs.Try.func147 rfl rfl ?_
  simp only [Go.Proofs.Try.ntmps147, List.length_cons, List.length_nil, Nat.reduceAdd, Nat.reduceSub, List.replicate_succ, List.replicate_zero, List.cons_append, List.nil_append]
  repeat' first | refine zJ ?_ | refine zA ?_ | refine zO [] ?_ | (refine isA ?_; refine zb rfl ?_) | (refine isL ?_; refine zU rfl (by kernel_rfl) rfl rfl ?_) | (refine za rfl ?_; refine zT rfl (by kernel_rfl) rfl rfl ?_) | exact yX rfl rfl (by simp only [vG, *, cond_true, cond_false]) | refine zD ?_ | refine zB _ rfl (by kernel_rfl) ?_ | refine zV rfl ?_ | refine zW rfl ?_ | refine zC ?_ | with_reducible refine zM ?_ | refine zH ?_ | refine zI ?_ | (with_reducible first | refine zK ?_ | refine zL ?_ | refine zE ?_ | refine zG ?_ | refine zF ?_) | refine zN ?_ | refine zf rfl (fun hbr => ?_) (fun hbr => ?_) | (refine vY ?_; refine xi rfl rfl (fun hbr => ?_) (fun hbr => ?_) <;> (fail_if_success (with_reducible (have hx : true = true := hbr))) <;> (fail_if_success (with_reducible (have hx : false = false := hbr)))) | (refine za rfl ?_; refine yz rfl rfl rfl rfl (fun hbr => ?_) (fun hbr => ?_) <;> (fail_if_success (with_reducible (have hx : true = true := hbr))) <;> (fail_if_success (with_reducible (have hx : false = false := hbr))))
theorem nz {a b : Int} {xs ys : List Int} (h : vG a b ≠ 0) : ye (a :: xs) (b :: ys) = vG a b := by
  rw [ye]
  unfold vG at h ⊢
  generalize decide (a < b) = p at h ⊢
  generalize decide (b < a) = q at h ⊢
  cases p
  · cases q
    · exact absurd rfl h
    · rfl
  · rfl
theorem si {a b : Int} {xs ys : List Int} (h : vG a b = 0) : ye (a :: xs) (b :: ys) = ye xs ys := by
  rw [ye]
  unfold vG at h
  generalize decide (a < b) = p at h ⊢
  generalize decide (b < a) = q at h ⊢
  cases p
  · cases q
    · rfl
    · cases h
  · cases h
theorem mm {a b : Int} : ye [a] [b] = vG a b := rfl
theorem xh (x y : Rw) : zn Go.Proofs.Try.prog 122 [.agg (rwE x), .agg (rwE y)] [] (I (yM x y)) [] false := by
  refine zj [4] Go.Proofs.Try.func122 rfl rfl ?_
  simp only [Go.Proofs.Try.ntmps122, List.length_cons, List.length_nil, Nat.reduceAdd, Nat.reduceSub, List.replicate_succ, List.replicate_zero, List.cons_append, List.nil_append]
  repeat' first | refine zJ ?_ | refine zA ?_ | refine zO [] ?_ | (refine isA ?_; refine zb rfl ?_) | (refine isL ?_; refine zU rfl (by kernel_rfl) rfl rfl ?_) | (refine za rfl ?_; refine zT rfl (by kernel_rfl) rfl rfl ?_) | (refine zq 147 ?_; refine zd rfl (zZ rfl (wz _ _) (.cons (.same rfl) (.cons (.same rfl) .nil)) rfl) rfl ?_) | (refine zr 147 rfl ?_; refine zY rfl (by kernel_rfl) rfl (zZ rfl (wz _ _) (.cons (.same rfl) (.cons (.same rfl) .nil)) rfl) rfl ?_) | refine zD ?_ | refine zB _ rfl (by kernel_rfl) ?_ | refine zV rfl ?_ | refine zW rfl ?_ | refine zC ?_ | with_reducible refine zM ?_ | refine zH ?_ | refine zI ?_ | (with_reducible first | refine zK ?_ | refine zL ?_ | refine zE ?_ | refine zG ?_ | refine zF ?_) | refine zN ?_
  refine zf rfl (fun h => ?_) (fun h => ?_)
  · have h1 : vG x.a y.a ≠ 0 := by simpa using h
    have e : yM x y = vG x.a y.a := nz h1
    repeat' first | refine zJ ?_ | refine zA ?_ | refine zO [] ?_ | (refine isA ?_; refine zb rfl ?_) | (refine isL ?_; refine zU rfl (by kernel_rfl) rfl rfl ?_) | (refine za rfl ?_; refine zT rfl (by kernel_rfl) rfl rfl ?_) | exact yX rfl rfl (by rw [e]) | refine zD ?_ | refine zB _ rfl (by kernel_rfl) ?_ | refine zV rfl ?_ | refine zW rfl ?_ | refine zC ?_ | with_reducible refine zM ?_ | refine zH ?_ | refine zI ?_ | (with_reducible first | refine zK ?_ | refine zL ?_ | refine zE ?_ | refine zG ?_ | refine zF ?_) | refine zN ?_
  have h1 : vG x.a y.a = 0 := by simpa using h
  repeat' first | refine zJ ?_ | refine zA ?_ | refine zO [] ?_ | (refine isA ?_; refine zb rfl ?_) | (refine isL ?_; refine zU rfl (by kernel_rfl) rfl rfl ?_) | (refine za rfl ?_; refine zT rfl (by kernel_rfl) rfl rfl ?_) | (refine zq 147 ?_; refine zd rfl (zZ rfl (wz _ _) (.cons (.same rfl) (.cons (.same rfl) .nil)) rfl) rfl ?_) | (refine zr 147 rfl ?_; refine zY rfl (by kernel_rfl) rfl (zZ rfl (wz _ _) (.cons (.same rfl) (.cons (.same rfl) .nil)) rfl) rfl ?_) | refine zD ?_ | refine zB _ rfl (by kernel_rfl) ?_ | refine zV rfl ?_ | refine zW rfl ?_ | refine zC ?_ | with_reducible refine zM ?_ | refine zH ?_ | refine zI ?_ | (with_reducible first | refine zK ?_ | refine zL ?_ | refine zE ?_ | refine zG ?_ | refine zF ?_) | refine zN ?_
  refine zf rfl (fun h => ?_) (fun h => ?_)
  · have h2 : vG x.b y.b ≠ 0 := by simpa using h
    have e : yM x y = vG x.b y.b := (si h1).trans (nz h2)
    repeat' first | refine zJ ?_ | refine zA ?_ | refine zO [] ?_ | (refine isA ?_; refine zb rfl ?_) | (refine isL ?_; refine zU rfl (by kernel_rfl) rfl rfl ?_) | (refine za rfl ?_; refine zT rfl (by kernel_rfl) rfl rfl ?_) | exact yX rfl rfl (by rw [e]) | refine zD ?_ | refine zB _ rfl (by kernel_rfl) ?_ | refine zV rfl ?_ | refine zW rfl ?_ | refine zC ?_ | with_reducible refine zM ?_ | refine zH ?_ | refine zI ?_ | (with_reducible first | refine zK ?_ | refine zL ?_ | refine zE ?_ | refine zG ?_ | refine zF ?_) | refine zN ?_
  have h2 : vG x.b y.b = 0 := by simpa using h
  have e : yM x y = vG x.c y.c := (si h1).trans ((si h2).trans mm)
  repeat' first | refine zJ ?_ | refine zA ?_ | refine zO [] ?_ | (refine isA ?_; refine zb rfl ?_) | (refine isL ?_; refine zU rfl (by kernel_rfl) rfl rfl ?_) | (refine za rfl ?_; refine zT rfl (by kernel_rfl) rfl rfl ?_) | (refine zq 147 ?_; refine zd rfl (zZ rfl (wz _ _) (.cons (.same rfl) (.cons (.same rfl) .nil)) rfl) rfl ?_) | (refine zr 147 rfl ?_; refine zY rfl (by kernel_rfl) rfl (zZ rfl (wz _ _) (.cons (.same rfl) (.cons (.same rfl) .nil)) rfl) rfl ?_) | exact yX rfl rfl (by rw [e]) | refine zD ?_ | refine zB _ rfl (by kernel_rfl) ?_ | refine zV rfl ?_ | refine zW rfl ?_ | refine zC ?_ | with_reducible refine zM ?_ | refine zH ?_ | refine zI ?_ | (with_reducible first | refine zK ?_ | refine zL ?_ | refine zE ?_ | refine zG ?_ | refine zF ?_) | refine zN ?_
def wX : Ty Int := ⟨1, fun n => [I n], fun _ => rfl, by decide, fun r c hc => by
  simp only [List.mem_cons, List.not_mem_nil, or_false] at hc
  subst hc
  exact ⟨rfl, rfl⟩⟩
theorem kR {xs ys : List Int} {i : Nat} {a b : Int} (hx : xs[i]? = some a) (hy : ys[i]? = some b) : ye (xs.drop i) (ys.drop i) = cond (decide (a < b)) (-1) (cond (decide (b < a)) 1 (ye (xs.drop (i + 1)) (ys.drop (i + 1)))) := by
  rw [yR hx, yR hy, ye]
theorem v6 (x y : Rw) : zn Go.Proofs.Try.prog 116 [.agg (rwE x), .agg (rwE y)] [] (I (yM x y)) [] false := by
  refine zj [4] Go.Proofs.Try.func116 rfl rfl ?_
  simp only [Go.Proofs.Try.ntmps116, List.length_cons, List.length_nil, Nat.reduceAdd, Nat.reduceSub, List.replicate_succ, List.replicate_zero, List.cons_append, List.nil_append]
  repeat' first | refine zJ ?_ | refine zA ?_ | refine zO [] ?_ | (refine isA ?_; refine zb rfl ?_) | (refine isL ?_; refine zU rfl (by kernel_rfl) rfl rfl ?_) | (refine za rfl ?_; refine zT rfl (by kernel_rfl) rfl rfl ?_) | refine zD ?_ | refine zB _ rfl (by kernel_rfl) ?_ | refine zV rfl ?_ | refine zW rfl ?_ | refine zC ?_ | with_reducible refine zM ?_ | refine zH ?_ | refine zI ?_ | (with_reducible first | refine zK ?_ | refine zL ?_ | refine zE ?_ | refine zG ?_ | refine zF ?_) | refine zN ?_
  refine zy (α := { i : Nat // i ≤ 3 ∧ ye ((rwN x).drop i) ((rwN y).drop i) = yM x y }) (fun i => ⟨[.any, .any, .any, .any, .any, .sl 0 0 3, .sl 1 0 3, I i.1, .any, .any, .any, .any, .any, .any, .any, .any, .any, .any, .any, .any, .any, .any, .any, .any, .any, .any, .any, .any, .any, .any, .any, .any, .any, .any, .any, .any, .any, .any, .any, .any, .any, .any, .any, .any], [xN wX 3 (rwN x), xN wX 3 (rwN y)], 0⟩) (fun i => 3 - i.1) ⟨0, Nat.zero_le _, rfl⟩ ?_ ?_
  · exact yq [2, 3] rfl rfl (by decide) (.cons rfl rfl rfl rfl (zx rfl) (.cons rfl rfl rfl rfl (zx rfl) .nil)) (by repeat' first | exact zh | refine zc ?_ ?_ | exact zl | exact le_refl rfl | exact zm rfl rfl | exact zz rfl)
  · rintro ⟨i, hi, hq⟩
    repeat' first | refine zJ ?_ | refine zA ?_ | refine zO [] ?_ | (refine isA ?_; refine zb rfl ?_) | (refine isL ?_; refine zU rfl (by kernel_rfl) rfl rfl ?_) | (refine za rfl ?_; refine zT rfl (by kernel_rfl) rfl rfl ?_) | refine zD ?_ | refine zB _ rfl (by kernel_rfl) ?_ | refine zV rfl ?_ | refine zW rfl ?_ | refine zC ?_ | with_reducible refine zM ?_ | refine zH ?_ | refine zI ?_ | (with_reducible first | refine zK ?_ | refine zL ?_ | refine zE ?_ | refine zG ?_ | refine zF ?_) | refine zN ?_
    refine zf rfl (fun h => ?_) (fun h => ?_)
    · have hlt : i < 3 := by have := of_decide_eq_true h; simp only at this; omega
      obtain ⟨a, ha⟩ : ∃ z, (rwN x)[i]? = some z := ⟨_, List.getElem?_eq_getElem hlt⟩
      obtain ⟨b, hb⟩ : ∃ z, (rwN y)[i]? = some z := ⟨_, List.getElem?_eq_getElem hlt⟩
      rw [kR ha hb] at hq
      repeat' first | refine zJ ?_ | refine zA ?_ | refine zO [] ?_ | (refine isA ?_; refine zb rfl ?_) | (refine isL ?_; refine zU rfl (by kernel_rfl) rfl rfl ?_) | (refine za rfl ?_; refine zT rfl (by kernel_rfl) rfl rfl ?_) | (refine yn (x := .tmp 26) ?_; refine zd rfl (wY (t := wX) (xs := rwN x) rfl rfl rfl rfl rfl (Int.natCast_nonneg i) (by simp only; show (i : Int) < 3; omega)) rfl ?_) | (refine ym (x := .tmp 26) rfl ?_; refine zY rfl (by kernel_rfl) rfl (wY (t := wX) (xs := rwN x) rfl rfl rfl rfl rfl (Int.natCast_nonneg i) (by simp only; show (i : Int) < 3; omega)) rfl ?_) | (refine yn (x := .tmp 30) ?_; refine zd rfl (wY (t := wX) (xs := rwN y) rfl rfl rfl rfl rfl (Int.natCast_nonneg i) (by simp only; show (i : Int) < 3; omega)) rfl ?_) | (refine ym (x := .tmp 30) rfl ?_; refine zY rfl (by kernel_rfl) rfl (wY (t := wX) (xs := rwN y) rfl rfl rfl rfl rfl (Int.natCast_nonneg i) (by simp only; show (i : Int) < 3; omega)) rfl ?_) | (refine w4 (x := .tmp 28) ?_; refine zd rfl (t6 (T := wX) (i := i) (off := 0) (xs := rwN x) (z := a) rfl rfl rfl ha rfl) rfl ?_) | (refine vI (x := .tmp 28) rfl ?_; refine zY rfl (by kernel_rfl) rfl (t6 (T := wX) (i := i) (off := 0) (xs := rwN x) (z := a) rfl rfl rfl ha rfl) rfl ?_) | (refine w4 (x := .tmp 32) ?_; refine zd rfl (t6 (T := wX) (i := i) (off := 0) (xs := rwN y) (z := b) rfl rfl rfl hb rfl) rfl ?_) | (refine vI (x := .tmp 32) rfl ?_; refine zY rfl (by kernel_rfl) rfl (t6 (T := wX) (i := i) (off := 0) (xs := rwN y) (z := b) rfl rfl rfl hb rfl) rfl ?_) | refine zD ?_ | refine zB _ rfl (by kernel_rfl) ?_ | refine zV rfl ?_ | refine zW rfl ?_ | refine zC ?_ | with_reducible refine zM ?_ | refine zH ?_ | refine zI ?_ | (with_reducible first | refine zK ?_ | refine zL ?_ | refine zE ?_ | refine zG ?_ | refine zF ?_) | refine zN ?_
      refine zf rfl (fun h1 => ?_) (fun h1 => ?_)
      · rw [h1, cond_true] at hq
        repeat' first | refine zJ ?_ | refine zA ?_ | refine zO [] ?_ | (refine isA ?_; refine zb rfl ?_) | (refine isL ?_; refine zU rfl (by kernel_rfl) rfl rfl ?_) | (refine za rfl ?_; refine zT rfl (by kernel_rfl) rfl rfl ?_) | exact yX rfl rfl (congrArg I hq) | refine zD ?_ | refine zB _ rfl (by kernel_rfl) ?_ | refine zV rfl ?_ | refine zW rfl ?_ | refine zC ?_ | with_reducible refine zM ?_ | refine zH ?_ | refine zI ?_ | (with_reducible first | refine zK ?_ | refine zL ?_ | refine zE ?_ | refine zG ?_ | refine zF ?_) | refine zN ?_
      rw [h1, cond_false] at hq
      repeat' first | refine zJ ?_ | refine zA ?_ | refine zO [] ?_ | (refine isA ?_; refine zb rfl ?_) | (refine isL ?_; refine zU rfl (by kernel_rfl) rfl rfl ?_) | (refine za rfl ?_; refine zT rfl (by kernel_rfl) rfl rfl ?_) | (refine yn (x := .tmp 35) ?_; refine zd rfl (wY (t := wX) (xs := rwN x) rfl rfl rfl rfl rfl (Int.natCast_nonneg i) (by simp only; show (i : Int) < 3; omega)) rfl ?_) | (refine ym (x := .tmp 35) rfl ?_; refine zY rfl (by kernel_rfl) rfl (wY (t := wX) (xs := rwN x) rfl rfl rfl rfl rfl (Int.natCast_nonneg i) (by simp only; show (i : Int) < 3; omega)) rfl ?_) | (refine yn (x := .tmp 39) ?_; refine zd rfl (wY (t := wX) (xs := rwN y) rfl rfl rfl rfl rfl (Int.natCast_nonneg i) (by simp only; show (i : Int) < 3; omega)) rfl ?_) | (refine ym (x := .tmp 39) rfl ?_; refine zY rfl (by kernel_rfl) rfl (wY (t := wX) (xs := rwN y) rfl rfl rfl rfl rfl (Int.natCast_nonneg i) (by simp only; show (i : Int) < 3; omega)) rfl ?_) | (refine w4 (x := .tmp 37) ?_; refine zd rfl (t6 (T := wX) (i := i) (off := 0) (xs := rwN x) (z := a) rfl rfl rfl ha rfl) rfl ?_) | (refine vI (x := .tmp 37) rfl ?_; refine zY rfl (by kernel_rfl) rfl (t6 (T := wX) (i := i) (off := 0) (xs := rwN x) (z := a) rfl rfl rfl ha rfl) rfl ?_) | (refine w4 (x := .tmp 41) ?_; refine zd rfl (t6 (T := wX) (i := i) (off := 0) (xs := rwN y) (z := b) rfl rfl rfl hb rfl) rfl ?_) | (refine vI (x := .tmp 41) rfl ?_; refine zY rfl (by kernel_rfl) rfl (t6 (T := wX) (i := i) (off := 0) (xs := rwN y) (z := b) rfl rfl rfl hb rfl) rfl ?_) | refine zD ?_ | refine zB _ rfl (by kernel_rfl) ?_ | refine zV rfl ?_ | refine zW rfl ?_ | refine zC ?_ | with_reducible refine zM ?_ | refine zH ?_ | refine zI ?_ | (with_reducible first | refine zK ?_ | refine zL ?_ | refine zE ?_ | refine zG ?_ | refine zF ?_) | refine zN ?_
      refine zf rfl (fun h2 => ?_) (fun h2 => ?_)
      · rw [h2, cond_true] at hq
        repeat' first | refine zJ ?_ | refine zA ?_ | refine zO [] ?_ | (refine isA ?_; refine zb rfl ?_) | (refine isL ?_; refine zU rfl (by kernel_rfl) rfl rfl ?_) | (refine za rfl ?_; refine zT rfl (by kernel_rfl) rfl rfl ?_) | exact yX rfl rfl (congrArg I hq) | refine zD ?_ | refine zB _ rfl (by kernel_rfl) ?_ | refine zV rfl ?_ | refine zW rfl ?_ | refine zC ?_ | with_reducible refine zM ?_ | refine zH ?_ | refine zI ?_ | (with_reducible first | refine zK ?_ | refine zL ?_ | refine zE ?_ | refine zG ?_ | refine zF ?_) | refine zN ?_
      rw [h2, cond_false] at hq
      repeat' first | refine zJ ?_ | refine zA ?_ | refine zO [] ?_ | (refine isA ?_; refine zb rfl ?_) | (refine isL ?_; refine zU rfl (by kernel_rfl) rfl rfl ?_) | (refine za rfl ?_; refine zT rfl (by kernel_rfl) rfl rfl ?_) | refine zD ?_ | refine zB _ rfl (by kernel_rfl) ?_ | refine zV rfl ?_ | refine zW rfl ?_ | refine zC ?_ | with_reducible refine zM ?_ | refine zH ?_ | refine zI ?_ | (with_reducible first | refine zK ?_ | refine zL ?_ | refine zE ?_ | refine zG ?_ | refine zF ?_) | refine zN ?_
      refine ⟨⟨i + 1, hlt, hq⟩, by simp only; omega, ?_⟩
      exact yq [0, 1] rfl rfl (by decide) (.cons rfl rfl rfl rfl (zx rfl) (.cons rfl rfl rfl rfl (zx rfl) .nil)) (by
        repeat' first | exact zh | refine zc ?_ ?_ | exact zl | exact le_refl rfl | exact zm rfl rfl | exact xP hlt (by omega))
    · have hge : i = 3 := by have := of_decide_eq_false h; simp only at this; omega
      subst hge
      repeat' first | refine zJ ?_ | refine zA ?_ | refine zO [] ?_ | (refine isA ?_; refine zb rfl ?_) | (refine isL ?_; refine zU rfl (by kernel_rfl) rfl rfl ?_) | (refine za rfl ?_; refine zT rfl (by kernel_rfl) rfl rfl ?_) | exact yX rfl rfl (congrArg I hq) | refine zD ?_ | refine zB _ rfl (by kernel_rfl) ?_ | refine zV rfl ?_ | refine zW rfl ?_ | refine zC ?_ | with_reducible refine zM ?_ | refine zH ?_ | refine zI ?_ | (with_reducible first | refine zK ?_ | refine zL ?_ | refine zE ?_ | refine zG ?_ | refine zF ?_) | refine zN ?_
def mgV : List Rw → List Rw → List Rw
  | [], ys => ys
  | x :: xs, [] => x :: xs
  | x :: xs, y :: ys => cond (decide (yM x y ≤ 0)) (x :: mgV xs (y :: ys)) (y :: mgV (x :: xs) ys)
termination_by xs ys => xs.length + ys.length
theorem sR (xs : List Rw) (k : Nat) : ((rwT.flat xs).drop (0 * 3)).take ((k - 0) * 3) = rwT.flat (xs.take k) := by
  rw [Nat.zero_mul, List.drop_zero, Nat.sub_zero, show k * 3 = k * rwT.n from rfl, wH]
theorem sg (xs : List Rw) (k : Nat) : ((rwT.flat xs).drop (k * 3)).take ((xs.length - k) * 3) = rwT.flat (xs.drop k) := by
  rw [show k * 3 = k * rwT.n from rfl, wy, show (xs.length - k) * 3 = (xs.length - k) * rwT.n from rfl, wH, List.take_of_length_le (by simp)]
end Go.Proofs.Ytkcicbigpbdjpaa.Ab
namespace Go.Proofs.Ytkcicbigpbdjpaa.Ab
open Go.RowKit
theorem wB {x y : Rw} : yM x y ≤ 0 ↔ x.a < y.a ∨ (x.a = y.a ∧ (x.b < y.b ∨ (x.b = y.b ∧ x.c ≤ y.c))) := by
  unfold yM rwN
  simp only [ye]
  rcases Int.lt_trichotomy x.a y.a with h | h | h
  · rw [decide_eq_true h]; simp only [cond_true]; constructor
    · intro _; exact Or.inl h
    · intro _; omega
  · rw [decide_eq_false (show ¬ x.a < y.a by omega), decide_eq_false (show ¬ y.a < x.a by omega)]
    simp only [cond_false]
    rcases Int.lt_trichotomy x.b y.b with k | k | k
    · rw [decide_eq_true k]; simp only [cond_true]; omega
    · rw [decide_eq_false (show ¬ x.b < y.b by omega), decide_eq_false (show ¬ y.b < x.b by omega)]
      simp only [cond_false]
      rcases Int.lt_trichotomy x.c y.c with m | m | m
      · rw [decide_eq_true m]; simp only [cond_true]; omega
      · rw [decide_eq_false (show ¬ x.c < y.c by omega), decide_eq_false (show ¬ y.c < x.c by omega)]
        simp only [cond_false]; omega
      · rw [decide_eq_false (show ¬ x.c < y.c by omega), decide_eq_true m]
        simp only [cond_false, cond_true]; omega
    · rw [decide_eq_false (show ¬ x.b < y.b by omega), decide_eq_true k]
      simp only [cond_false, cond_true]; omega
  · rw [decide_eq_false (show ¬ x.a < y.a by omega), decide_eq_true h]
    simp only [cond_false, cond_true]; omega
def leW (x y : Rw) : Prop := yM x y ≤ 0
theorem ui (x : Rw) : leW x x := wB.2 (by omega)
theorem xW {x y z : Rw} (h : leW x y) (k : leW y z) : leW x z := wB.2 (by have := wB.1 h; have := wB.1 k; omega)
theorem vv (x y : Rw) : leW x y ∨ leW y x := by
  rcases Int.lt_or_le 0 (yM x y) with h | h
  · right
    have : ¬ yM x y ≤ 0 := by omega
    rw [wB] at this
    exact wB.2 (by omega)
  · exact Or.inl h
theorem vX {x y : Rw} (h : leW x y) (k : leW y x) : x = y := by
  have h1 := wB.1 h
  have h2 := wB.1 k
  cases x; cases y
  simp only at h1 h2
  congr <;> omega
theorem xj {x y : Rw} (h : ¬ leW x y) : leW y x := (vv x y).resolve_left h
theorem xk {x y : Rw} : yM x y < 0 ↔ ¬ leW y x := by
  have a1 := @wB x y
  have a2 := @wB y x
  constructor
  · intro h k
    have e := vX (show leW x y from by show yM x y ≤ 0; omega) k
    subst e
    have : yM x x = 0 := by unfold yM rwN; simp [ye]
    omega
  · intro h
    have h1 : ¬ yM y x ≤ 0 := h
    rcases Int.lt_or_le (yM x y) 0 with q | q
    · exact q
    · exfalso
      have hx : leW x y := xj h
      have e : yM x y = 0 := by have : yM x y ≤ 0 := hx; omega
      unfold yM rwN at e
      simp only [ye] at e
      have h2 := mt a2.2 h1
      have h3 := a1.1 hx
      rcases Int.lt_trichotomy x.a y.a with m | m | m
      · rw [decide_eq_true m] at e; cases e
      · rw [decide_eq_false (show ¬ x.a < y.a by omega), decide_eq_false (show ¬ y.a < x.a by omega)] at e
        simp only [cond_false] at e
        rcases Int.lt_trichotomy x.b y.b with m2 | m2 | m2
        · rw [decide_eq_true m2] at e; cases e
        · rw [decide_eq_false (show ¬ x.b < y.b by omega), decide_eq_false (show ¬ y.b < x.b by omega)] at e
          simp only [cond_false] at e
          have m3 : x.c < y.c := by omega
          rw [decide_eq_true m3] at e; cases e
        · omega
      · omega
def Srt (xs : List Rw) : Prop := xs.Pairwise leW
theorem xD : ∀ {xs ys : List Rw}, Srt xs → Srt ys → xs.Perm ys → xs = ys
  | [], ys, _, _, hp => by rw [List.Perm.nil_eq hp]
  | x :: xs, [], _, _, hp => by cases hp.length_eq
  | x :: xs, y :: ys, hx, hy, hp => by
    have hx' := List.pairwise_cons.1 hx
    have hy' := List.pairwise_cons.1 hy
    have e : x = y := by
      have m1 : y ∈ x :: xs := hp.symm.mem_iff.1 (List.mem_cons_self ..)
      have m2 : x ∈ y :: ys := hp.mem_iff.1 (List.mem_cons_self ..)
      rcases List.mem_cons.1 m1 with h | h
      · exact h.symm
      · rcases List.mem_cons.1 m2 with k | k
        · exact k
        · exact vX (hx'.1 y h) (hy'.1 x k)
    subst e
    rw [xD hx'.2 hy'.2 (List.Perm.cons_inv hp)]
def xX (x : Rw) : List Rw → List Rw
  | [] => [x]
  | y :: ys => cond (decide (yM y x ≤ 0)) (y :: xX x ys) (x :: y :: ys)
def zt (xs : List Rw) : List Rw := xs.foldl (fun o x => xX x o) []
theorem xQ (x : Rw) : ∀ ys : List Rw, (xX x ys).Perm (x :: ys)
  | [] => .refl _
  | y :: ys => by
    rw [xX]
    cases decide (yM y x ≤ 0) with
    | true => exact ((xQ x ys).cons y).trans (.swap _ _ _)
    | false => exact .refl _
theorem wP (x : Rw) : ∀ {ys : List Rw}, Srt ys → Srt (xX x ys)
  | [], _ => List.pairwise_singleton _ _
  | y :: ys, h => by
    have h' := List.pairwise_cons.1 h
    rw [xX]
    cases hd : decide (yM y x ≤ 0) with
    | true =>
      refine List.pairwise_cons.2 ⟨fun z hz => ?_, wP x h'.2⟩
      rcases List.mem_cons.1 ((xQ x ys).mem_iff.1 hz) with rfl | hz
      · exact (show yM y _ ≤ 0 from of_decide_eq_true hd)
      · exact h'.1 z hz
    | false =>
      have hle : leW x y := xj (show ¬ yM y x ≤ 0 from of_decide_eq_false hd)
      refine List.pairwise_cons.2 ⟨fun z hz => ?_, h⟩
      rcases List.mem_cons.1 hz with rfl | hz
      · exact hle
      · exact xW hle (h'.1 z hz)
theorem wr (xs : List Rw) (x : Rw) : zt (xs ++ [x]) = xX x (zt xs) := by simp [zt]
theorem wQ : ∀ (xs o : List Rw), Srt o → Srt (xs.foldl (fun o x => xX x o) o) ∧ (xs.foldl (fun o x => xX x o) o).Perm (o ++ xs)
  | [], o, h => ⟨h, by simp⟩
  | x :: xs, o, h => by
    obtain ⟨q1, q2⟩ := wQ xs (xX x o) (wP x h)
    refine ⟨q1, q2.trans ?_⟩
    refine ((xQ x o).append_right xs).trans ?_
    exact List.perm_middle.symm
theorem yb (xs : List Rw) : Srt (zt xs) := (wQ xs [] List.Pairwise.nil).1
theorem z1 (xs : List Rw) : (zt xs).Perm xs := by
  have h := (wQ xs [] List.Pairwise.nil).2
  rw [List.nil_append] at h
  exact h
theorem wM {xs ys : List Rw} (h : Srt ys) (hp : ys.Perm xs) : ys = zt xs := xD h (yb xs) (hp.trans (z1 xs).symm)
theorem y6 (xs : List Rw) : (zt xs).length = xs.length := (z1 xs).length_eq
end Go.Proofs.Ytkcicbigpbdjpaa.Ab
namespace Go.Proofs.Ytkcicbigpbdjpaa.Ab
open Go.RowKit
theorem ua {xs : List Rw} (h : Srt xs) {i j : Nat} {x y : Rw} (hij : i ≤ j) (hx : xs[i]? = some x) (hy : xs[j]? = some y) : leW x y := by
  rcases Nat.lt_or_eq_of_le hij with hlt | rfl
  · obtain ⟨h1, rfl⟩ := List.getElem?_eq_some_iff.1 hx
    obtain ⟨h2, rfl⟩ := List.getElem?_eq_some_iff.1 hy
    exact List.pairwise_iff_getElem.1 h i j h1 h2 hlt
  · rw [hx] at hy
    cases hy
    exact ui _
theorem vx {out : List Rw} {x : Rw} {k : Nat} (hs : Srt out) (hk : k ≤ out.length) (hB : ∀ j z, k ≤ j → out[j]? = some z → ¬ leW z x) (hA : ∀ z, 0 < k → out[k - 1]? = some z → leW z x) : out.take k ++ x :: out.drop k = xX x out := by
  have hA' : ∀ z ∈ out.take k, leW z x := fun z hz => by
    obtain ⟨j, hj⟩ := List.getElem?_of_mem hz
    have hlt : j < k := by
      have := (List.getElem?_eq_some_iff.1 hj).1
      simp at this
      omega
    rw [List.getElem?_take_of_lt hlt] at hj
    obtain ⟨y, hy⟩ : ∃ y, out[k - 1]? = some y := ⟨_, List.getElem?_eq_getElem (by omega)⟩
    exact xW (ua hs (show j ≤ k - 1 by omega) hj hy) (hA y (by omega) hy)
  have hB' : ∀ z ∈ out.drop k, leW x z := fun z hz => by
    obtain ⟨j, hj⟩ := List.getElem?_of_mem hz
    rw [List.getElem?_drop] at hj
    exact xj (hB (k + j) z (by omega) hj)
  refine xD ?_ (wP x hs) ?_
  · have hs' : Srt (out.take k ++ out.drop k) := by rw [List.take_append_drop]; exact hs
    obtain ⟨q1, q2, q3⟩ := List.pairwise_append.1 hs'
    refine List.pairwise_append.2 ⟨q1, List.pairwise_cons.2 ⟨hB', q2⟩, fun a ha c hc => ?_⟩
    rcases List.mem_cons.1 hc with rfl | hc
    · exact hA' a ha
    · exact q3 a ha c hc
  · refine List.perm_middle.trans ?_
    rw [List.take_append_drop]
    exact (xQ x out).symm
theorem vO {H : List Reg} {h k off m : Nat} {xs : List Rw} (hH : H[h]? = some (rwR xs)) (hk : k ≤ xs.length) (ho : off = k) (hm : m = xs.length - k) : Src H (.sl h off m) (xs.drop k).length (rwT.flat (xs.drop k)) := by
  subst ho hm
  have q := Src.sl (H := H) (h := h) (off := off) (m := xs.length - off) hH (Nat.zero_le _) (by show (off + (xs.length - off)) * 3 ≤ (rwT.flat xs).length; rw [yH]; show _ ≤ xs.length * 3; omega)
  have e : ((rwR xs).cells.drop (off * (rwR xs).esz)).take ((xs.length - off) * (rwR xs).esz) = rwT.flat (xs.drop off) := sg xs off
  rw [e] at q
  rw [List.length_drop]
  exact q
theorem xI {H : List Reg} {h k off m : Nat} {xs : List Rw} (hH : H[h]? = some (rwR xs)) (hk : k ≤ xs.length) (ho : off = 0) (hm : m = k) : Src H (.sl h off m) (xs.take k).length (rwT.flat (xs.take k)) := by
  subst ho hm
  have q := Src.sl (H := H) (h := h) (off := 0) (m := m) hH (Nat.zero_le _) (by show (0 + m) * 3 ≤ (rwT.flat xs).length; rw [yH]; show _ ≤ xs.length * 3; omega)
  have e : ((rwR xs).cells.drop (0 * (rwR xs).esz)).take (m * (rwR xs).esz) = rwT.flat (xs.take m) := sR xs m
  rw [e] at q
  rw [List.length_take, Nat.min_eq_left hk]
  exact q
theorem xK {H : List Reg} {h : Nat} {xs : List Rw} (hH : H[h]? = some (rwR xs)) : Src H (.sl h 0 xs.length) xs.length (rwT.flat xs) := by
  have q := xI (k := xs.length) hH (Nat.le_refl _) rfl rfl
  rw [List.take_length] at q
  exact q
theorem uR (xs : List Rw) (hl : xs.length ≤ 100000000) : zn Go.Proofs.Try.prog 60 [rwL xs] [] (.sl 0 0 (zt xs).length) [rwR (zt xs)] false := by
  refine zj [2] Go.Proofs.Try.func60 rfl rfl ?_
  simp only [Go.Proofs.Try.ntmps60, List.length_cons, List.length_nil, Nat.reduceAdd, Nat.reduceSub, List.replicate_succ, List.replicate_zero, List.cons_append, List.nil_append]
  repeat' first | refine zJ ?_ | refine zA ?_ | refine zO [] ?_ | (refine isA ?_; refine zb rfl ?_) | (refine isL ?_; refine zU rfl (by kernel_rfl) rfl rfl ?_) | (refine za rfl ?_; refine zT rfl (by kernel_rfl) rfl rfl ?_) | refine zD ?_ | refine zB _ rfl (by kernel_rfl) ?_ | refine zV rfl ?_ | refine zW rfl ?_ | refine zC ?_ | with_reducible refine zM ?_ | refine zH ?_ | refine zI ?_ | (with_reducible first | refine zK ?_ | refine zL ?_ | refine zE ?_ | refine zG ?_ | refine zF ?_) | refine zN ?_
  refine zy (α := { i : Nat // i ≤ xs.length }) (fun i => ⟨[rwL xs, .any, .any, .sl 0 0 (zt (xs.take i.1)).length, I i.1, .any, .any, .any, .any, .any, .any, .any, .any, .any, .any, .any, .any, .any, .any, .any, .any, .any, .any, .any, .any, .any, .any, .any, .any, .any, .any, .any, .any, .any, .any, .any, .any, .any, .any, .any, .any, .any, .any, .any, .any, .any, .any, .any, .any, .any], [rwR (zt (xs.take i.1))], 0⟩) (fun i => xs.length - i.1) ⟨0, Nat.zero_le _⟩ ?_ ?_
  · exact yq [0] rfl rfl (by decide) (.cons rfl rfl rfl rfl (zg (zR _ _)) .nil) (by repeat' first | exact zh | refine zc ?_ ?_ | exact zl | exact le_refl rfl | exact zm rfl rfl | exact zz rfl)
  · rintro ⟨i, hi⟩
    repeat' first | refine zJ ?_ | refine zA ?_ | refine zO [] ?_ | (refine isA ?_; refine zb rfl ?_) | (refine isL ?_; refine zU rfl (by kernel_rfl) rfl rfl ?_) | (refine za rfl ?_; refine zT rfl (by kernel_rfl) rfl rfl ?_) | refine zD ?_ | refine zB _ rfl (by kernel_rfl) ?_ | refine zV rfl ?_ | refine zW rfl ?_ | refine zC ?_ | with_reducible refine zM ?_ | refine zH ?_ | refine zI ?_ | (with_reducible first | refine zK ?_ | refine zL ?_ | refine zE ?_ | refine zG ?_ | refine zF ?_) | refine zN ?_
    refine zf rfl (fun h => ?_) (fun h => ?_)
    · have hlt : i < xs.length := by simpa using h
      obtain ⟨x, hx⟩ : ∃ z, xs[i]? = some z := ⟨_, List.getElem?_eq_getElem hlt⟩
      have e1 : zt (xs.take (i + 1)) = xX x (zt (xs.take i)) := by rw [List.take_add_one, hx]; exact wr _ _
      have hso := yb (xs.take i)
      have hol : (zt (xs.take i)).length = i := by rw [y6]; simp; omega
      generalize zt (xs.take i) = out at e1 hso hol
      repeat' first | refine zJ ?_ | refine zA ?_ | refine zO [] ?_ | (refine isA ?_; refine zb rfl ?_) | (refine isL ?_; refine zU rfl (by kernel_rfl) rfl rfl ?_) | (refine za rfl ?_; refine zT rfl (by kernel_rfl) rfl rfl ?_) | refine zD ?_ | refine zB _ rfl (by kernel_rfl) ?_ | refine zV rfl ?_ | refine zW rfl ?_ | refine zC ?_ | with_reducible refine zM ?_ | refine zH ?_ | refine zI ?_ | (with_reducible first | refine zK ?_ | refine zL ?_ | refine zE ?_ | refine zG ?_ | refine zF ?_) | refine zN ?_
      refine zy (α := { k : Nat // k ≤ out.length ∧ ∀ j z, k ≤ j → out[j]? = some z → ¬ leW z x }) (fun k => ⟨[rwL xs, .any, .any, .sl 0 0 out.length, I i, I k.1, .any, .any, .any, .any, .any, .any, .any, .any, .any, .any, .any, .any, .any, .any, .any, .any, .any, .any, .any, .any, .any, .any, .any, .any, .any, .any, .any, .any, .any, .any, .any, .any, .any, .any, .any, .any, .any, .any, .any, .any, .any, .any, .any, .any], [rwR out], 0⟩) (fun k => k.1) ⟨out.length, Nat.le_refl _, fun j z hj hz => absurd (List.getElem?_eq_some_iff.1 hz).1 (by omega)⟩ ?_ ?_
      · exact yq [0] rfl rfl (by decide) (.cons rfl rfl rfl rfl (zg (zR _ _)) .nil) (by repeat' first | exact zh | refine zc ?_ ?_ | exact zl | exact le_refl rfl | exact zm rfl rfl | exact zz rfl)
      · rintro ⟨k, hk, hB⟩
        repeat' first | refine zJ ?_ | refine zA ?_ | refine zO [] ?_ | (refine isA ?_; refine zb rfl ?_) | (refine isL ?_; refine zU rfl (by kernel_rfl) rfl rfl ?_) | (refine za rfl ?_; refine zT rfl (by kernel_rfl) rfl rfl ?_) | refine zD ?_ | refine zB _ rfl (by kernel_rfl) ?_ | refine zV rfl ?_ | refine zW rfl ?_ | refine zC ?_ | with_reducible refine zM ?_ | refine zH ?_ | refine zI ?_ | (with_reducible first | refine zK ?_ | refine zL ?_ | refine zE ?_ | refine zG ?_ | refine zF ?_) | refine zN ?_
        refine yz rfl rfl rfl rfl (fun p1 => ?_) (fun p1 => ?_)
        · have q1 : 0 < k := by have := of_decide_eq_true p1; simp only at this; omega
          obtain ⟨y, hy⟩ : ∃ z, out[k - 1]? = some z := ⟨_, List.getElem?_eq_getElem (by omega)⟩
          have ew : IntKind.i64.wrap ((k : Int) - 1) = ((k - 1 : Nat) : Int) := by rw [IntKind.wrap_i64]; omega
          repeat' first | refine zJ ?_ | refine zA ?_ | refine zO [] ?_ | (refine isA ?_; refine zb rfl ?_) | (refine isL ?_; refine zU rfl (by kernel_rfl) rfl rfl ?_) | (refine za rfl ?_; refine zT rfl (by kernel_rfl) rfl rfl ?_) | (refine yn (x := .tmp 24) ?_; refine zd rfl (yT (t := rwT) (z := x) rfl rfl rfl rfl (Int.natCast_nonneg i) hx) rfl ?_) | (refine ym (x := .tmp 24) rfl ?_; refine zY rfl (by kernel_rfl) rfl (yT (t := rwT) (z := x) rfl rfl rfl rfl (Int.natCast_nonneg i) hx) rfl ?_) | (refine yn (x := .tmp 19) ?_; refine zd rfl (wY (t := rwT) (xs := out) rfl rfl rfl rfl rfl (by rw [ew]; exact Int.natCast_nonneg _) (by rw [ew]; omega)) rfl ?_) | (refine ym (x := .tmp 19) rfl ?_; refine zY rfl (by kernel_rfl) rfl (wY (t := rwT) (xs := out) rfl rfl rfl rfl rfl (by rw [ew]; exact Int.natCast_nonneg _) (by rw [ew]; omega)) rfl ?_) | (refine w4 (x := .tmp 22) ?_; refine zd rfl (y7 (T := rwT) (i := k - 1) (xs := out) (z := y) rfl (by simp only [ew]; rfl) rfl hy) rfl ?_) | (refine vI (x := .tmp 22) rfl ?_; refine zY rfl (by kernel_rfl) rfl (y7 (T := rwT) (i := k - 1) (xs := out) (z := y) rfl (by simp only [ew]; rfl) rfl hy) rfl ?_) | (refine zq 116 ?_; refine zd rfl (zZ rfl (v6 y x) (.cons (.same rfl) (.cons (.same rfl) .nil)) rfl) rfl ?_) | (refine zr 116 rfl ?_; refine zY rfl (by kernel_rfl) rfl (zZ rfl (v6 y x) (.cons (.same rfl) (.cons (.same rfl) .nil)) rfl) rfl ?_) | refine zD ?_ | refine zB _ rfl (by kernel_rfl) ?_ | refine zV rfl ?_ | refine zW rfl ?_ | refine zC ?_ | with_reducible refine zM ?_ | refine zH ?_ | refine zI ?_ | (with_reducible first | refine zK ?_ | refine zL ?_ | refine zE ?_ | refine zG ?_ | refine zF ?_) | refine zN ?_
          refine zf rfl (fun p2 => ?_) (fun p2 => ?_)
          · have q2 := of_decide_eq_true p2
            repeat' first | refine zJ ?_ | refine zA ?_ | refine zO [] ?_ | (refine isA ?_; refine zb rfl ?_) | (refine isL ?_; refine zU rfl (by kernel_rfl) rfl rfl ?_) | (refine za rfl ?_; refine zT rfl (by kernel_rfl) rfl rfl ?_) | refine zD ?_ | refine zB _ rfl (by kernel_rfl) ?_ | refine zV rfl ?_ | refine zW rfl ?_ | refine zC ?_ | with_reducible refine zM ?_ | refine zH ?_ | refine zI ?_ | (with_reducible first | refine zK ?_ | refine zL ?_ | refine zE ?_ | refine zG ?_ | refine zF ?_) | refine zN ?_
            refine ⟨⟨k - 1, by omega, fun j z hj hz => ?_⟩, by simp only; omega, ?_⟩
            · rcases Nat.lt_or_ge j k with hjk | hjk
              · obtain rfl : j = k - 1 := by omega
                rw [hy] at hz
                cases hz
                intro hle
                have : yM y x ≤ 0 := hle
                omega
              · exact hB j z hjk hz
            · exact yq [0] rfl rfl (by decide) (.cons rfl rfl rfl rfl (zg (zR _ _)) .nil) (by
                repeat' first | exact zh | refine zc ?_ ?_ | exact zl | exact le_refl rfl | exact zm rfl rfl | exact yP (congrArg _ ew.symm))
          · have q2 := of_decide_eq_false p2
            have hfin := vx hso hk hB (fun z _ hz => by rw [hy] at hz; cases hz; show yM y x ≤ 0; omega)
            have hkl : k ≤ i := by omega
            repeat' first | refine zJ ?_ | refine zA ?_ | (refine isA ?_; refine zb rfl ?_) | (refine isL ?_; refine zU rfl (by kernel_rfl) rfl rfl ?_) | (refine za rfl ?_; refine zT rfl (by kernel_rfl) rfl rfl ?_) | refine zD ?_ | refine zB _ rfl (by kernel_rfl) ?_ | refine zV rfl ?_ | refine zW rfl ?_ | refine zC ?_ | with_reducible refine zM ?_ | refine zH ?_ | refine zI ?_ | (with_reducible first | refine zK ?_ | refine zL ?_ | refine zE ?_ | refine zG ?_ | refine zF ?_) | refine zN ?_
            refine uU (fun H => H[0]? = some (rwR out)) 10 rfl ?_
            refine yU 5 rfl rfl (by kernel_rfl) rfl (fun _ => rfl) rfl ?_
            refine yU 6 rfl rfl (by kernel_rfl) rfl (fun _ => rfl) rfl ?_
            refine wN 7 rfl rfl (by kernel_rfl) rfl (fun H hG => z8 (l := (k : Int)) (h := (out.length : Int)) rfl rfl hG (Nat.zero_le _) rfl (.yes _ rfl) (.no _) (by omega) (by omega) (by omega)) rfl ?_
            refine yU 0 rfl rfl (by kernel_rfl) rfl (fun _ => rfl) rfl ?_
            refine yU 1 rfl rfl (by kernel_rfl) rfl (fun _ => rfl) rfl ?_
            refine wN 2 rfl rfl (by kernel_rfl) rfl (fun _ _ => yT (t := rwT) (z := x) rfl rfl rfl rfl (Int.natCast_nonneg i) hx) rfl ?_
            refine yU 3 rfl rfl (by kernel_rfl) rfl (fun _ => rfl) rfl ?_
            refine wi 4 (by kernel_rfl) ?_
            refine qt rfl rfl rfl rfl rfl ?_
            refine wi 8 (by kernel_rfl) ?_
            refine mK rfl rfl (yY (t := rwT) (xs := [x]) (ys := out.drop k) rfl rfl rfl rfl (vO rfl hk (by simp) (by simp)) (by simp; omega) rfl) rfl rfl ?_
            refine yU 9 rfl rfl (by kernel_rfl) rfl (fun _ => rfl) rfl ?_
            refine wv (by kernel_rfl) ?_
            repeat' first | refine zJ ?_ | refine zA ?_ | refine zO [] ?_ | (refine isA ?_; refine zb rfl ?_) | (refine isL ?_; refine zU rfl (by kernel_rfl) rfl rfl ?_) | (refine za rfl ?_; refine zT rfl (by kernel_rfl) rfl rfl ?_) | (refine mg ?_; refine zd rfl (z8 (l := (0 : Int)) (h := (k : Int)) rfl rfl rfl (Nat.zero_le _) rfl (.no 0) (.yes _ rfl) (Int.le_refl 0) (Int.natCast_nonneg k) (by omega)) rfl ?_) | (refine mf rfl ?_; refine zY rfl (by kernel_rfl) rfl (z8 (l := (0 : Int)) (h := (k : Int)) rfl rfl rfl (Nat.zero_le _) rfl (.no 0) (.yes _ rfl) (Int.le_refl 0) (Int.natCast_nonneg k) (by omega)) rfl ?_) | (refine x6 ?_; refine zd rfl (yY (t := rwT) (xs := []) (ys := out.take k) rfl rfl rfl rfl (xI rfl hk (by simp) (by simp)) (by simp; omega) rfl) rfl ?_) | (refine xv rfl ?_; refine zY rfl (by kernel_rfl) rfl (yY (t := rwT) (xs := []) (ys := out.take k) rfl rfl rfl rfl (xI rfl hk (by simp) (by simp)) (by simp; omega) rfl) rfl ?_) | (refine x6 ?_; refine zd rfl (yY (t := rwT) (xs := [] ++ out.take k) (ys := [x] ++ out.drop k) rfl rfl rfl rfl (xK rfl) (by simp; omega) rfl) rfl ?_) | (refine xv rfl ?_; refine zY rfl (by kernel_rfl) rfl (yY (t := rwT) (xs := [] ++ out.take k) (ys := [x] ++ out.drop k) rfl rfl rfl rfl (xK rfl) (by simp; omega) rfl) rfl ?_) | refine zD ?_ | refine zB _ rfl (by kernel_rfl) ?_ | refine zV rfl ?_ | refine zW rfl ?_ | refine zC ?_ | with_reducible refine zM ?_ | refine zH ?_ | refine zI ?_ | (with_reducible first | refine zK ?_ | refine zL ?_ | refine zE ?_ | refine zG ?_ | refine zF ?_) | refine zN ?_
            refine ⟨⟨i + 1, hlt⟩, by simp only; omega, ?_⟩
            exact yq [5] rfl rfl (by decide) (.cons rfl rfl rfl rfl (yL (show rwT.flat ([] ++ out.take k ++ ([x] ++ out.drop k)) = rwT.flat (zt (xs.take (i + 1))) by rw [e1, ← hfin]; rfl) (zR _ _)) .nil) (by
              repeat' first | exact zh | refine zc ?_ ?_ | exact zl | exact le_refl rfl | exact zm rfl (show ([] ++ out.take k ++ ([x] ++ out.drop k)).length = (zt (xs.take (i + 1))).length by rw [e1, ← hfin]; rfl) | exact zm rfl (show (zt (xs.take (i + 1))).length = ([] ++ out.take k ++ ([x] ++ out.drop k)).length by rw [e1, ← hfin]; rfl) | exact xP hlt (by omega))
        · have q1 : k = 0 := by have := of_decide_eq_false p1; simp only at this; omega
          have hfin := vx hso hk hB (fun z h0 hz => by omega)
          have hkl : k ≤ i := by omega
          repeat' first | refine zJ ?_ | refine zA ?_ | (refine isA ?_; refine zb rfl ?_) | (refine isL ?_; refine zU rfl (by kernel_rfl) rfl rfl ?_) | (refine za rfl ?_; refine zT rfl (by kernel_rfl) rfl rfl ?_) | refine zD ?_ | refine zB _ rfl (by kernel_rfl) ?_ | refine zV rfl ?_ | refine zW rfl ?_ | refine zC ?_ | with_reducible refine zM ?_ | refine zH ?_ | refine zI ?_ | (with_reducible first | refine zK ?_ | refine zL ?_ | refine zE ?_ | refine zG ?_ | refine zF ?_) | refine zN ?_
          refine uU (fun H => H[0]? = some (rwR out)) 10 rfl ?_
          refine yU 5 rfl rfl (by kernel_rfl) rfl (fun _ => rfl) rfl ?_
          refine yU 6 rfl rfl (by kernel_rfl) rfl (fun _ => rfl) rfl ?_
          refine wN 7 rfl rfl (by kernel_rfl) rfl (fun H hG => z8 (l := (k : Int)) (h := (out.length : Int)) rfl rfl hG (Nat.zero_le _) rfl (.yes _ rfl) (.no _) (by omega) (by omega) (by omega)) rfl ?_
          refine yU 0 rfl rfl (by kernel_rfl) rfl (fun _ => rfl) rfl ?_
          refine yU 1 rfl rfl (by kernel_rfl) rfl (fun _ => rfl) rfl ?_
          refine wN 2 rfl rfl (by kernel_rfl) rfl (fun _ _ => yT (t := rwT) (z := x) rfl rfl rfl rfl (Int.natCast_nonneg i) hx) rfl ?_
          refine yU 3 rfl rfl (by kernel_rfl) rfl (fun _ => rfl) rfl ?_
          refine wi 4 (by kernel_rfl) ?_
          refine qt rfl rfl rfl rfl rfl ?_
          refine wi 8 (by kernel_rfl) ?_
          refine mK rfl rfl (yY (t := rwT) (xs := [x]) (ys := out.drop k) rfl rfl rfl rfl (vO rfl hk (by simp) (by simp)) (by simp; omega) rfl) rfl rfl ?_
          refine yU 9 rfl rfl (by kernel_rfl) rfl (fun _ => rfl) rfl ?_
          refine wv (by kernel_rfl) ?_
          repeat' first | refine zJ ?_ | refine zA ?_ | refine zO [] ?_ | (refine isA ?_; refine zb rfl ?_) | (refine isL ?_; refine zU rfl (by kernel_rfl) rfl rfl ?_) | (refine za rfl ?_; refine zT rfl (by kernel_rfl) rfl rfl ?_) | (refine mg ?_; refine zd rfl (z8 (l := (0 : Int)) (h := (k : Int)) rfl rfl rfl (Nat.zero_le _) rfl (.no 0) (.yes _ rfl) (Int.le_refl 0) (Int.natCast_nonneg k) (by omega)) rfl ?_) | (refine mf rfl ?_; refine zY rfl (by kernel_rfl) rfl (z8 (l := (0 : Int)) (h := (k : Int)) rfl rfl rfl (Nat.zero_le _) rfl (.no 0) (.yes _ rfl) (Int.le_refl 0) (Int.natCast_nonneg k) (by omega)) rfl ?_) | (refine x6 ?_; refine zd rfl (yY (t := rwT) (xs := []) (ys := out.take k) rfl rfl rfl rfl (xI rfl hk (by simp) (by simp)) (by simp; omega) rfl) rfl ?_) | (refine xv rfl ?_; refine zY rfl (by kernel_rfl) rfl (yY (t := rwT) (xs := []) (ys := out.take k) rfl rfl rfl rfl (xI rfl hk (by simp) (by simp)) (by simp; omega) rfl) rfl ?_) | (refine x6 ?_; refine zd rfl (yY (t := rwT) (xs := [] ++ out.take k) (ys := [x] ++ out.drop k) rfl rfl rfl rfl (xK rfl) (by simp; omega) rfl) rfl ?_) | (refine xv rfl ?_; refine zY rfl (by kernel_rfl) rfl (yY (t := rwT) (xs := [] ++ out.take k) (ys := [x] ++ out.drop k) rfl rfl rfl rfl (xK rfl) (by simp; omega) rfl) rfl ?_) | refine zD ?_ | refine zB _ rfl (by kernel_rfl) ?_ | refine zV rfl ?_ | refine zW rfl ?_ | refine zC ?_ | with_reducible refine zM ?_ | refine zH ?_ | refine zI ?_ | (with_reducible first | refine zK ?_ | refine zL ?_ | refine zE ?_ | refine zG ?_ | refine zF ?_) | refine zN ?_
          refine ⟨⟨i + 1, hlt⟩, by simp only; omega, ?_⟩
          exact yq [5] rfl rfl (by decide) (.cons rfl rfl rfl rfl (yL (show rwT.flat ([] ++ out.take k ++ ([x] ++ out.drop k)) = rwT.flat (zt (xs.take (i + 1))) by rw [e1, ← hfin]; rfl) (zR _ _)) .nil) (by
            repeat' first | exact zh | refine zc ?_ ?_ | exact zl | exact le_refl rfl | exact zm rfl (show ([] ++ out.take k ++ ([x] ++ out.drop k)).length = (zt (xs.take (i + 1))).length by rw [e1, ← hfin]; rfl) | exact zm rfl (show (zt (xs.take (i + 1))).length = ([] ++ out.take k ++ ([x] ++ out.drop k)).length by rw [e1, ← hfin]; rfl) | exact xP hlt (by omega))
    · have hge : i = xs.length := by
        have : ¬ ((i : Int) < xs.length) := by simpa using h
        omega
      subst hge
      have e2 : zt (xs.take xs.length) = zt xs := by rw [List.take_length]
      repeat' first | refine zJ ?_ | refine zA ?_ | refine zO [] ?_ | (refine isA ?_; refine zb rfl ?_) | (refine isL ?_; refine zU rfl (by kernel_rfl) rfl rfl ?_) | (refine za rfl ?_; refine zT rfl (by kernel_rfl) rfl rfl ?_) | exact uM (ty := rwT) rfl rfl rfl rfl (by simp only [e2]) e2 (y4 _) | refine zD ?_ | refine zB _ rfl (by kernel_rfl) ?_ | refine zV rfl ?_ | refine zW rfl ?_ | refine zC ?_ | with_reducible refine zM ?_ | refine zH ?_ | refine zI ?_ | (with_reducible first | refine zK ?_ | refine zL ?_ | refine zE ?_ | refine zG ?_ | refine zF ?_) | refine zN ?_
end Go.Proofs.Ytkcicbigpbdjpaa.Ab
namespace Go.Proofs.Ytkcicbigpbdjpaa.Ab
open Go.RowKit
theorem mj {P : Program} {f : FuncId} {cargs : List V} {c c' : Cur} {R : Reg} {r r' : V} {al : Bool} (h : zn P f cargs [yN c] r [yN c', R] al) (hp : Pur true [uE (yN c'), R] r r') : zn P f cargs [yN c] r' [yN c'] true :=
  zn.frozenK (Rs := [yN c]) (Rs' := [yN c']) (K := [R]) h rfl (fun q hq => by simp at hq; subst hq; exact zP _) (fun i q q' h1 h2 h3 => by
    cases i with
    | zero => simp at h2; subst h2; rfl
    | succ i => simp at h2) hp
theorem ql (most : Int) (m0 : 0 ≤ most) (m1 : most ≤ 1000) (c : Cur) (hl : c.code.length ≤ 1000000000) : zn Go.Proofs.Try.prog 129 [.ptr 0 0, I most] [yN c] (rwL (zw most c).1) [yN (zw most c).2] true :=
  mj (sn most m0 m1 c hl) (xA rfl)
theorem qq (most : Int) (m0 : 0 ≤ most) (m1 : most ≤ 1000) (c : Cur) (hl : c.code.length ≤ 1000000000) : zn Go.Proofs.Try.prog 105 [.ptr 0 0, I most] [yN c] (rwL (yo most c).1) [yN (yo most c).2] true :=
  mj (ka most m0 m1 c hl) (xA rfl)
abbrev rnR (rs : List Rn) : Reg := xN rnT 39 rs
def turnR (p : List Rn × Cur) : List Rn × Cur :=
  cond (decide (0 < ((zt (zw 4 p.2).1).length : Int))) (p.1 ++ [zt (zw 4 p.2).1], (zw 4 p.2).2)
    (cond (decide (beV 20 (zw 4 p.2).2 = 0)) (p.1 ++ [zt (zw 4 p.2).1], beC 20 (zw 4 p.2).2) (p.1, beC 20 (zw 4 p.2).2))
def pY (p : List Rn × Cur) : Nat → List Rn × Cur
  | 0 => p
  | i + 1 => turnR (pY p i)
def lastR (p : List Rn × Cur) : List Rn × Cur :=
  cond (decide (0 < (p.1.length : Int))) (cond (decide (beV 12 p.2 = 0)) (p.1.set 0 (zw 4 (beC 12 p.2)).1, (zw 4 (beC 12 p.2)).2) (p.1, beC 12 p.2)) p
def runsD (c : Cur) : List Rn × Cur := lastR (pY ([], beC 5 c) (beV 5 c).toNat)
structure Small (k : Nat) (rs : List Rn) : Prop where
  len : rs.length ≤ k
  row : ∀ x ∈ rs, x.length ≤ 4
theorem qB (c : Cur) : (zw 4 c).1.length ≤ 4 := by
  have := vn (most := 4) (by decide) (by decide) c
  omega
theorem Small.push {k : Nat} {rs : List Rn} {x : Rn} (h : Small k rs) (hx : x.length ≤ 4) : Small (k + 1) (rs ++ [x]) := ⟨by have := h.len; simp; omega, fun y hy => by
  rcases List.mem_append.1 hy with hy | hy
  · exact h.row y hy
  · simp at hy; subst hy; exact hx⟩
theorem Small.tot {k : Nat} : ∀ {rs : List Rn}, Small k rs → Ab.tot rs ≤ 4 * rs.length
  | [], _ => Nat.le_refl _
  | x :: xs, h => by
    have h1 := h.row x (List.mem_cons_self ..)
    have h2 := Small.tot (k := k) (rs := xs) ⟨by have := h.len; simp at this; omega, fun y hy => h.row y (List.mem_cons_of_mem _ hy)⟩
    simp only [Ab.tot, List.map_cons, List.sum_cons, List.length_cons] at h2 ⊢
    omega
end Go.Proofs.Ytkcicbigpbdjpaa.Ab
namespace Go.Proofs.Ytkcicbigpbdjpaa.Ab
open Go.RowKit
def kdD (c : Cur) : Int × Cur := cond (decide (beV 14 c = 0)) (pkV [0, 5] (beC 14 c), beC 2 (beC 14 c)) (IntKind.i64.wrap (1 + beV 4 (beC 14 c)), beC 4 (beC 14 c))
theorem nG (c : Cur) : (kdD c).2.code = c.code := by
  unfold kdD
  cases decide (beV 14 c = 0) <;> simp [yK]
theorem me (c : Cur) : 0 ≤ (kdD c).1 ∧ (kdD c).1 ≤ 5 := by
  unfold kdD
  cases decide (beV 14 c = 0)
  · obtain ⟨r0, r1⟩ := xG (n := 4) (by decide) (beC 14 c)
    simp only [cond_false]
    rw [IntKind.wrap_i64]
    omega
  · obtain ⟨r0, r1⟩ := xG (n := ([0, 5] : List Int).length) (by decide) (beC 14 c)
    simp only [cond_true]
    have hlt : (beV ([0, 5] : List Int).length (beC 14 c)).toNat < 2 := by simp only [List.length_cons, List.length_nil] at r0 r1 ⊢; omega
    rw [pkV]
    match (beV ([0, 5] : List Int).length (beC 14 c)).toNat, hlt with
    | 0, _ => decide
    | 1, _ => decide
theorem kZ (c : Cur) (hl : c.code.length ≤ 1000000000) : zn Go.Proofs.Try.prog 137 [.ptr 0 0] [yN c] (I (kdD c).1) [yN (kdD c).2] true := by
  have h1 : (beC 14 c).code.length ≤ 1000000000 := by rw [yK]; exact hl
  refine zj [2] Go.Proofs.Try.func137 rfl rfl ?_
  simp only [Go.Proofs.Try.ntmps137, List.length_cons, List.length_nil, Nat.reduceAdd, Nat.reduceSub, List.replicate_succ, List.replicate_zero, List.cons_append, List.nil_append]
  repeat' first | refine zJ ?_ | refine zA ?_ | refine zO [] ?_ | (refine isA ?_; refine zb rfl ?_) | (refine isL ?_; refine zU rfl (by kernel_rfl) rfl rfl ?_) | (refine za rfl ?_; refine zT rfl (by kernel_rfl) rfl rfl ?_) | (refine zq 128 ?_; refine zd rfl (zS (K := []) (Rs' := [_]) [0] (by decide) rfl (uo 14 c hl) (.cons rfl rfl rfl (zP _) (zP _) .nil) (.cons (.ptr rfl) (.cons (.same rfl) .nil)) (fun q hq => by cases hq) rfl) rfl ?_) | (refine zr 128 rfl ?_; refine zY rfl (by kernel_rfl) rfl (zS (K := []) (Rs' := [_]) [0] (by decide) rfl (uo 14 c hl) (.cons rfl rfl rfl (zP _) (zP _) .nil) (.cons (.ptr rfl) (.cons (.same rfl) .nil)) (fun q hq => by cases hq) rfl) rfl ?_) | refine zD ?_ | refine zB _ rfl (by kernel_rfl) ?_ | refine zV rfl ?_ | refine zW rfl ?_ | refine zC ?_ | with_reducible refine zM ?_ | refine zH ?_ | refine zI ?_ | (with_reducible first | refine zK ?_ | refine zL ?_ | refine zE ?_ | refine zG ?_ | refine zF ?_) | refine zN ?_
  refine zf rfl (fun b0 => ?_) (fun b0 => ?_)
  · skip
    have D : kdD c = (pkV [0, 5] (beC 14 c), beC 2 (beC 14 c)) := by rw [kdD, b0]; rfl
    repeat' first | (refine isA ?_; refine zd rfl (xO (cs := [0, 5].map I) rfl rfl rfl rfl rfl) rfl ?_) | refine zJ ?_ | refine zA ?_ | refine zO [] ?_ | (refine isA ?_; refine zb rfl ?_) | (refine isL ?_; refine zU rfl (by kernel_rfl) rfl rfl ?_) | (refine za rfl ?_; refine zT rfl (by kernel_rfl) rfl rfl ?_) | (refine zq 131 ?_; refine zd rfl (zS (K := []) (Rs' := [_]) [0] (by decide) rfl (xB [0, 5] (beC 14 c) h1 (by decide)) (.cons rfl rfl rfl (zP _) (zP _) .nil) (.cons (.ptr rfl) (.cons (.same rfl) .nil)) (fun q hq => by cases hq) rfl) rfl ?_) | (refine zr 131 rfl ?_; refine zY rfl (by kernel_rfl) rfl (zS (K := []) (Rs' := [_]) [0] (by decide) rfl (xB [0, 5] (beC 14 c) h1 (by decide)) (.cons rfl rfl rfl (zP _) (zP _) .nil) (.cons (.ptr rfl) (.cons (.same rfl) .nil)) (fun q hq => by cases hq) rfl) rfl ?_) | exact (by rw [D]; exact vJ 1 [0] yF (by decide) rfl (le_refl rfl) (.cons rfl rfl rfl rfl (zg (zP _)) .nil)) | refine zD ?_ | refine zB _ rfl (by kernel_rfl) ?_ | refine zV rfl ?_ | refine zW rfl ?_ | refine zC ?_ | with_reducible refine zM ?_ | refine zH ?_ | refine zI ?_ | (with_reducible first | refine zK ?_ | refine zL ?_ | refine zE ?_ | refine zG ?_ | refine zF ?_) | refine zN ?_
  · skip
    have D : kdD c = (IntKind.i64.wrap (1 + beV 4 (beC 14 c)), beC 4 (beC 14 c)) := by rw [kdD, b0]; rfl
    repeat' first | refine zJ ?_ | refine zA ?_ | refine zO [] ?_ | (refine isA ?_; refine zb rfl ?_) | (refine isL ?_; refine zU rfl (by kernel_rfl) rfl rfl ?_) | (refine za rfl ?_; refine zT rfl (by kernel_rfl) rfl rfl ?_) | (refine zq 143 ?_; refine zd rfl (zS (K := []) (Rs' := [_]) [0] (by decide) rfl (y0 4 (beC 14 c) h1) (.cons rfl rfl rfl (zP _) (zP _) .nil) (.cons (.ptr rfl) (.cons (.same rfl) .nil)) (fun q hq => by cases hq) rfl) rfl ?_) | (refine zr 143 rfl ?_; refine zY rfl (by kernel_rfl) rfl (zS (K := []) (Rs' := [_]) [0] (by decide) rfl (y0 4 (beC 14 c) h1) (.cons rfl rfl rfl (zP _) (zP _) .nil) (.cons (.ptr rfl) (.cons (.same rfl) .nil)) (fun q hq => by cases hq) rfl) rfl ?_) | exact (by rw [D]; exact vJ 1 [0] yF (by decide) rfl (le_refl rfl) (.cons rfl rfl rfl rfl (zg (zP _)) .nil)) | refine zD ?_ | refine zB _ rfl (by kernel_rfl) ?_ | refine zV rfl ?_ | refine zW rfl ?_ | refine zC ?_ | with_reducible refine zM ?_ | refine zH ?_ | refine zI ?_ | (with_reducible first | refine zK ?_ | refine zL ?_ | refine zE ?_ | refine zG ?_ | refine zF ?_) | refine zN ?_
structure RJ where
  k : Int
  a : List Rw
  b : List Rw
def tU (xs : List Int) : RJ := ⟨(kdD (xR xs)).1, (yo 7 (kdD (xR xs)).2).1, (yo 7 (yo 7 (kdD (xR xs)).2).2).1⟩
theorem kQ (xs : List Int) : 0 ≤ (tU xs).k ∧ (tU xs).k ≤ 5 ∧ (tU xs).a.length ≤ 8 ∧ (tU xs).b.length ≤ 8 := by
  have h0 := me (xR xs)
  have h1 := tD (most := 7) (by decide) (by decide) (kdD (xR xs)).2
  have h2 := tD (most := 7) (by decide) (by decide) (yo 7 (kdD (xR xs)).2).2
  refine ⟨h0.1, h0.2, ?_, ?_⟩
  · show (yo 7 (kdD (xR xs)).2).1.length ≤ 8
    omega
  · show (yo 7 (yo 7 (kdD (xR xs)).2).2).1.length ≤ 8
    omega
theorem mG (xs : List Int) (hl : xs.length ≤ 1000000000) : zn Go.Proofs.Try.prog 67 [yy u8T xs] [] (.tup [I (tU xs).k, rwL (tU xs).a, rwL (tU xs).b]) [] true := by
  have k0 : (xR xs).code.length ≤ 1000000000 := hl
  have hD : tU xs = ⟨(kdD (xR xs)).1, (yo 7 (kdD (xR xs)).2).1, (yo 7 (yo 7 (kdD (xR xs)).2).2).1⟩ := rfl
  have b0 := kZ (xR xs) k0
  have k1 : (kdD (xR xs)).2.code.length ≤ 1000000000 := by rw [nG]; exact k0
  generalize kdD (xR xs) = p0 at b0 k1 hD
  have b1 := qq 7 (by decide) (by decide) p0.2 k1
  have k2 : (yo 7 p0.2).2.code.length ≤ 1000000000 := by rw [sr]; exact k1
  generalize yo 7 p0.2 = p1 at b1 k2 hD
  have b2 := qq 7 (by decide) (by decide) p1.2 k2
  generalize yo 7 p1.2 = p2 at b2 hD
  rw [hD]
  refine zj [2, 3, 4] Go.Proofs.Try.func67 rfl rfl ?_
  simp only [Go.Proofs.Try.ntmps67, List.length_cons, List.length_nil, Nat.reduceAdd, Nat.reduceSub, List.replicate_succ, List.replicate_zero, List.cons_append, List.nil_append]
  repeat' first | refine zJ ?_ | refine zA ?_ | refine zO [call] ?_ | (refine isA ?_; refine zb rfl ?_) | (refine isL ?_; refine zU rfl (by kernel_rfl) rfl rfl ?_) | (refine za rfl ?_; refine zT rfl (by kernel_rfl) rfl rfl ?_) | (refine zq 104 ?_; refine zd rfl (yA rfl (wV xs hl) (.cons (.same rfl) .nil) (fun q hq => by simp at hq; subst hq; exact zP _) rfl rfl) rfl ?_) | (refine zr 104 rfl ?_; refine zY rfl (by kernel_rfl) rfl (yA rfl (wV xs hl) (.cons (.same rfl) .nil) (fun q hq => by simp at hq; subst hq; exact zP _) rfl rfl) rfl ?_) | (refine zq 137 ?_; refine zd rfl (zS (K := []) (Rs' := [_]) [0] (by decide) rfl b0 (.cons rfl rfl rfl (zP _) (zP _) .nil) (.cons (.ptr rfl) .nil) (fun q hq => by cases hq) rfl) rfl ?_) | (refine zr 137 rfl ?_; refine zY rfl (by kernel_rfl) rfl (zS (K := []) (Rs' := [_]) [0] (by decide) rfl b0 (.cons rfl rfl rfl (zP _) (zP _) .nil) (.cons (.ptr rfl) .nil) (fun q hq => by cases hq) rfl) rfl ?_) | (refine zq 105 ?_; refine zd rfl (zS (K := []) (Rs' := [_]) [0] (by decide) rfl b1 (.cons rfl rfl rfl (zP _) (zP _) .nil) (.cons (.ptr rfl) (.cons (.same rfl) .nil)) (fun q hq => by cases hq) rfl) rfl ?_) | (refine zr 105 rfl ?_; refine zY rfl (by kernel_rfl) rfl (zS (K := []) (Rs' := [_]) [0] (by decide) rfl b1 (.cons rfl rfl rfl (zP _) (zP _) .nil) (.cons (.ptr rfl) (.cons (.same rfl) .nil)) (fun q hq => by cases hq) rfl) rfl ?_) | (refine zq 105 ?_; refine zd rfl (zS (K := []) (Rs' := [_]) [0] (by decide) rfl b2 (.cons rfl rfl rfl (zP _) (zP _) .nil) (.cons (.ptr rfl) (.cons (.same rfl) .nil)) (fun q hq => by cases hq) rfl) rfl ?_) | (refine zr 105 rfl ?_; refine zY rfl (by kernel_rfl) rfl (zS (K := []) (Rs' := [_]) [0] (by decide) rfl b2 (.cons rfl rfl rfl (zP _) (zP _) .nil) (.cons (.ptr rfl) (.cons (.same rfl) .nil)) (fun q hq => by cases hq) rfl) rfl ?_) | exact qJ rfl (.tup (.cons (.same rfl) (.cons (.same rfl) (.cons (.same rfl) .nil)))) | refine zD ?_ | refine zB _ rfl (by kernel_rfl) ?_ | refine zV rfl ?_ | refine zW rfl ?_ | refine zC ?_ | with_reducible refine zM ?_ | refine zH ?_ | refine zI ?_ | (with_reducible first | refine zK ?_ | refine zL ?_ | refine zE ?_ | refine zG ?_ | refine zF ?_) | refine zN ?_
theorem mJ (xs : List Int) : zn Go.Proofs.Try.prog 15 [yy u8T xs] [] (B (decide ((1048576 : Int) < xs.length))) [] false := by
  refine zj [2] Go.Proofs.Try.func15 rfl rfl ?_
  simp only [Go.Proofs.Try.ntmps15, List.length_cons, List.length_nil, Nat.reduceAdd, Nat.reduceSub, List.replicate_succ, List.replicate_zero, List.cons_append, List.nil_append]
  repeat' first | refine zJ ?_ | refine zA ?_ | refine zO [] ?_ | (refine isA ?_; refine zb rfl ?_) | (refine isL ?_; refine zU rfl (by kernel_rfl) rfl rfl ?_) | (refine za rfl ?_; refine zT rfl (by kernel_rfl) rfl rfl ?_) | exact yX rfl rfl rfl | refine zD ?_ | refine zB _ rfl (by kernel_rfl) ?_ | refine zV rfl ?_ | refine zW rfl ?_ | refine zC ?_ | with_reducible refine zM ?_ | refine zH ?_ | refine zI ?_ | (with_reducible first | refine zK ?_ | refine zL ?_ | refine zE ?_ | refine zG ?_ | refine zF ?_) | refine zN ?_
end Go.Proofs.Ytkcicbigpbdjpaa.Ab
namespace Go.Proofs.Ytkcicbigpbdjpaa.Ab.Pr
open Go.RowKit
structure Rw where
  l : Go.Proofs.Ytkcicbigpbdjpaa.Ab.Rw
  r : Go.Proofs.Ytkcicbigpbdjpaa.Ab.Rw
  m : Bool
def mI (b : Bool) : Int := cond b 1 0
def rwE (p : Rw) : List V := [I p.l.a, I p.l.b, I p.l.c, I p.r.a, I p.r.b, I p.r.c, B p.m]
def rwT : Ty Rw := ⟨7, rwE, fun _ => rfl, by decide, fun r c hc => by
  simp only [rwE, List.mem_cons, List.not_mem_nil, or_false] at hc
  rcases hc with rfl | rfl | rfl | rfl | rfl | rfl | rfl <;> exact ⟨rfl, rfl⟩⟩
abbrev rwL (xs : List Rw) : V := yy rwT xs
abbrev rwR (xs : List Rw) : Reg := xN rwT 73 xs
theorem y4 (xs : List Rw) : sO (rwT.flat xs) := fun c hc => by
  simp only [Ty.flat, List.mem_flatMap] at hc
  obtain ⟨x, _, hx⟩ := hc
  simp only [rwT, rwE, List.mem_cons, List.not_mem_nil, or_false] at hx
  rcases hx with rfl | rfl | rfl | rfl | rfl | rfl | rfl <;> exact ⟨_, rfl⟩
theorem sR (xs : List Rw) (k : Nat) : ((rwT.flat xs).drop (0 * 7)).take ((k - 0) * 7) = rwT.flat (xs.take k) := by
  rw [Nat.zero_mul, List.drop_zero, Nat.sub_zero, show k * 7 = k * rwT.n from rfl, wH]
theorem sg (xs : List Rw) (k : Nat) : ((rwT.flat xs).drop (k * 7)).take ((xs.length - k) * 7) = rwT.flat (xs.drop k) := by
  rw [show k * 7 = k * rwT.n from rfl, wy, show (xs.length - k) * 7 = (xs.length - k) * rwT.n from rfl, wH, List.take_of_length_le (by simp)]
def rwN (x : Rw) : List Int := [x.l.a, x.l.b, x.l.c, mI x.m, x.r.a, x.r.b, x.r.c]
def yM (x y : Rw) : Int := ye (rwN x) (rwN y)
theorem qs : ∀ xs : List Int, ye xs xs = 0
  | [] => rfl
  | x :: xs => by rw [ye, decide_eq_false (Int.lt_irrefl x)]; exact qs xs
theorem qr : ∀ xs ys : List Int, ye ys xs = - ye xs ys
  | [], [] => rfl
  | [], y :: ys => rfl
  | x :: xs, [] => rfl
  | x :: xs, y :: ys => by
    rw [ye, ye]
    rcases Int.lt_trichotomy x y with h | h | h
    · rw [decide_eq_true h, decide_eq_false (show ¬ y < x by omega)]; rfl
    · rw [decide_eq_false (show ¬ x < y by omega), decide_eq_false (show ¬ y < x by omega)]; exact qr xs ys
    · rw [decide_eq_true h, decide_eq_false (show ¬ x < y by omega)]; rfl
theorem l8 : ∀ {xs ys : List Int}, xs.length = ys.length → ye xs ys = 0 → xs = ys
  | [], [], _, _ => rfl
  | [], y :: ys, h, _ => by simp at h
  | x :: xs, [], h, _ => by simp at h
  | x :: xs, y :: ys, h, e => by
    rw [ye] at e
    rcases Int.lt_trichotomy x y with k | k | k
    · rw [decide_eq_true k] at e; cases e
    · rw [decide_eq_false (show ¬ x < y by omega), decide_eq_false (show ¬ y < x by omega)] at e
      rw [k, l8 (by simpa using h) e]
    · rw [decide_eq_true k, decide_eq_false (show ¬ x < y by omega)] at e; cases e
theorem sJ : ∀ {xs ys zs : List Int}, xs.length = ys.length → ys.length = zs.length → ye xs ys ≤ 0 → ye ys zs ≤ 0 → ye xs zs ≤ 0
  | [], [], [], _, _, _, _ => by simp [ye]
  | [], [], z :: zs, _, h, _, _ => by simp at h
  | [], y :: ys, zs, h, _, _, _ => by simp at h
  | x :: xs, [], zs, h, _, _, _ => by simp at h
  | x :: xs, y :: ys, [], _, h, _, _ => by simp at h
  | x :: xs, y :: ys, z :: zs, h1, h2, e1, e2 => by
    rw [ye] at e1 e2 ⊢
    rcases Int.lt_trichotomy x y with k | k | k
    · rcases Int.lt_trichotomy y z with j | j | j
      · rw [decide_eq_true (show x < z by omega)]; show (-1 : Int) ≤ 0; decide
      · rw [decide_eq_true (show x < z by omega)]; show (-1 : Int) ≤ 0; decide
      · rw [decide_eq_true j, decide_eq_false (show ¬ y < z by omega)] at e2; exact absurd (show (1 : Int) ≤ 0 from e2) (by decide)
    · subst k
      rw [decide_eq_false (Int.lt_irrefl x)] at e1
      rcases Int.lt_trichotomy x z with j | j | j
      · rw [decide_eq_true j]; show (-1 : Int) ≤ 0; decide
      · subst j
        rw [decide_eq_false (Int.lt_irrefl x)] at e2 ⊢
        exact sJ (by simpa using h1) (by simpa using h2) e1 e2
      · rw [decide_eq_true j, decide_eq_false (show ¬ x < z by omega)] at e2; exact absurd (show (1 : Int) ≤ 0 from e2) (by decide)
    · rw [decide_eq_true k, decide_eq_false (show ¬ x < y by omega)] at e1; exact absurd (show (1 : Int) ≤ 0 from e1) (by decide)
theorem sq : ∀ {xs ys us vs : List Int}, xs.length = ys.length → ye (xs ++ us) (ys ++ vs) = if ye xs ys = 0 then ye us vs else ye xs ys
  | [], [], us, vs, _ => rfl
  | [], y :: ys, us, vs, h => by simp at h
  | x :: xs, [], us, vs, h => by simp at h
  | x :: xs, y :: ys, us, vs, h => by
    rw [List.cons_append, List.cons_append, ye, ye]
    rcases Int.lt_trichotomy x y with k | k | k
    · rw [decide_eq_true k]; rfl
    · subst k
      rw [decide_eq_false (Int.lt_irrefl x)]
      exact sq (by simpa using h)
    · rw [decide_eq_true k, decide_eq_false (show ¬ x < y by omega)]; rfl
def leW (x y : Rw) : Prop := yM x y ≤ 0
theorem vf (x y : Rw) : yM y x = - yM x y := qr _ _
theorem ui (x : Rw) : leW x x := by show ye _ _ ≤ 0; rw [qs]; decide
theorem xW {x y z : Rw} (h : leW x y) (k : leW y z) : leW x z := sJ (xs := rwN x) (ys := rwN y) (zs := rwN z) rfl rfl h k
theorem vv (x y : Rw) : leW x y ∨ leW y x := by
  have := vf x y
  unfold leW
  omega
theorem kL {a b : Bool} (h : mI a = mI b) : a = b := by cases a <;> cases b <;> first | rfl | cases h
theorem mU {x y : Rw} (h : rwN x = rwN y) : x = y := by
  obtain ⟨⟨a, b, c⟩, ⟨d, e, f⟩, m⟩ := x
  obtain ⟨⟨a', b', c'⟩, ⟨d', e', f'⟩, m'⟩ := y
  simp only [rwN, List.cons.injEq, and_true] at h
  obtain ⟨rfl, rfl, rfl, h4, rfl, rfl, rfl⟩ := h
  rw [kL h4]
theorem vX {x y : Rw} (h : leW x y) (k : leW y x) : x = y := by
  have := vf x y
  unfold leW at h k
  exact mU (l8 (xs := rwN x) (ys := rwN y) rfl (show yM x y = 0 by omega))
theorem xj {x y : Rw} (h : ¬ leW x y) : leW y x := (vv x y).resolve_left h
theorem xk {x y : Rw} : yM x y < 0 ↔ ¬ leW y x := by
  have := vf x y
  unfold leW
  omega
def Srt (xs : List Rw) : Prop := xs.Pairwise leW
theorem xD : ∀ {xs ys : List Rw}, Srt xs → Srt ys → xs.Perm ys → xs = ys
  | [], ys, _, _, hp => by rw [List.Perm.nil_eq hp]
  | x :: xs, [], _, _, hp => by cases hp.length_eq
  | x :: xs, y :: ys, hx, hy, hp => by
    have hx' := List.pairwise_cons.1 hx
    have hy' := List.pairwise_cons.1 hy
    have e : x = y := by
      have m1 : y ∈ x :: xs := hp.symm.mem_iff.1 (List.mem_cons_self ..)
      have m2 : x ∈ y :: ys := hp.mem_iff.1 (List.mem_cons_self ..)
      rcases List.mem_cons.1 m1 with h | h
      · exact h.symm
      · rcases List.mem_cons.1 m2 with k | k
        · exact k
        · exact vX (hx'.1 y h) (hy'.1 x k)
    subst e
    rw [xD hx'.2 hy'.2 (List.Perm.cons_inv hp)]
def xX (x : Rw) : List Rw → List Rw
  | [] => [x]
  | y :: ys => cond (decide (yM y x ≤ 0)) (y :: xX x ys) (x :: y :: ys)
def zt (xs : List Rw) : List Rw := xs.foldl (fun o x => xX x o) []
theorem xQ (x : Rw) : ∀ ys : List Rw, (xX x ys).Perm (x :: ys)
  | [] => .refl _
  | y :: ys => by
    rw [xX]
    cases decide (yM y x ≤ 0) with
    | true => exact ((xQ x ys).cons y).trans (.swap _ _ _)
    | false => exact .refl _
theorem wP (x : Rw) : ∀ {ys : List Rw}, Srt ys → Srt (xX x ys)
  | [], _ => List.pairwise_singleton _ _
  | y :: ys, h => by
    have h' := List.pairwise_cons.1 h
    rw [xX]
    cases hd : decide (yM y x ≤ 0) with
    | true =>
      refine List.pairwise_cons.2 ⟨fun z hz => ?_, wP x h'.2⟩
      rcases List.mem_cons.1 ((xQ x ys).mem_iff.1 hz) with rfl | hz
      · exact (show yM y _ ≤ 0 from of_decide_eq_true hd)
      · exact h'.1 z hz
    | false =>
      have hle : leW x y := xj (show ¬ yM y x ≤ 0 from of_decide_eq_false hd)
      refine List.pairwise_cons.2 ⟨fun z hz => ?_, h⟩
      rcases List.mem_cons.1 hz with rfl | hz
      · exact hle
      · exact xW hle (h'.1 z hz)
theorem wr (xs : List Rw) (x : Rw) : zt (xs ++ [x]) = xX x (zt xs) := by simp [zt]
theorem wQ : ∀ (xs o : List Rw), Srt o → Srt (xs.foldl (fun o x => xX x o) o) ∧ (xs.foldl (fun o x => xX x o) o).Perm (o ++ xs)
  | [], o, h => ⟨h, by simp⟩
  | x :: xs, o, h => by
    obtain ⟨q1, q2⟩ := wQ xs (xX x o) (wP x h)
    refine ⟨q1, q2.trans ?_⟩
    refine ((xQ x o).append_right xs).trans ?_
    exact List.perm_middle.symm
theorem yb (xs : List Rw) : Srt (zt xs) := (wQ xs [] List.Pairwise.nil).1
theorem z1 (xs : List Rw) : (zt xs).Perm xs := by
  have h := (wQ xs [] List.Pairwise.nil).2
  rw [List.nil_append] at h
  exact h
theorem wM {xs ys : List Rw} (h : Srt ys) (hp : ys.Perm xs) : ys = zt xs := xD h (yb xs) (hp.trans (z1 xs).symm)
theorem y6 (xs : List Rw) : (zt xs).length = xs.length := (z1 xs).length_eq
end Go.Proofs.Ytkcicbigpbdjpaa.Ab.Pr
namespace Go.Proofs.Ytkcicbigpbdjpaa.Ab.Pr
open Go.RowKit
theorem lz {x y : Rw} (h : Go.Proofs.Ytkcicbigpbdjpaa.Ab.yM x.l y.l ≠ 0) : yM x y = Go.Proofs.Ytkcicbigpbdjpaa.Ab.yM x.l y.l := by
  have := sq (xs := Go.Proofs.Ytkcicbigpbdjpaa.Ab.rwN x.l) (ys := Go.Proofs.Ytkcicbigpbdjpaa.Ab.rwN y.l) (us := mI x.m :: Go.Proofs.Ytkcicbigpbdjpaa.Ab.rwN x.r) (vs := mI y.m :: Go.Proofs.Ytkcicbigpbdjpaa.Ab.rwN y.r) rfl
  exact this.trans (if_neg h)
theorem ly {x y : Rw} (h : Go.Proofs.Ytkcicbigpbdjpaa.Ab.yM x.l y.l = 0) : yM x y = ye (mI x.m :: Go.Proofs.Ytkcicbigpbdjpaa.Ab.rwN x.r) (mI y.m :: Go.Proofs.Ytkcicbigpbdjpaa.Ab.rwN y.r) := by
  have := sq (xs := Go.Proofs.Ytkcicbigpbdjpaa.Ab.rwN x.l) (ys := Go.Proofs.Ytkcicbigpbdjpaa.Ab.rwN y.l) (us := mI x.m :: Go.Proofs.Ytkcicbigpbdjpaa.Ab.rwN x.r) (vs := mI y.m :: Go.Proofs.Ytkcicbigpbdjpaa.Ab.rwN y.r) rfl
  exact this.trans (if_pos h)
theorem qi {x y : Rw} (h : Go.Proofs.Ytkcicbigpbdjpaa.Ab.yM x.l y.l = 0) (hm : (!(x.m == y.m)) = true) : yM x y = cond y.m (-1) 1 := by
  rw [ly h, ye]
  cases hx : x.m <;> cases hy : y.m <;> simp [hx, hy, mI] at hm ⊢
theorem l5 {x y : Rw} (h : Go.Proofs.Ytkcicbigpbdjpaa.Ab.yM x.l y.l = 0) (hm : (!(x.m == y.m)) = false) : yM x y = Go.Proofs.Ytkcicbigpbdjpaa.Ab.yM x.r y.r := by
  rw [ly h, ye]
  cases hx : x.m <;> cases hy : y.m <;> simp [hx, hy, mI] at hm ⊢ <;> rfl
theorem xh (x y : Rw) : zn Go.Proofs.Try.prog 77 [.agg (rwE x), .agg (rwE y)] [] (I (yM x y)) [] false := by
  refine zj [4] Go.Proofs.Try.func77 rfl rfl ?_
  simp only [Go.Proofs.Try.ntmps77, List.length_cons, List.length_nil, Nat.reduceAdd, Nat.reduceSub, List.replicate_succ, List.replicate_zero, List.cons_append, List.nil_append]
  repeat' first | refine zJ ?_ | refine zA ?_ | refine zO [] ?_ | (refine isA ?_; refine zb rfl ?_) | (refine isL ?_; refine zU rfl (by kernel_rfl) rfl rfl ?_) | (refine za rfl ?_; refine zT rfl (by kernel_rfl) rfl rfl ?_) | (refine zq 122 ?_; refine zd rfl (zZ rfl (Go.Proofs.Ytkcicbigpbdjpaa.Ab.xh x.l y.l) (.cons (.same rfl) (.cons (.same rfl) .nil)) rfl) rfl ?_) | (refine zr 122 rfl ?_; refine zY rfl (by kernel_rfl) rfl (zZ rfl (Go.Proofs.Ytkcicbigpbdjpaa.Ab.xh x.l y.l) (.cons (.same rfl) (.cons (.same rfl) .nil)) rfl) rfl ?_) | refine zD ?_ | refine zB _ rfl (by kernel_rfl) ?_ | refine zV rfl ?_ | refine zW rfl ?_ | refine zC ?_ | with_reducible refine zM ?_ | refine zH ?_ | refine zI ?_ | (with_reducible first | refine zK ?_ | refine zL ?_ | refine zE ?_ | refine zG ?_ | refine zF ?_) | refine zN ?_
  refine zf rfl (fun h => ?_) (fun h => ?_)
  · have h1 : Go.Proofs.Ytkcicbigpbdjpaa.Ab.yM x.l y.l ≠ 0 := by simpa using h
    repeat' first | refine zJ ?_ | refine zA ?_ | refine zO [] ?_ | (refine isA ?_; refine zb rfl ?_) | (refine isL ?_; refine zU rfl (by kernel_rfl) rfl rfl ?_) | (refine za rfl ?_; refine zT rfl (by kernel_rfl) rfl rfl ?_) | exact yX rfl rfl (by rw [lz h1]) | refine zD ?_ | refine zB _ rfl (by kernel_rfl) ?_ | refine zV rfl ?_ | refine zW rfl ?_ | refine zC ?_ | with_reducible refine zM ?_ | refine zH ?_ | refine zI ?_ | (with_reducible first | refine zK ?_ | refine zL ?_ | refine zE ?_ | refine zG ?_ | refine zF ?_) | refine zN ?_
  have h1 : Go.Proofs.Ytkcicbigpbdjpaa.Ab.yM x.l y.l = 0 := by simpa using h
  repeat' first | refine zJ ?_ | refine zA ?_ | refine zO [] ?_ | (refine isA ?_; refine zb rfl ?_) | (refine isL ?_; refine zU rfl (by kernel_rfl) rfl rfl ?_) | (refine za rfl ?_; refine zT rfl (by kernel_rfl) rfl rfl ?_) | refine zd rfl (wD rfl rfl rfl (by kernel_rfl)) rfl ?_ | refine zY rfl (by kernel_rfl) rfl (wD rfl rfl rfl (by kernel_rfl)) rfl ?_ | refine zD ?_ | refine zB _ rfl (by kernel_rfl) ?_ | refine zV rfl ?_ | refine zW rfl ?_ | refine zC ?_ | with_reducible refine zM ?_ | refine zH ?_ | refine zI ?_ | (with_reducible first | refine zK ?_ | refine zL ?_ | refine zE ?_ | refine zG ?_ | refine zF ?_) | refine zN ?_
  refine zf rfl (fun h2 => ?_) (fun h2 => ?_)
  · repeat' first | refine zJ ?_ | refine zA ?_ | refine zO [] ?_ | (refine isA ?_; refine zb rfl ?_) | (refine isL ?_; refine zU rfl (by kernel_rfl) rfl rfl ?_) | (refine za rfl ?_; refine zT rfl (by kernel_rfl) rfl rfl ?_) | refine zD ?_ | refine zB _ rfl (by kernel_rfl) ?_ | refine zV rfl ?_ | refine zW rfl ?_ | refine zC ?_ | with_reducible refine zM ?_ | refine zH ?_ | refine zI ?_ | (with_reducible first | refine zK ?_ | refine zL ?_ | refine zE ?_ | refine zG ?_ | refine zF ?_) | refine zN ?_
    refine zf rfl (fun h3 => ?_) (fun h3 => ?_)
    · repeat' first | refine zJ ?_ | refine zA ?_ | refine zO [] ?_ | (refine isA ?_; refine zb rfl ?_) | (refine isL ?_; refine zU rfl (by kernel_rfl) rfl rfl ?_) | (refine za rfl ?_; refine zT rfl (by kernel_rfl) rfl rfl ?_) | exact yX rfl rfl (by rw [qi h1 h2, h3]; rfl) | refine zD ?_ | refine zB _ rfl (by kernel_rfl) ?_ | refine zV rfl ?_ | refine zW rfl ?_ | refine zC ?_ | with_reducible refine zM ?_ | refine zH ?_ | refine zI ?_ | (with_reducible first | refine zK ?_ | refine zL ?_ | refine zE ?_ | refine zG ?_ | refine zF ?_) | refine zN ?_
    · repeat' first | refine zJ ?_ | refine zA ?_ | refine zO [] ?_ | (refine isA ?_; refine zb rfl ?_) | (refine isL ?_; refine zU rfl (by kernel_rfl) rfl rfl ?_) | (refine za rfl ?_; refine zT rfl (by kernel_rfl) rfl rfl ?_) | exact yX rfl rfl (by rw [qi h1 h2, h3]; rfl) | refine zD ?_ | refine zB _ rfl (by kernel_rfl) ?_ | refine zV rfl ?_ | refine zW rfl ?_ | refine zC ?_ | with_reducible refine zM ?_ | refine zH ?_ | refine zI ?_ | (with_reducible first | refine zK ?_ | refine zL ?_ | refine zE ?_ | refine zG ?_ | refine zF ?_) | refine zN ?_
  · repeat' first | refine zJ ?_ | refine zA ?_ | refine zO [] ?_ | (refine isA ?_; refine zb rfl ?_) | (refine isL ?_; refine zU rfl (by kernel_rfl) rfl rfl ?_) | (refine za rfl ?_; refine zT rfl (by kernel_rfl) rfl rfl ?_) | (refine zq 122 ?_; refine zd rfl (zZ rfl (Go.Proofs.Ytkcicbigpbdjpaa.Ab.xh x.r y.r) (.cons (.same rfl) (.cons (.same rfl) .nil)) rfl) rfl ?_) | (refine zr 122 rfl ?_; refine zY rfl (by kernel_rfl) rfl (zZ rfl (Go.Proofs.Ytkcicbigpbdjpaa.Ab.xh x.r y.r) (.cons (.same rfl) (.cons (.same rfl) .nil)) rfl) rfl ?_) | exact yX rfl rfl (by rw [l5 h1 h2]) | refine zD ?_ | refine zB _ rfl (by kernel_rfl) ?_ | refine zV rfl ?_ | refine zW rfl ?_ | refine zC ?_ | with_reducible refine zM ?_ | refine zH ?_ | refine zI ?_ | (with_reducible first | refine zK ?_ | refine zL ?_ | refine zE ?_ | refine zG ?_ | refine zF ?_) | refine zN ?_
theorem v6 (x y : Rw) : zn Go.Proofs.Try.prog 78 [.agg (rwE x), .agg (rwE y)] [] (I (yM x y)) [] false := by
  refine zj [4] Go.Proofs.Try.func78 rfl rfl ?_
  simp only [Go.Proofs.Try.ntmps78, List.length_cons, List.length_nil, Nat.reduceAdd, Nat.reduceSub, List.replicate_succ, List.replicate_zero, List.cons_append, List.nil_append]
  repeat' first | refine zJ ?_ | refine zA ?_ | refine zO [] ?_ | (refine isA ?_; refine zb rfl ?_) | (refine isL ?_; refine zU rfl (by kernel_rfl) rfl rfl ?_) | (refine za rfl ?_; refine zT rfl (by kernel_rfl) rfl rfl ?_) | (refine zq 116 ?_; refine zd rfl (zZ rfl (Go.Proofs.Ytkcicbigpbdjpaa.Ab.v6 x.l y.l) (.cons (.same rfl) (.cons (.same rfl) .nil)) rfl) rfl ?_) | (refine zr 116 rfl ?_; refine zY rfl (by kernel_rfl) rfl (zZ rfl (Go.Proofs.Ytkcicbigpbdjpaa.Ab.v6 x.l y.l) (.cons (.same rfl) (.cons (.same rfl) .nil)) rfl) rfl ?_) | refine zD ?_ | refine zB _ rfl (by kernel_rfl) ?_ | refine zV rfl ?_ | refine zW rfl ?_ | refine zC ?_ | with_reducible refine zM ?_ | refine zH ?_ | refine zI ?_ | (with_reducible first | refine zK ?_ | refine zL ?_ | refine zE ?_ | refine zG ?_ | refine zF ?_) | refine zN ?_
  refine zf rfl (fun h => ?_) (fun h => ?_)
  · have h1 : Go.Proofs.Ytkcicbigpbdjpaa.Ab.yM x.l y.l ≠ 0 := by simpa using h
    repeat' first | refine zJ ?_ | refine zA ?_ | refine zO [] ?_ | (refine isA ?_; refine zb rfl ?_) | (refine isL ?_; refine zU rfl (by kernel_rfl) rfl rfl ?_) | (refine za rfl ?_; refine zT rfl (by kernel_rfl) rfl rfl ?_) | exact yX rfl rfl (by rw [lz h1]) | refine zD ?_ | refine zB _ rfl (by kernel_rfl) ?_ | refine zV rfl ?_ | refine zW rfl ?_ | refine zC ?_ | with_reducible refine zM ?_ | refine zH ?_ | refine zI ?_ | (with_reducible first | refine zK ?_ | refine zL ?_ | refine zE ?_ | refine zG ?_ | refine zF ?_) | refine zN ?_
  have h1 : Go.Proofs.Ytkcicbigpbdjpaa.Ab.yM x.l y.l = 0 := by simpa using h
  repeat' first | refine zJ ?_ | refine zA ?_ | refine zO [] ?_ | (refine isA ?_; refine zb rfl ?_) | (refine isL ?_; refine zU rfl (by kernel_rfl) rfl rfl ?_) | (refine za rfl ?_; refine zT rfl (by kernel_rfl) rfl rfl ?_) | refine zd rfl (wD rfl rfl rfl (by kernel_rfl)) rfl ?_ | refine zY rfl (by kernel_rfl) rfl (wD rfl rfl rfl (by kernel_rfl)) rfl ?_ | refine zD ?_ | refine zB _ rfl (by kernel_rfl) ?_ | refine zV rfl ?_ | refine zW rfl ?_ | refine zC ?_ | with_reducible refine zM ?_ | refine zH ?_ | refine zI ?_ | (with_reducible first | refine zK ?_ | refine zL ?_ | refine zE ?_ | refine zG ?_ | refine zF ?_) | refine zN ?_
  refine zf rfl (fun h2 => ?_) (fun h2 => ?_)
  · repeat' first | refine zJ ?_ | refine zA ?_ | refine zO [] ?_ | (refine isA ?_; refine zb rfl ?_) | (refine isL ?_; refine zU rfl (by kernel_rfl) rfl rfl ?_) | (refine za rfl ?_; refine zT rfl (by kernel_rfl) rfl rfl ?_) | refine zD ?_ | refine zB _ rfl (by kernel_rfl) ?_ | refine zV rfl ?_ | refine zW rfl ?_ | refine zC ?_ | with_reducible refine zM ?_ | refine zH ?_ | refine zI ?_ | (with_reducible first | refine zK ?_ | refine zL ?_ | refine zE ?_ | refine zG ?_ | refine zF ?_) | refine zN ?_
    refine zf rfl (fun h3 => ?_) (fun h3 => ?_)
    · repeat' first | refine zJ ?_ | refine zA ?_ | refine zO [] ?_ | (refine isA ?_; refine zb rfl ?_) | (refine isL ?_; refine zU rfl (by kernel_rfl) rfl rfl ?_) | (refine za rfl ?_; refine zT rfl (by kernel_rfl) rfl rfl ?_) | exact yX rfl rfl (by rw [qi h1 h2, h3]; rfl) | refine zD ?_ | refine zB _ rfl (by kernel_rfl) ?_ | refine zV rfl ?_ | refine zW rfl ?_ | refine zC ?_ | with_reducible refine zM ?_ | refine zH ?_ | refine zI ?_ | (with_reducible first | refine zK ?_ | refine zL ?_ | refine zE ?_ | refine zG ?_ | refine zF ?_) | refine zN ?_
    · repeat' first | refine zJ ?_ | refine zA ?_ | refine zO [] ?_ | (refine isA ?_; refine zb rfl ?_) | (refine isL ?_; refine zU rfl (by kernel_rfl) rfl rfl ?_) | (refine za rfl ?_; refine zT rfl (by kernel_rfl) rfl rfl ?_) | exact yX rfl rfl (by rw [qi h1 h2, h3]; rfl) | refine zD ?_ | refine zB _ rfl (by kernel_rfl) ?_ | refine zV rfl ?_ | refine zW rfl ?_ | refine zC ?_ | with_reducible refine zM ?_ | refine zH ?_ | refine zI ?_ | (with_reducible first | refine zK ?_ | refine zL ?_ | refine zE ?_ | refine zG ?_ | refine zF ?_) | refine zN ?_
  · repeat' first | refine zJ ?_ | refine zA ?_ | refine zO [] ?_ | (refine isA ?_; refine zb rfl ?_) | (refine isL ?_; refine zU rfl (by kernel_rfl) rfl rfl ?_) | (refine za rfl ?_; refine zT rfl (by kernel_rfl) rfl rfl ?_) | (refine zq 116 ?_; refine zd rfl (zZ rfl (Go.Proofs.Ytkcicbigpbdjpaa.Ab.v6 x.r y.r) (.cons (.same rfl) (.cons (.same rfl) .nil)) rfl) rfl ?_) | (refine zr 116 rfl ?_; refine zY rfl (by kernel_rfl) rfl (zZ rfl (Go.Proofs.Ytkcicbigpbdjpaa.Ab.v6 x.r y.r) (.cons (.same rfl) (.cons (.same rfl) .nil)) rfl) rfl ?_) | exact yX rfl rfl (by rw [l5 h1 h2]) | refine zD ?_ | refine zB _ rfl (by kernel_rfl) ?_ | refine zV rfl ?_ | refine zW rfl ?_ | refine zC ?_ | with_reducible refine zM ?_ | refine zH ?_ | refine zI ?_ | (with_reducible first | refine zK ?_ | refine zL ?_ | refine zE ?_ | refine zG ?_ | refine zF ?_) | refine zN ?_
end Go.Proofs.Ytkcicbigpbdjpaa.Ab.Pr
namespace Go.Proofs.Ytkcicbigpbdjpaa.Ab.Pr
open Go.RowKit
def hit (l r : Go.Proofs.Ytkcicbigpbdjpaa.Ab.Rw) : Bool := decide (r.a = l.a)
def yB (l : Go.Proofs.Ytkcicbigpbdjpaa.Ab.Rw) (b : List Go.Proofs.Ytkcicbigpbdjpaa.Ab.Rw) : Nat := (b.filter (hit l)).length
def xS (l : Go.Proofs.Ytkcicbigpbdjpaa.Ab.Rw) (b : List Go.Proofs.Ytkcicbigpbdjpaa.Ab.Rw) : List Rw := (b.filter (hit l)).map fun r => ⟨l, r, true⟩
def yu (l : Go.Proofs.Ytkcicbigpbdjpaa.Ab.Rw) : Rw := ⟨l, z3, false⟩
def c6 (k : Int) (n : Nat) : Bool := decide ((0 : Int) < n) && (decide (k = 1) || decide (k = 4))
def c13 (k : Int) (n : Nat) : Bool := (decide (k = 2) && decide ((0 : Int) < n)) || ((decide (k = 3) || decide (k = 4)) && decide ((n : Int) = 0))
def x5 (k : Int) (b : List Go.Proofs.Ytkcicbigpbdjpaa.Ab.Rw) (l : Go.Proofs.Ytkcicbigpbdjpaa.Ab.Rw) : List Rw := cond (c6 k (yB l b)) (xS l b) [] ++ cond (c13 k (yB l b)) [yu l] []
def yE (k : Int) (a b : List Go.Proofs.Ytkcicbigpbdjpaa.Ab.Rw) : List Rw := a.flatMap (x5 k b)
theorem wl (l : Go.Proofs.Ytkcicbigpbdjpaa.Ab.Rw) (b : List Go.Proofs.Ytkcicbigpbdjpaa.Ab.Rw) : yB l b ≤ b.length := List.length_filter_le _ _
theorem wO (l : Go.Proofs.Ytkcicbigpbdjpaa.Ab.Rw) (b : List Go.Proofs.Ytkcicbigpbdjpaa.Ab.Rw) : (xS l b).length = yB l b := by simp [xS, yB]
theorem sG {l : Go.Proofs.Ytkcicbigpbdjpaa.Ab.Rw} {b : List Go.Proofs.Ytkcicbigpbdjpaa.Ab.Rw} {i : Nat} {z : Go.Proofs.Ytkcicbigpbdjpaa.Ab.Rw} (hz : b[i]? = some z) : yB l (b.take (i + 1)) = yB l (b.take i) + cond (hit l z) 1 0 := by
  rw [List.take_add_one, hz]
  simp only [yB, Option.toList_some, List.filter_append, List.length_append]
  cases h : hit l z <;> simp [h]
theorem tw {l : Go.Proofs.Ytkcicbigpbdjpaa.Ab.Rw} {b : List Go.Proofs.Ytkcicbigpbdjpaa.Ab.Rw} {i : Nat} {z : Go.Proofs.Ytkcicbigpbdjpaa.Ab.Rw} (hz : b[i]? = some z) : xS l (b.take (i + 1)) = xS l (b.take i) ++ cond (hit l z) [⟨l, z, true⟩] [] := by
  rw [List.take_add_one, hz]
  simp only [xS, Option.toList_some, List.filter_append, List.map_append]
  cases h : hit l z <;> simp [h]
theorem vw {k : Int} {a b : List Go.Proofs.Ytkcicbigpbdjpaa.Ab.Rw} {i : Nat} {z : Go.Proofs.Ytkcicbigpbdjpaa.Ab.Rw} (hz : a[i]? = some z) : yE k (a.take (i + 1)) b = yE k (a.take i) b ++ x5 k b z := by
  rw [List.take_add_one, hz]
  simp [yE]
theorem tP (k : Int) (b : List Go.Proofs.Ytkcicbigpbdjpaa.Ab.Rw) (l : Go.Proofs.Ytkcicbigpbdjpaa.Ab.Rw) : (x5 k b l).length ≤ b.length + 1 := by
  have h1 := wl l b
  have h2 := wO l b
  unfold x5
  cases c6 k (yB l b) <;> cases c13 k (yB l b) <;> simp <;> omega
theorem wG (k : Int) (b : List Go.Proofs.Ytkcicbigpbdjpaa.Ab.Rw) : ∀ a : List Go.Proofs.Ytkcicbigpbdjpaa.Ab.Rw, (yE k a b).length ≤ a.length * (b.length + 1)
  | [] => by simp [yE]
  | l :: a => by
    have h1 := tP k b l
    have h2 := wG k b a
    simp only [yE, List.flatMap_cons, List.length_append, List.length_cons, Nat.add_mul, Nat.one_mul] at h2 ⊢
    omega
theorem up (l : Go.Proofs.Ytkcicbigpbdjpaa.Ab.Rw) (b : List Go.Proofs.Ytkcicbigpbdjpaa.Ab.Rw) (hl : b.length ≤ 1000000000) : zn Go.Proofs.Try.prog 74 [.agg (Go.Proofs.Ytkcicbigpbdjpaa.Ab.rwE l), Go.Proofs.Ytkcicbigpbdjpaa.Ab.rwL b] [] (I (yB l b)) [] false := by
  refine zj [4] Go.Proofs.Try.func74 rfl rfl ?_
  simp only [Go.Proofs.Try.ntmps74, List.length_cons, List.length_nil, Nat.reduceAdd, Nat.reduceSub, List.replicate_succ, List.replicate_zero, List.cons_append, List.nil_append]
  repeat' first | refine zJ ?_ | refine zA ?_ | refine zO [] ?_ | (refine isA ?_; refine zb rfl ?_) | (refine isL ?_; refine zU rfl (by kernel_rfl) rfl rfl ?_) | (refine za rfl ?_; refine zT rfl (by kernel_rfl) rfl rfl ?_) | refine zD ?_ | refine zB _ rfl (by kernel_rfl) ?_ | refine zV rfl ?_ | refine zW rfl ?_ | refine zC ?_ | with_reducible refine zM ?_ | refine zH ?_ | refine zI ?_ | (with_reducible first | refine zK ?_ | refine zL ?_ | refine zE ?_ | refine zG ?_ | refine zF ?_) | refine zN ?_
  refine zy (α := { i : Nat // i ≤ b.length }) (fun i => ⟨[.any, .any, .ptr 0 0, .any, .any, I (yB l (b.take i.1)), .any, .any, Go.Proofs.Ytkcicbigpbdjpaa.Ab.rwL b, I b.length, I i.1, .any, .any, .any, .any, .any, .any, .any, .any, .any, .any, .any, .any], [⟨71, 3, Go.Proofs.Ytkcicbigpbdjpaa.Ab.rwE l, 0⟩], 0⟩) (fun i => b.length - i.1) ⟨0, Nat.zero_le _⟩ ?_ ?_
  · exact yq [0] rfl rfl (by decide) (.cons rfl rfl rfl rfl (zx rfl) .nil) (by repeat' first | exact zh | refine zc ?_ ?_ | exact zl | exact le_refl rfl | exact zm rfl rfl | exact zz rfl)
  · rintro ⟨i, hi⟩
    repeat' first | refine zJ ?_ | refine zA ?_ | refine zO [] ?_ | (refine isA ?_; refine zb rfl ?_) | (refine isL ?_; refine zU rfl (by kernel_rfl) rfl rfl ?_) | (refine za rfl ?_; refine zT rfl (by kernel_rfl) rfl rfl ?_) | refine zD ?_ | refine zB _ rfl (by kernel_rfl) ?_ | refine zV rfl ?_ | refine zW rfl ?_ | refine zC ?_ | with_reducible refine zM ?_ | refine zH ?_ | refine zI ?_ | (with_reducible first | refine zK ?_ | refine zL ?_ | refine zE ?_ | refine zG ?_ | refine zF ?_) | refine zN ?_
    refine zf rfl (fun h => ?_) (fun h => ?_)
    · have hlt : i < b.length := by simpa using h
      obtain ⟨z, hz⟩ : ∃ z, b[i]? = some z := ⟨_, List.getElem?_eq_getElem hlt⟩
      have hc := sG (l := l) hz
      have hcl := wl l (b.take i)
      simp only [List.length_take] at hcl
      repeat' first | refine zJ ?_ | refine zA ?_ | refine zO [] ?_ | (refine isA ?_; refine zb rfl ?_) | (refine isL ?_; refine zU rfl (by kernel_rfl) rfl rfl ?_) | (refine za rfl ?_; refine zT rfl (by kernel_rfl) rfl rfl ?_) | (refine yn (x := .tmp 8) ?_; refine zd rfl (yT (t := Go.Proofs.Ytkcicbigpbdjpaa.Ab.rwT) (z := z) rfl rfl rfl rfl (Int.natCast_nonneg i) hz) rfl ?_) | (refine ym (x := .tmp 8) rfl ?_; refine zY rfl (by kernel_rfl) rfl (yT (t := Go.Proofs.Ytkcicbigpbdjpaa.Ab.rwT) (z := z) rfl rfl rfl rfl (Int.natCast_nonneg i) hz) rfl ?_) | refine zD ?_ | refine zB _ rfl (by kernel_rfl) ?_ | refine zV rfl ?_ | refine zW rfl ?_ | refine zC ?_ | with_reducible refine zM ?_ | refine zH ?_ | refine zI ?_ | (with_reducible first | refine zK ?_ | refine zL ?_ | refine zE ?_ | refine zG ?_ | refine zF ?_) | refine zN ?_
      refine zf rfl (fun h1 => ?_) (fun h1 => ?_)
      · have e : hit l z = true := h1
        rw [e] at hc
        repeat' first | refine zJ ?_ | refine zA ?_ | refine zO [] ?_ | (refine isA ?_; refine zb rfl ?_) | (refine isL ?_; refine zU rfl (by kernel_rfl) rfl rfl ?_) | (refine za rfl ?_; refine zT rfl (by kernel_rfl) rfl rfl ?_) | refine zD ?_ | refine zB _ rfl (by kernel_rfl) ?_ | refine zV rfl ?_ | refine zW rfl ?_ | refine zC ?_ | with_reducible refine zM ?_ | refine zH ?_ | refine zI ?_ | (with_reducible first | refine zK ?_ | refine zL ?_ | refine zE ?_ | refine zG ?_ | refine zF ?_) | refine zN ?_
        refine ⟨⟨i + 1, hlt⟩, by simp only; omega, ?_⟩
        exact yq [0] rfl rfl (by decide) (.cons rfl rfl rfl rfl (zx rfl) .nil) (by
          repeat' first | exact zh | refine zc ?_ ?_ | exact zl | exact le_refl rfl | exact zz rfl | exact xP hlt (by omega) | exact yP (congrArg _ (show ((yB l (b.take (i + 1)) : Nat) : Int) = IntKind.i64.wrap ((yB l (b.take i) : Int) + 1) by rw [hc, IntKind.wrap_i64]; simp only [cond_true]; omega)))
      · have e : hit l z = false := h1
        rw [e] at hc
        repeat' first | refine zJ ?_ | refine zA ?_ | refine zO [] ?_ | (refine isA ?_; refine zb rfl ?_) | (refine isL ?_; refine zU rfl (by kernel_rfl) rfl rfl ?_) | (refine za rfl ?_; refine zT rfl (by kernel_rfl) rfl rfl ?_) | refine zD ?_ | refine zB _ rfl (by kernel_rfl) ?_ | refine zV rfl ?_ | refine zW rfl ?_ | refine zC ?_ | with_reducible refine zM ?_ | refine zH ?_ | refine zI ?_ | (with_reducible first | refine zK ?_ | refine zL ?_ | refine zE ?_ | refine zG ?_ | refine zF ?_) | refine zN ?_
        refine ⟨⟨i + 1, hlt⟩, by simp only; omega, ?_⟩
        exact yq [0] rfl rfl (by decide) (.cons rfl rfl rfl rfl (zx rfl) .nil) (by
          repeat' first | exact zh | refine zc ?_ ?_ | exact zl | exact le_refl rfl | exact zz rfl | exact xP hlt (by omega) | exact yP (congrArg _ (show ((yB l (b.take (i + 1)) : Nat) : Int) = (yB l (b.take i) : Int) by rw [hc]; rfl)))
    · have hge : i = b.length := by
        have : ¬ ((i : Int) < b.length) := by simpa using h
        omega
      subst hge
      repeat' first | refine zJ ?_ | refine zA ?_ | refine zO [] ?_ | (refine isA ?_; refine zb rfl ?_) | (refine isL ?_; refine zU rfl (by kernel_rfl) rfl rfl ?_) | (refine za rfl ?_; refine zT rfl (by kernel_rfl) rfl rfl ?_) | exact yX rfl rfl (by rw [List.take_length]) | refine zD ?_ | refine zB _ rfl (by kernel_rfl) ?_ | refine zV rfl ?_ | refine zW rfl ?_ | refine zC ?_ | with_reducible refine zM ?_ | refine zH ?_ | refine zI ?_ | (with_reducible first | refine zK ?_ | refine zL ?_ | refine zE ?_ | refine zG ?_ | refine zF ?_) | refine zN ?_
theorem mA (l : Go.Proofs.Ytkcicbigpbdjpaa.Ab.Rw) (b : List Go.Proofs.Ytkcicbigpbdjpaa.Ab.Rw) (hl : b.length ≤ 1000000000) : zn Go.Proofs.Try.prog 161 [.agg (Go.Proofs.Ytkcicbigpbdjpaa.Ab.rwE l), Go.Proofs.Ytkcicbigpbdjpaa.Ab.rwL b] [] (I (yB l b)) [] false := by
  refine zj [4] Go.Proofs.Try.func161 rfl rfl ?_
  simp only [Go.Proofs.Try.ntmps161, List.length_cons, List.length_nil, Nat.reduceAdd, Nat.reduceSub, List.replicate_succ, List.replicate_zero, List.cons_append, List.nil_append]
  repeat' first | refine zJ ?_ | refine zA ?_ | refine zO [] ?_ | (refine isA ?_; refine zb rfl ?_) | (refine isL ?_; refine zU rfl (by kernel_rfl) rfl rfl ?_) | (refine za rfl ?_; refine zT rfl (by kernel_rfl) rfl rfl ?_) | refine zD ?_ | refine zB _ rfl (by kernel_rfl) ?_ | refine zV rfl ?_ | refine zW rfl ?_ | refine zC ?_ | with_reducible refine zM ?_ | refine zH ?_ | refine zI ?_ | (with_reducible first | refine zK ?_ | refine zL ?_ | refine zE ?_ | refine zG ?_ | refine zF ?_) | refine zN ?_
  refine zy (α := { i : Nat // i ≤ b.length }) (fun i => ⟨[.any, Go.Proofs.Ytkcicbigpbdjpaa.Ab.rwL b, .ptr 0 0, .any, .any, I (yB l (b.take i.1)), I i.1, .any, .any, .any, .any, .any, .any, .any, .any, .any, .any, .any, .any, .any, .any, .any, .any, .any], [⟨71, 3, Go.Proofs.Ytkcicbigpbdjpaa.Ab.rwE l, 0⟩], 0⟩) (fun i => b.length - i.1) ⟨0, Nat.zero_le _⟩ ?_ ?_
  · exact yq [0] rfl rfl (by decide) (.cons rfl rfl rfl rfl (zx rfl) .nil) (by repeat' first | exact zh | refine zc ?_ ?_ | exact zl | exact le_refl rfl | exact zm rfl rfl | exact zz rfl)
  · rintro ⟨i, hi⟩
    repeat' first | refine zJ ?_ | refine zA ?_ | refine zO [] ?_ | (refine isA ?_; refine zb rfl ?_) | (refine isL ?_; refine zU rfl (by kernel_rfl) rfl rfl ?_) | (refine za rfl ?_; refine zT rfl (by kernel_rfl) rfl rfl ?_) | refine zD ?_ | refine zB _ rfl (by kernel_rfl) ?_ | refine zV rfl ?_ | refine zW rfl ?_ | refine zC ?_ | with_reducible refine zM ?_ | refine zH ?_ | refine zI ?_ | (with_reducible first | refine zK ?_ | refine zL ?_ | refine zE ?_ | refine zG ?_ | refine zF ?_) | refine zN ?_
    refine zf rfl (fun h => ?_) (fun h => ?_)
    · have hlt : i < b.length := by simpa using h
      obtain ⟨z, hz⟩ : ∃ z, b[i]? = some z := ⟨_, List.getElem?_eq_getElem hlt⟩
      have hc := sG (l := l) hz
      have hcl := wl l (b.take i)
      simp only [List.length_take] at hcl
      repeat' first | refine zJ ?_ | refine zA ?_ | refine zO [] ?_ | (refine isA ?_; refine zb rfl ?_) | (refine isL ?_; refine zU rfl (by kernel_rfl) rfl rfl ?_) | (refine za rfl ?_; refine zT rfl (by kernel_rfl) rfl rfl ?_) | (refine yn (x := .tmp 13) ?_; refine zd rfl (yT (t := Go.Proofs.Ytkcicbigpbdjpaa.Ab.rwT) (z := z) rfl rfl rfl rfl (Int.natCast_nonneg i) hz) rfl ?_) | (refine ym (x := .tmp 13) rfl ?_; refine zY rfl (by kernel_rfl) rfl (yT (t := Go.Proofs.Ytkcicbigpbdjpaa.Ab.rwT) (z := z) rfl rfl rfl rfl (Int.natCast_nonneg i) hz) rfl ?_) | refine zD ?_ | refine zB _ rfl (by kernel_rfl) ?_ | refine zV rfl ?_ | refine zW rfl ?_ | refine zC ?_ | with_reducible refine zM ?_ | refine zH ?_ | refine zI ?_ | (with_reducible first | refine zK ?_ | refine zL ?_ | refine zE ?_ | refine zG ?_ | refine zF ?_) | refine zN ?_
      refine zf rfl (fun h1 => ?_) (fun h1 => ?_)
      · have e : hit l z = true := h1
        rw [e] at hc
        repeat' first | refine zJ ?_ | refine zA ?_ | refine zO [] ?_ | (refine isA ?_; refine zb rfl ?_) | (refine isL ?_; refine zU rfl (by kernel_rfl) rfl rfl ?_) | (refine za rfl ?_; refine zT rfl (by kernel_rfl) rfl rfl ?_) | refine zD ?_ | refine zB _ rfl (by kernel_rfl) ?_ | refine zV rfl ?_ | refine zW rfl ?_ | refine zC ?_ | with_reducible refine zM ?_ | refine zH ?_ | refine zI ?_ | (with_reducible first | refine zK ?_ | refine zL ?_ | refine zE ?_ | refine zG ?_ | refine zF ?_) | refine zN ?_
        refine ⟨⟨i + 1, hlt⟩, by simp only; omega, ?_⟩
        exact yq [0] rfl rfl (by decide) (.cons rfl rfl rfl rfl (zx rfl) .nil) (by
          repeat' first | exact zh | refine zc ?_ ?_ | exact zl | exact le_refl rfl | exact zz rfl | exact xP hlt (by omega) | exact yP (congrArg _ (show ((yB l (b.take (i + 1)) : Nat) : Int) = IntKind.i64.wrap ((yB l (b.take i) : Int) + 1) by rw [hc, IntKind.wrap_i64]; simp only [cond_true]; omega)))
      · have e : hit l z = false := h1
        rw [e] at hc
        repeat' first | refine zJ ?_ | refine zA ?_ | refine zO [] ?_ | (refine isA ?_; refine zb rfl ?_) | (refine isL ?_; refine zU rfl (by kernel_rfl) rfl rfl ?_) | (refine za rfl ?_; refine zT rfl (by kernel_rfl) rfl rfl ?_) | refine zD ?_ | refine zB _ rfl (by kernel_rfl) ?_ | refine zV rfl ?_ | refine zW rfl ?_ | refine zC ?_ | with_reducible refine zM ?_ | refine zH ?_ | refine zI ?_ | (with_reducible first | refine zK ?_ | refine zL ?_ | refine zE ?_ | refine zG ?_ | refine zF ?_) | refine zN ?_
        refine ⟨⟨i + 1, hlt⟩, by simp only; omega, ?_⟩
        exact yq [0] rfl rfl (by decide) (.cons rfl rfl rfl rfl (zx rfl) .nil) (by
          repeat' first | exact zh | refine zc ?_ ?_ | exact zl | exact le_refl rfl | exact zz rfl | exact xP hlt (by omega) | exact yP (congrArg _ (show ((yB l (b.take (i + 1)) : Nat) : Int) = (yB l (b.take i) : Int) by rw [hc]; rfl)))
    · have hge : i = b.length := by
        have : ¬ ((i : Int) < b.length) := by simpa using h
        omega
      subst hge
      repeat' first | refine zJ ?_ | refine zA ?_ | refine zO [] ?_ | (refine isA ?_; refine zb rfl ?_) | (refine isL ?_; refine zU rfl (by kernel_rfl) rfl rfl ?_) | (refine za rfl ?_; refine zT rfl (by kernel_rfl) rfl rfl ?_) | exact yX rfl rfl (by rw [List.take_length]) | refine zD ?_ | refine zB _ rfl (by kernel_rfl) ?_ | refine zV rfl ?_ | refine zW rfl ?_ | refine zC ?_ | with_reducible refine zM ?_ | refine zH ?_ | refine zI ?_ | (with_reducible first | refine zK ?_ | refine zL ?_ | refine zE ?_ | refine zG ?_ | refine zF ?_) | refine zN ?_
end Go.Proofs.Ytkcicbigpbdjpaa.Ab.Pr
namespace Go.Proofs.Ytkcicbigpbdjpaa.Ab.Pr
open Go.RowKit
theorem ua {xs : List Rw} (h : Srt xs) {i j : Nat} {x y : Rw} (hij : i ≤ j) (hx : xs[i]? = some x) (hy : xs[j]? = some y) : leW x y := by
  rcases Nat.lt_or_eq_of_le hij with hlt | rfl
  · obtain ⟨h1, rfl⟩ := List.getElem?_eq_some_iff.1 hx
    obtain ⟨h2, rfl⟩ := List.getElem?_eq_some_iff.1 hy
    exact List.pairwise_iff_getElem.1 h i j h1 h2 hlt
  · rw [hx] at hy
    cases hy
    exact ui _
theorem vx {out : List Rw} {x : Rw} {k : Nat} (hs : Srt out) (hk : k ≤ out.length) (hB : ∀ j z, k ≤ j → out[j]? = some z → ¬ leW z x) (hA : ∀ z, 0 < k → out[k - 1]? = some z → leW z x) : out.take k ++ x :: out.drop k = xX x out := by
  have hA' : ∀ z ∈ out.take k, leW z x := fun z hz => by
    obtain ⟨j, hj⟩ := List.getElem?_of_mem hz
    have hlt : j < k := by
      have := (List.getElem?_eq_some_iff.1 hj).1
      simp at this
      omega
    rw [List.getElem?_take_of_lt hlt] at hj
    obtain ⟨y, hy⟩ : ∃ y, out[k - 1]? = some y := ⟨_, List.getElem?_eq_getElem (by omega)⟩
    exact xW (ua hs (show j ≤ k - 1 by omega) hj hy) (hA y (by omega) hy)
  have hB' : ∀ z ∈ out.drop k, leW x z := fun z hz => by
    obtain ⟨j, hj⟩ := List.getElem?_of_mem hz
    rw [List.getElem?_drop] at hj
    exact xj (hB (k + j) z (by omega) hj)
  refine xD ?_ (wP x hs) ?_
  · have hs' : Srt (out.take k ++ out.drop k) := by rw [List.take_append_drop]; exact hs
    obtain ⟨q1, q2, q3⟩ := List.pairwise_append.1 hs'
    refine List.pairwise_append.2 ⟨q1, List.pairwise_cons.2 ⟨hB', q2⟩, fun a ha c hc => ?_⟩
    rcases List.mem_cons.1 hc with rfl | hc
    · exact hA' a ha
    · exact q3 a ha c hc
  · refine List.perm_middle.trans ?_
    rw [List.take_append_drop]
    exact (xQ x out).symm
theorem vO {H : List Reg} {h k off m : Nat} {xs : List Rw} (hH : H[h]? = some (rwR xs)) (hk : k ≤ xs.length) (ho : off = k) (hm : m = xs.length - k) : Src H (.sl h off m) (xs.drop k).length (rwT.flat (xs.drop k)) := by
  subst ho hm
  have q := Src.sl (H := H) (h := h) (off := off) (m := xs.length - off) hH (Nat.zero_le _) (by show (off + (xs.length - off)) * 7 ≤ (rwT.flat xs).length; rw [yH]; show _ ≤ xs.length * 7; omega)
  have e : ((rwR xs).cells.drop (off * (rwR xs).esz)).take ((xs.length - off) * (rwR xs).esz) = rwT.flat (xs.drop off) := sg xs off
  rw [e] at q
  rw [List.length_drop]
  exact q
theorem xI {H : List Reg} {h k off m : Nat} {xs : List Rw} (hH : H[h]? = some (rwR xs)) (hk : k ≤ xs.length) (ho : off = 0) (hm : m = k) : Src H (.sl h off m) (xs.take k).length (rwT.flat (xs.take k)) := by
  subst ho hm
  have q := Src.sl (H := H) (h := h) (off := 0) (m := m) hH (Nat.zero_le _) (by show (0 + m) * 7 ≤ (rwT.flat xs).length; rw [yH]; show _ ≤ xs.length * 7; omega)
  have e : ((rwR xs).cells.drop (0 * (rwR xs).esz)).take (m * (rwR xs).esz) = rwT.flat (xs.take m) := sR xs m
  rw [e] at q
  rw [List.length_take, Nat.min_eq_left hk]
  exact q
theorem xK {H : List Reg} {h : Nat} {xs : List Rw} (hH : H[h]? = some (rwR xs)) : Src H (.sl h 0 xs.length) xs.length (rwT.flat xs) := by
  have q := xI (k := xs.length) hH (Nat.le_refl _) rfl rfl
  rw [List.take_length] at q
  exact q
theorem uR (xs : List Rw) (hl : xs.length ≤ 100000000) : zn Go.Proofs.Try.prog 132 [rwL xs] [] (.sl 0 0 (zt xs).length) [rwR (zt xs)] false := by
  refine zj [2] Go.Proofs.Try.func132 rfl rfl ?_
  simp only [Go.Proofs.Try.ntmps132, List.length_cons, List.length_nil, Nat.reduceAdd, Nat.reduceSub, List.replicate_succ, List.replicate_zero, List.cons_append, List.nil_append]
  repeat' first | refine zJ ?_ | refine zA ?_ | refine zO [] ?_ | (refine isA ?_; refine zb rfl ?_) | (refine isL ?_; refine zU rfl (by kernel_rfl) rfl rfl ?_) | (refine za rfl ?_; refine zT rfl (by kernel_rfl) rfl rfl ?_) | refine zD ?_ | refine zB _ rfl (by kernel_rfl) ?_ | refine zV rfl ?_ | refine zW rfl ?_ | refine zC ?_ | with_reducible refine zM ?_ | refine zH ?_ | refine zI ?_ | (with_reducible first | refine zK ?_ | refine zL ?_ | refine zE ?_ | refine zG ?_ | refine zF ?_) | refine zN ?_
  refine zy (α := { i : Nat // i ≤ xs.length }) (fun i => ⟨[rwL xs, .any, .any, .sl 0 0 (zt (xs.take i.1)).length, I i.1, .any, .any, .any, .any, .any, .any, .any, .any, .any, .any, .any, .any, .any, .any, .any, .any, .any, .any, .any, .any, .any, .any, .any, .any, .any, .any, .any, .any, .any, .any, .any, .any, .any, .any, .any, .any, .any, .any, .any, .any, .any, .any, .any, .any, .any], [rwR (zt (xs.take i.1))], 0⟩) (fun i => xs.length - i.1) ⟨0, Nat.zero_le _⟩ ?_ ?_
  · exact yq [0] rfl rfl (by decide) (.cons rfl rfl rfl rfl (zg (zR _ _)) .nil) (by repeat' first | exact zh | refine zc ?_ ?_ | exact zl | exact le_refl rfl | exact zm rfl rfl | exact zz rfl)
  · rintro ⟨i, hi⟩
    repeat' first | refine zJ ?_ | refine zA ?_ | refine zO [] ?_ | (refine isA ?_; refine zb rfl ?_) | (refine isL ?_; refine zU rfl (by kernel_rfl) rfl rfl ?_) | (refine za rfl ?_; refine zT rfl (by kernel_rfl) rfl rfl ?_) | refine zD ?_ | refine zB _ rfl (by kernel_rfl) ?_ | refine zV rfl ?_ | refine zW rfl ?_ | refine zC ?_ | with_reducible refine zM ?_ | refine zH ?_ | refine zI ?_ | (with_reducible first | refine zK ?_ | refine zL ?_ | refine zE ?_ | refine zG ?_ | refine zF ?_) | refine zN ?_
    refine zf rfl (fun h => ?_) (fun h => ?_)
    · have hlt : i < xs.length := by simpa using h
      obtain ⟨x, hx⟩ : ∃ z, xs[i]? = some z := ⟨_, List.getElem?_eq_getElem hlt⟩
      have e1 : zt (xs.take (i + 1)) = xX x (zt (xs.take i)) := by rw [List.take_add_one, hx]; exact wr _ _
      have hso := yb (xs.take i)
      have hol : (zt (xs.take i)).length = i := by rw [y6]; simp; omega
      generalize zt (xs.take i) = out at e1 hso hol
      repeat' first | refine zJ ?_ | refine zA ?_ | refine zO [] ?_ | (refine isA ?_; refine zb rfl ?_) | (refine isL ?_; refine zU rfl (by kernel_rfl) rfl rfl ?_) | (refine za rfl ?_; refine zT rfl (by kernel_rfl) rfl rfl ?_) | refine zD ?_ | refine zB _ rfl (by kernel_rfl) ?_ | refine zV rfl ?_ | refine zW rfl ?_ | refine zC ?_ | with_reducible refine zM ?_ | refine zH ?_ | refine zI ?_ | (with_reducible first | refine zK ?_ | refine zL ?_ | refine zE ?_ | refine zG ?_ | refine zF ?_) | refine zN ?_
      refine zy (α := { k : Nat // k ≤ out.length ∧ ∀ j z, k ≤ j → out[j]? = some z → ¬ leW z x }) (fun k => ⟨[rwL xs, .any, .any, .sl 0 0 out.length, I i, I k.1, .any, .any, .any, .any, .any, .any, .any, .any, .any, .any, .any, .any, .any, .any, .any, .any, .any, .any, .any, .any, .any, .any, .any, .any, .any, .any, .any, .any, .any, .any, .any, .any, .any, .any, .any, .any, .any, .any, .any, .any, .any, .any, .any, .any], [rwR out], 0⟩) (fun k => k.1) ⟨out.length, Nat.le_refl _, fun j z hj hz => absurd (List.getElem?_eq_some_iff.1 hz).1 (by omega)⟩ ?_ ?_
      · exact yq [0] rfl rfl (by decide) (.cons rfl rfl rfl rfl (zg (zR _ _)) .nil) (by repeat' first | exact zh | refine zc ?_ ?_ | exact zl | exact le_refl rfl | exact zm rfl rfl | exact zz rfl)
      · rintro ⟨k, hk, hB⟩
        repeat' first | refine zJ ?_ | refine zA ?_ | refine zO [] ?_ | (refine isA ?_; refine zb rfl ?_) | (refine isL ?_; refine zU rfl (by kernel_rfl) rfl rfl ?_) | (refine za rfl ?_; refine zT rfl (by kernel_rfl) rfl rfl ?_) | refine zD ?_ | refine zB _ rfl (by kernel_rfl) ?_ | refine zV rfl ?_ | refine zW rfl ?_ | refine zC ?_ | with_reducible refine zM ?_ | refine zH ?_ | refine zI ?_ | (with_reducible first | refine zK ?_ | refine zL ?_ | refine zE ?_ | refine zG ?_ | refine zF ?_) | refine zN ?_
        refine yz rfl rfl rfl rfl (fun p1 => ?_) (fun p1 => ?_)
        · have q1 : 0 < k := by have := of_decide_eq_true p1; simp only at this; omega
          obtain ⟨y, hy⟩ : ∃ z, out[k - 1]? = some z := ⟨_, List.getElem?_eq_getElem (by omega)⟩
          have ew : IntKind.i64.wrap ((k : Int) - 1) = ((k - 1 : Nat) : Int) := by rw [IntKind.wrap_i64]; omega
          repeat' first | refine zJ ?_ | refine zA ?_ | refine zO [] ?_ | (refine isA ?_; refine zb rfl ?_) | (refine isL ?_; refine zU rfl (by kernel_rfl) rfl rfl ?_) | (refine za rfl ?_; refine zT rfl (by kernel_rfl) rfl rfl ?_) | (refine yn (x := .tmp 24) ?_; refine zd rfl (yT (t := rwT) (z := x) rfl rfl rfl rfl (Int.natCast_nonneg i) hx) rfl ?_) | (refine ym (x := .tmp 24) rfl ?_; refine zY rfl (by kernel_rfl) rfl (yT (t := rwT) (z := x) rfl rfl rfl rfl (Int.natCast_nonneg i) hx) rfl ?_) | (refine yn (x := .tmp 19) ?_; refine zd rfl (wY (t := rwT) (xs := out) rfl rfl rfl rfl rfl (by rw [ew]; exact Int.natCast_nonneg _) (by rw [ew]; omega)) rfl ?_) | (refine ym (x := .tmp 19) rfl ?_; refine zY rfl (by kernel_rfl) rfl (wY (t := rwT) (xs := out) rfl rfl rfl rfl rfl (by rw [ew]; exact Int.natCast_nonneg _) (by rw [ew]; omega)) rfl ?_) | (refine w4 (x := .tmp 22) ?_; refine zd rfl (y7 (T := rwT) (i := k - 1) (xs := out) (z := y) rfl (by simp only [ew]; rfl) rfl hy) rfl ?_) | (refine vI (x := .tmp 22) rfl ?_; refine zY rfl (by kernel_rfl) rfl (y7 (T := rwT) (i := k - 1) (xs := out) (z := y) rfl (by simp only [ew]; rfl) rfl hy) rfl ?_) | (refine zq 78 ?_; refine zd rfl (zZ rfl (v6 y x) (.cons (.same rfl) (.cons (.same rfl) .nil)) rfl) rfl ?_) | (refine zr 78 rfl ?_; refine zY rfl (by kernel_rfl) rfl (zZ rfl (v6 y x) (.cons (.same rfl) (.cons (.same rfl) .nil)) rfl) rfl ?_) | refine zD ?_ | refine zB _ rfl (by kernel_rfl) ?_ | refine zV rfl ?_ | refine zW rfl ?_ | refine zC ?_ | with_reducible refine zM ?_ | refine zH ?_ | refine zI ?_ | (with_reducible first | refine zK ?_ | refine zL ?_ | refine zE ?_ | refine zG ?_ | refine zF ?_) | refine zN ?_
          refine zf rfl (fun p2 => ?_) (fun p2 => ?_)
          · have q2 := of_decide_eq_true p2
            repeat' first | refine zJ ?_ | refine zA ?_ | refine zO [] ?_ | (refine isA ?_; refine zb rfl ?_) | (refine isL ?_; refine zU rfl (by kernel_rfl) rfl rfl ?_) | (refine za rfl ?_; refine zT rfl (by kernel_rfl) rfl rfl ?_) | refine zD ?_ | refine zB _ rfl (by kernel_rfl) ?_ | refine zV rfl ?_ | refine zW rfl ?_ | refine zC ?_ | with_reducible refine zM ?_ | refine zH ?_ | refine zI ?_ | (with_reducible first | refine zK ?_ | refine zL ?_ | refine zE ?_ | refine zG ?_ | refine zF ?_) | refine zN ?_
            refine ⟨⟨k - 1, by omega, fun j z hj hz => ?_⟩, by simp only; omega, ?_⟩
            · rcases Nat.lt_or_ge j k with hjk | hjk
              · obtain rfl : j = k - 1 := by omega
                rw [hy] at hz
                cases hz
                intro hle
                have : yM y x ≤ 0 := hle
                omega
              · exact hB j z hjk hz
            · exact yq [0] rfl rfl (by decide) (.cons rfl rfl rfl rfl (zg (zR _ _)) .nil) (by
                repeat' first | exact zh | refine zc ?_ ?_ | exact zl | exact le_refl rfl | exact zm rfl rfl | exact yP (congrArg _ ew.symm))
          · have q2 := of_decide_eq_false p2
            have hfin := vx hso hk hB (fun z _ hz => by rw [hy] at hz; cases hz; show yM y x ≤ 0; omega)
            have hkl : k ≤ i := by omega
            repeat' first | refine zJ ?_ | refine zA ?_ | (refine isA ?_; refine zb rfl ?_) | (refine isL ?_; refine zU rfl (by kernel_rfl) rfl rfl ?_) | (refine za rfl ?_; refine zT rfl (by kernel_rfl) rfl rfl ?_) | refine zD ?_ | refine zB _ rfl (by kernel_rfl) ?_ | refine zV rfl ?_ | refine zW rfl ?_ | refine zC ?_ | with_reducible refine zM ?_ | refine zH ?_ | refine zI ?_ | (with_reducible first | refine zK ?_ | refine zL ?_ | refine zE ?_ | refine zG ?_ | refine zF ?_) | refine zN ?_
            refine uU (fun H => H[0]? = some (rwR out)) 10 rfl ?_
            refine yU 5 rfl rfl (by kernel_rfl) rfl (fun _ => rfl) rfl ?_
            refine yU 6 rfl rfl (by kernel_rfl) rfl (fun _ => rfl) rfl ?_
            refine wN 7 rfl rfl (by kernel_rfl) rfl (fun H hG => z8 (l := (k : Int)) (h := (out.length : Int)) rfl rfl hG (Nat.zero_le _) rfl (.yes _ rfl) (.no _) (by omega) (by omega) (by omega)) rfl ?_
            refine yU 0 rfl rfl (by kernel_rfl) rfl (fun _ => rfl) rfl ?_
            refine yU 1 rfl rfl (by kernel_rfl) rfl (fun _ => rfl) rfl ?_
            refine wN 2 rfl rfl (by kernel_rfl) rfl (fun _ _ => yT (t := rwT) (z := x) rfl rfl rfl rfl (Int.natCast_nonneg i) hx) rfl ?_
            refine yU 3 rfl rfl (by kernel_rfl) rfl (fun _ => rfl) rfl ?_
            refine wi 4 (by kernel_rfl) ?_
            refine qt rfl rfl rfl rfl rfl ?_
            refine wi 8 (by kernel_rfl) ?_
            refine mK rfl rfl (yY (t := rwT) (xs := [x]) (ys := out.drop k) rfl rfl rfl rfl (vO rfl hk (by simp) (by simp)) (by simp; omega) rfl) rfl rfl ?_
            refine yU 9 rfl rfl (by kernel_rfl) rfl (fun _ => rfl) rfl ?_
            refine wv (by kernel_rfl) ?_
            repeat' first | refine zJ ?_ | refine zA ?_ | refine zO [] ?_ | (refine isA ?_; refine zb rfl ?_) | (refine isL ?_; refine zU rfl (by kernel_rfl) rfl rfl ?_) | (refine za rfl ?_; refine zT rfl (by kernel_rfl) rfl rfl ?_) | (refine mg ?_; refine zd rfl (z8 (l := (0 : Int)) (h := (k : Int)) rfl rfl rfl (Nat.zero_le _) rfl (.no 0) (.yes _ rfl) (Int.le_refl 0) (Int.natCast_nonneg k) (by omega)) rfl ?_) | (refine mf rfl ?_; refine zY rfl (by kernel_rfl) rfl (z8 (l := (0 : Int)) (h := (k : Int)) rfl rfl rfl (Nat.zero_le _) rfl (.no 0) (.yes _ rfl) (Int.le_refl 0) (Int.natCast_nonneg k) (by omega)) rfl ?_) | (refine x6 ?_; refine zd rfl (yY (t := rwT) (xs := []) (ys := out.take k) rfl rfl rfl rfl (xI rfl hk (by simp) (by simp)) (by simp; omega) rfl) rfl ?_) | (refine xv rfl ?_; refine zY rfl (by kernel_rfl) rfl (yY (t := rwT) (xs := []) (ys := out.take k) rfl rfl rfl rfl (xI rfl hk (by simp) (by simp)) (by simp; omega) rfl) rfl ?_) | (refine x6 ?_; refine zd rfl (yY (t := rwT) (xs := [] ++ out.take k) (ys := [x] ++ out.drop k) rfl rfl rfl rfl (xK rfl) (by simp; omega) rfl) rfl ?_) | (refine xv rfl ?_; refine zY rfl (by kernel_rfl) rfl (yY (t := rwT) (xs := [] ++ out.take k) (ys := [x] ++ out.drop k) rfl rfl rfl rfl (xK rfl) (by simp; omega) rfl) rfl ?_) | refine zD ?_ | refine zB _ rfl (by kernel_rfl) ?_ | refine zV rfl ?_ | refine zW rfl ?_ | refine zC ?_ | with_reducible refine zM ?_ | refine zH ?_ | refine zI ?_ | (with_reducible first | refine zK ?_ | refine zL ?_ | refine zE ?_ | refine zG ?_ | refine zF ?_) | refine zN ?_
            refine ⟨⟨i + 1, hlt⟩, by simp only; omega, ?_⟩
            exact yq [5] rfl rfl (by decide) (.cons rfl rfl rfl rfl (yL (show rwT.flat ([] ++ out.take k ++ ([x] ++ out.drop k)) = rwT.flat (zt (xs.take (i + 1))) by rw [e1, ← hfin]; rfl) (zR _ _)) .nil) (by
              repeat' first | exact zh | refine zc ?_ ?_ | exact zl | exact le_refl rfl | exact zm rfl (show ([] ++ out.take k ++ ([x] ++ out.drop k)).length = (zt (xs.take (i + 1))).length by rw [e1, ← hfin]; rfl) | exact zm rfl (show (zt (xs.take (i + 1))).length = ([] ++ out.take k ++ ([x] ++ out.drop k)).length by rw [e1, ← hfin]; rfl) | exact xP hlt (by omega))
        · have q1 : k = 0 := by have := of_decide_eq_false p1; simp only at this; omega
          have hfin := vx hso hk hB (fun z h0 hz => by omega)
          have hkl : k ≤ i := by omega
          repeat' first | refine zJ ?_ | refine zA ?_ | (refine isA ?_; refine zb rfl ?_) | (refine isL ?_; refine zU rfl (by kernel_rfl) rfl rfl ?_) | (refine za rfl ?_; refine zT rfl (by kernel_rfl) rfl rfl ?_) | refine zD ?_ | refine zB _ rfl (by kernel_rfl) ?_ | refine zV rfl ?_ | refine zW rfl ?_ | refine zC ?_ | with_reducible refine zM ?_ | refine zH ?_ | refine zI ?_ | (with_reducible first | refine zK ?_ | refine zL ?_ | refine zE ?_ | refine zG ?_ | refine zF ?_) | refine zN ?_
          refine uU (fun H => H[0]? = some (rwR out)) 10 rfl ?_
          refine yU 5 rfl rfl (by kernel_rfl) rfl (fun _ => rfl) rfl ?_
          refine yU 6 rfl rfl (by kernel_rfl) rfl (fun _ => rfl) rfl ?_
          refine wN 7 rfl rfl (by kernel_rfl) rfl (fun H hG => z8 (l := (k : Int)) (h := (out.length : Int)) rfl rfl hG (Nat.zero_le _) rfl (.yes _ rfl) (.no _) (by omega) (by omega) (by omega)) rfl ?_
          refine yU 0 rfl rfl (by kernel_rfl) rfl (fun _ => rfl) rfl ?_
          refine yU 1 rfl rfl (by kernel_rfl) rfl (fun _ => rfl) rfl ?_
          refine wN 2 rfl rfl (by kernel_rfl) rfl (fun _ _ => yT (t := rwT) (z := x) rfl rfl rfl rfl (Int.natCast_nonneg i) hx) rfl ?_
          refine yU 3 rfl rfl (by kernel_rfl) rfl (fun _ => rfl) rfl ?_
          refine wi 4 (by kernel_rfl) ?_
          refine qt rfl rfl rfl rfl rfl ?_
          refine wi 8 (by kernel_rfl) ?_
          refine mK rfl rfl (yY (t := rwT) (xs := [x]) (ys := out.drop k) rfl rfl rfl rfl (vO rfl hk (by simp) (by simp)) (by simp; omega) rfl) rfl rfl ?_
          refine yU 9 rfl rfl (by kernel_rfl) rfl (fun _ => rfl) rfl ?_
          refine wv (by kernel_rfl) ?_
          repeat' first | refine zJ ?_ | refine zA ?_ | refine zO [] ?_ | (refine isA ?_; refine zb rfl ?_) | (refine isL ?_; refine zU rfl (by kernel_rfl) rfl rfl ?_) | (refine za rfl ?_; refine zT rfl (by kernel_rfl) rfl rfl ?_) | (refine mg ?_; refine zd rfl (z8 (l := (0 : Int)) (h := (k : Int)) rfl rfl rfl (Nat.zero_le _) rfl (.no 0) (.yes _ rfl) (Int.le_refl 0) (Int.natCast_nonneg k) (by omega)) rfl ?_) | (refine mf rfl ?_; refine zY rfl (by kernel_rfl) rfl (z8 (l := (0 : Int)) (h := (k : Int)) rfl rfl rfl (Nat.zero_le _) rfl (.no 0) (.yes _ rfl) (Int.le_refl 0) (Int.natCast_nonneg k) (by omega)) rfl ?_) | (refine x6 ?_; refine zd rfl (yY (t := rwT) (xs := []) (ys := out.take k) rfl rfl rfl rfl (xI rfl hk (by simp) (by simp)) (by simp; omega) rfl) rfl ?_) | (refine xv rfl ?_; refine zY rfl (by kernel_rfl) rfl (yY (t := rwT) (xs := []) (ys := out.take k) rfl rfl rfl rfl (xI rfl hk (by simp) (by simp)) (by simp; omega) rfl) rfl ?_) | (refine x6 ?_; refine zd rfl (yY (t := rwT) (xs := [] ++ out.take k) (ys := [x] ++ out.drop k) rfl rfl rfl rfl (xK rfl) (by simp; omega) rfl) rfl ?_) | (refine xv rfl ?_; refine zY rfl (by kernel_rfl) rfl (yY (t := rwT) (xs := [] ++ out.take k) (ys := [x] ++ out.drop k) rfl rfl rfl rfl (xK rfl) (by simp; omega) rfl) rfl ?_) | refine zD ?_ | refine zB _ rfl (by kernel_rfl) ?_ | refine zV rfl ?_ | refine zW rfl ?_ | refine zC ?_ | with_reducible refine zM ?_ | refine zH ?_ | refine zI ?_ | (with_reducible first | refine zK ?_ | refine zL ?_ | refine zE ?_ | refine zG ?_ | refine zF ?_) | refine zN ?_
          refine ⟨⟨i + 1, hlt⟩, by simp only; omega, ?_⟩
          exact yq [5] rfl rfl (by decide) (.cons rfl rfl rfl rfl (yL (show rwT.flat ([] ++ out.take k ++ ([x] ++ out.drop k)) = rwT.flat (zt (xs.take (i + 1))) by rw [e1, ← hfin]; rfl) (zR _ _)) .nil) (by
            repeat' first | exact zh | refine zc ?_ ?_ | exact zl | exact le_refl rfl | exact zm rfl (show ([] ++ out.take k ++ ([x] ++ out.drop k)).length = (zt (xs.take (i + 1))).length by rw [e1, ← hfin]; rfl) | exact zm rfl (show (zt (xs.take (i + 1))).length = ([] ++ out.take k ++ ([x] ++ out.drop k)).length by rw [e1, ← hfin]; rfl) | exact xP hlt (by omega))
    · have hge : i = xs.length := by
        have : ¬ ((i : Int) < xs.length) := by simpa using h
        omega
      subst hge
      have e2 : zt (xs.take xs.length) = zt xs := by rw [List.take_length]
      repeat' first | refine zJ ?_ | refine zA ?_ | refine zO [] ?_ | (refine isA ?_; refine zb rfl ?_) | (refine isL ?_; refine zU rfl (by kernel_rfl) rfl rfl ?_) | (refine za rfl ?_; refine zT rfl (by kernel_rfl) rfl rfl ?_) | exact uM (ty := rwT) rfl rfl rfl rfl (by simp only [e2]) e2 (y4 _) | refine zD ?_ | refine zB _ rfl (by kernel_rfl) ?_ | refine zV rfl ?_ | refine zW rfl ?_ | refine zC ?_ | with_reducible refine zM ?_ | refine zH ?_ | refine zI ?_ | (with_reducible first | refine zK ?_ | refine zL ?_ | refine zE ?_ | refine zG ?_ | refine zF ?_) | refine zN ?_
end Go.Proofs.Ytkcicbigpbdjpaa.Ab.Pr
