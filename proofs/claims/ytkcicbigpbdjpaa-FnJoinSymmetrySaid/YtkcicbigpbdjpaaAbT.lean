/-
  The seat's types and functions, as the abstract walk asks for them. Written by wip/tools/abtypes.py.
-/
import Derived.Test.YtkcicbigpbdjpaaProg
import Derived.Test.YtkcicbigpbdjpaaAbN
set_option maxRecDepth 100000
namespace Go.Proofs.Ytkcicbigpbdjpaa.Ab
theorem sc2 : Sc Go.Proofs.Try.prog 2 := sc_of Go.Proofs.Try.underlying2 rfl (by kernel_rfl)
instance : Sc Go.Proofs.Try.prog 2 := sc2
theorem ze2 : Ze Go.Proofs.Try.prog 2 [.int .i64 (0)] := ze_of (z := .int .i64 (0)) (by kernel_rfl) rfl
instance : Ze Go.Proofs.Try.prog 2 [.int .i64 (0)] := ze2
theorem ik2 : Ik Go.Proofs.Try.prog 2 .i64 := ⟨Go.Proofs.Try.underlying2⟩
instance : Ik Go.Proofs.Try.prog 2 .i64 := ik2
theorem sc3 : Sc Go.Proofs.Try.prog 3 := sc_of Go.Proofs.Try.underlying3 rfl (by kernel_rfl)
instance : Sc Go.Proofs.Try.prog 3 := sc3
theorem ze3 : Ze Go.Proofs.Try.prog 3 [.int .i64 (0)] := ze_of (z := .int .i64 (0)) (by kernel_rfl) rfl
instance : Ze Go.Proofs.Try.prog 3 [.int .i64 (0)] := ze3
theorem ik3 : Ik Go.Proofs.Try.prog 3 .i64 := ⟨Go.Proofs.Try.underlying3⟩
instance : Ik Go.Proofs.Try.prog 3 .i64 := ik3
theorem sc4 : Sc Go.Proofs.Try.prog 4 := sc_of Go.Proofs.Try.underlying4 rfl (by kernel_rfl)
instance : Sc Go.Proofs.Try.prog 4 := sc4
theorem ze4 : Ze Go.Proofs.Try.prog 4 [.bool false] := ze_of (z := .bool false) (by kernel_rfl) rfl
instance : Ze Go.Proofs.Try.prog 4 [.bool false] := ze4
theorem bl4 : Go.Proofs.Try.prog.underlying 4 = some .bool := Go.Proofs.Try.underlying4
theorem sc5 : Sc Go.Proofs.Try.prog 5 := sc_of Go.Proofs.Try.underlying5 rfl (by kernel_rfl)
instance : Sc Go.Proofs.Try.prog 5 := sc5
theorem ze5 : Ze Go.Proofs.Try.prog 5 [.int .u8 (0)] := ze_of (z := .int .u8 (0)) (by kernel_rfl) rfl
instance : Ze Go.Proofs.Try.prog 5 [.int .u8 (0)] := ze5
theorem ik5 : Ik Go.Proofs.Try.prog 5 .u8 := ⟨Go.Proofs.Try.underlying5⟩
instance : Ik Go.Proofs.Try.prog 5 .u8 := ik5
theorem sc9 : Sc Go.Proofs.Try.prog 9 := sc_of Go.Proofs.Try.underlying9 rfl (by kernel_rfl)
instance : Sc Go.Proofs.Try.prog 9 := sc9
theorem ze9 : Ze Go.Proofs.Try.prog 9 [.string .empty] := ze_of (z := .string .empty) (by kernel_rfl) rfl
instance : Ze Go.Proofs.Try.prog 9 [.string .empty] := ze9
theorem str9 : Str Go.Proofs.Try.prog 9 := ⟨Go.Proofs.Try.underlying9⟩
instance : Str Go.Proofs.Try.prog 9 := str9
theorem sc12 : Sc Go.Proofs.Try.prog 12 := sc_of Go.Proofs.Try.underlying12 rfl (by kernel_rfl)
instance : Sc Go.Proofs.Try.prog 12 := sc12
theorem ze12 : Ze Go.Proofs.Try.prog 12 [.int .u64 (0)] := ze_of (z := .int .u64 (0)) (by kernel_rfl) rfl
instance : Ze Go.Proofs.Try.prog 12 [.int .u64 (0)] := ze12
theorem ik12 : Ik Go.Proofs.Try.prog 12 .u64 := ⟨Go.Proofs.Try.underlying12⟩
instance : Ik Go.Proofs.Try.prog 12 .u64 := ik12
theorem ag13 : Ag Go.Proofs.Try.prog 13 2 := ag_of Go.Proofs.Try.underlying13 (by kernel_rfl)
instance : Ag Go.Proofs.Try.prog 13 2 := ag13
theorem fd13_0 : Fd Go.Proofs.Try.prog 13 0 0 1 false := fd_of Go.Proofs.Try.underlying13 (off := 0) (ft := 9) rfl Go.Proofs.Try.underlying9 (n := 1) (by kernel_rfl) rfl (by decide)
instance : Fd Go.Proofs.Try.prog 13 0 0 1 false := fd13_0
theorem fd13_1 : Fd Go.Proofs.Try.prog 13 1 1 1 false := fd_of Go.Proofs.Try.underlying13 (off := 1) (ft := 12) rfl Go.Proofs.Try.underlying12 (n := 1) (by kernel_rfl) rfl (by decide)
instance : Fd Go.Proofs.Try.prog 13 1 1 1 false := fd13_1
theorem pl13 : Pl Go.Proofs.Try.prog 13 [(0, 1), (1, 1)] := pl_of Go.Proofs.Try.underlying13 (by kernel_rfl)
instance : Pl Go.Proofs.Try.prog 13 [(0, 1), (1, 1)] := pl13
theorem ze13 : Ze Go.Proofs.Try.prog 13 [.string .empty, .int .u64 (0)] := ze_of (z := .agg #[.string .empty, .int .u64 (0)]) (by kernel_rfl) rfl
instance : Ze Go.Proofs.Try.prog 13 [.string .empty, .int .u64 (0)] := ze13
theorem sc21 : Sc Go.Proofs.Try.prog 21 := sc_of Go.Proofs.Try.underlying21 rfl (by kernel_rfl)
instance : Sc Go.Proofs.Try.prog 21 := sc21
theorem ze21 : Ze Go.Proofs.Try.prog 21 [.int .i32 (0)] := ze_of (z := .int .i32 (0)) (by kernel_rfl) rfl
instance : Ze Go.Proofs.Try.prog 21 [.int .i32 (0)] := ze21
theorem ik21 : Ik Go.Proofs.Try.prog 21 .i32 := ⟨Go.Proofs.Try.underlying21⟩
instance : Ik Go.Proofs.Try.prog 21 .i32 := ik21
theorem sc22 : Sc Go.Proofs.Try.prog 22 := sc_of Go.Proofs.Try.underlying22 rfl (by kernel_rfl)
instance : Sc Go.Proofs.Try.prog 22 := sc22
theorem ze22 : Ze Go.Proofs.Try.prog 22 [.slice none 0 0] := ze_of (z := .slice none 0 0) (by kernel_rfl) rfl
instance : Ze Go.Proofs.Try.prog 22 [.slice none 0 0] := ze22
theorem sl22 : Sl Go.Proofs.Try.prog 22 5 1 1 := sl_of (z := .int .u8 (0)) Go.Proofs.Try.underlying22 (by kernel_rfl) rfl (by decide)
instance : Sl Go.Proofs.Try.prog 22 5 1 1 := sl22
theorem sc24 : Sc Go.Proofs.Try.prog 24 := sc_of Go.Proofs.Try.underlying24 rfl (by kernel_rfl)
instance : Sc Go.Proofs.Try.prog 24 := sc24
theorem ze24 : Ze Go.Proofs.Try.prog 24 [.slice none 0 0] := ze_of (z := .slice none 0 0) (by kernel_rfl) rfl
instance : Ze Go.Proofs.Try.prog 24 [.slice none 0 0] := ze24
theorem sl24 : Sl Go.Proofs.Try.prog 24 71 3 24 := sl_of (z := .agg #[.int .i64 (0), .int .i64 (0), .int .i64 (0)]) Go.Proofs.Try.underlying24 (by kernel_rfl) rfl (by decide)
instance : Sl Go.Proofs.Try.prog 24 71 3 24 := sl24
theorem sc27 : Sc Go.Proofs.Try.prog 27 := sc_of Go.Proofs.Try.underlying27 rfl (by kernel_rfl)
instance : Sc Go.Proofs.Try.prog 27 := sc27
theorem ze27 : Ze Go.Proofs.Try.prog 27 [.slice none 0 0] := ze_of (z := .slice none 0 0) (by kernel_rfl) rfl
instance : Ze Go.Proofs.Try.prog 27 [.slice none 0 0] := ze27
theorem sl27 : Sl Go.Proofs.Try.prog 27 39 1 24 := sl_of (z := .agg #[.slice none 0 0]) Go.Proofs.Try.underlying27 (by kernel_rfl) rfl (by decide)
instance : Sl Go.Proofs.Try.prog 27 39 1 24 := sl27
theorem ag38 : Ag Go.Proofs.Try.prog 38 1 := ag_of Go.Proofs.Try.underlying38 (by kernel_rfl)
instance : Ag Go.Proofs.Try.prog 38 1 := ag38
theorem fd38_0 : Fd Go.Proofs.Try.prog 38 0 0 1 false := fd_of Go.Proofs.Try.underlying38 (off := 0) (ft := 24) rfl Go.Proofs.Try.underlying24 (n := 1) (by kernel_rfl) rfl (by decide)
instance : Fd Go.Proofs.Try.prog 38 0 0 1 false := fd38_0
theorem pl38 : Pl Go.Proofs.Try.prog 38 [(0, 1)] := pl_of Go.Proofs.Try.underlying38 (by kernel_rfl)
instance : Pl Go.Proofs.Try.prog 38 [(0, 1)] := pl38
theorem ze38 : Ze Go.Proofs.Try.prog 38 [.slice none 0 0] := ze_of (z := .agg #[.slice none 0 0]) (by kernel_rfl) rfl
instance : Ze Go.Proofs.Try.prog 38 [.slice none 0 0] := ze38
theorem ag39 : Ag Go.Proofs.Try.prog 39 1 := ag_of Go.Proofs.Try.underlying39 (by kernel_rfl)
instance : Ag Go.Proofs.Try.prog 39 1 := ag39
theorem fd39_0 : Fd Go.Proofs.Try.prog 39 0 0 1 false := fd_of Go.Proofs.Try.underlying39 (off := 0) (ft := 24) rfl Go.Proofs.Try.underlying24 (n := 1) (by kernel_rfl) rfl (by decide)
instance : Fd Go.Proofs.Try.prog 39 0 0 1 false := fd39_0
theorem pl39 : Pl Go.Proofs.Try.prog 39 [(0, 1)] := pl_of Go.Proofs.Try.underlying39 (by kernel_rfl)
instance : Pl Go.Proofs.Try.prog 39 [(0, 1)] := pl39
theorem ze39 : Ze Go.Proofs.Try.prog 39 [.slice none 0 0] := ze_of (z := .agg #[.slice none 0 0]) (by kernel_rfl) rfl
instance : Ze Go.Proofs.Try.prog 39 [.slice none 0 0] := ze39
theorem sc40 : Sc Go.Proofs.Try.prog 40 := sc_of Go.Proofs.Try.underlying40 rfl (by kernel_rfl)
instance : Sc Go.Proofs.Try.prog 40 := sc40
theorem ze40 : Ze Go.Proofs.Try.prog 40 [.slice none 0 0] := ze_of (z := .slice none 0 0) (by kernel_rfl) rfl
instance : Ze Go.Proofs.Try.prog 40 [.slice none 0 0] := ze40
theorem sl40 : Sl Go.Proofs.Try.prog 40 118 3 24 := sl_of (z := .agg #[.int .i64 (0), .int .i64 (0), .int .i64 (0)]) Go.Proofs.Try.underlying40 (by kernel_rfl) rfl (by decide)
instance : Sl Go.Proofs.Try.prog 40 118 3 24 := sl40
theorem sc46 : Sc Go.Proofs.Try.prog 46 := sc_of Go.Proofs.Try.underlying46 rfl (by kernel_rfl)
instance : Sc Go.Proofs.Try.prog 46 := sc46
theorem ze46 : Ze Go.Proofs.Try.prog 46 [.slice none 0 0] := ze_of (z := .slice none 0 0) (by kernel_rfl) rfl
instance : Ze Go.Proofs.Try.prog 46 [.slice none 0 0] := ze46
theorem sl46 : Sl Go.Proofs.Try.prog 46 123 1 24 := sl_of (z := .agg #[.slice none 0 0]) Go.Proofs.Try.underlying46 (by kernel_rfl) rfl (by decide)
instance : Sl Go.Proofs.Try.prog 46 123 1 24 := sl46
theorem sc61 : Sc Go.Proofs.Try.prog 61 := sc_of Go.Proofs.Try.underlying61 rfl (by kernel_rfl)
instance : Sc Go.Proofs.Try.prog 61 := sc61
theorem ze61 : Ze Go.Proofs.Try.prog 61 [.slice none 0 0] := ze_of (z := .slice none 0 0) (by kernel_rfl) rfl
instance : Ze Go.Proofs.Try.prog 61 [.slice none 0 0] := ze61
theorem sl61 : Sl Go.Proofs.Try.prog 61 131 7 56 := sl_of (z := .agg #[.int .i64 (0), .int .i64 (0), .int .i64 (0), .int .i64 (0), .int .i64 (0), .int .i64 (0), .bool false]) Go.Proofs.Try.underlying61 (by kernel_rfl) rfl (by decide)
instance : Sl Go.Proofs.Try.prog 61 131 7 56 := sl61
theorem sc64 : Sc Go.Proofs.Try.prog 64 := sc_of Go.Proofs.Try.underlying64 rfl (by kernel_rfl)
instance : Sc Go.Proofs.Try.prog 64 := sc64
theorem ze64 : Ze Go.Proofs.Try.prog 64 [.slice none 0 0] := ze_of (z := .slice none 0 0) (by kernel_rfl) rfl
instance : Ze Go.Proofs.Try.prog 64 [.slice none 0 0] := ze64
theorem sl64 : Sl Go.Proofs.Try.prog 64 73 7 56 := sl_of (z := .agg #[.int .i64 (0), .int .i64 (0), .int .i64 (0), .int .i64 (0), .int .i64 (0), .int .i64 (0), .bool false]) Go.Proofs.Try.underlying64 (by kernel_rfl) rfl (by decide)
instance : Sl Go.Proofs.Try.prog 64 73 7 56 := sl64
theorem ag70 : Ag Go.Proofs.Try.prog 70 3 := ag_of Go.Proofs.Try.underlying70 (by kernel_rfl)
instance : Ag Go.Proofs.Try.prog 70 3 := ag70
theorem fd70_0 : Fd Go.Proofs.Try.prog 70 0 0 1 false := fd_of Go.Proofs.Try.underlying70 (off := 0) (ft := 3) rfl Go.Proofs.Try.underlying3 (n := 1) (by kernel_rfl) rfl (by decide)
instance : Fd Go.Proofs.Try.prog 70 0 0 1 false := fd70_0
theorem fd70_1 : Fd Go.Proofs.Try.prog 70 1 1 1 false := fd_of Go.Proofs.Try.underlying70 (off := 1) (ft := 3) rfl Go.Proofs.Try.underlying3 (n := 1) (by kernel_rfl) rfl (by decide)
instance : Fd Go.Proofs.Try.prog 70 1 1 1 false := fd70_1
theorem fd70_2 : Fd Go.Proofs.Try.prog 70 2 2 1 false := fd_of Go.Proofs.Try.underlying70 (off := 2) (ft := 3) rfl Go.Proofs.Try.underlying3 (n := 1) (by kernel_rfl) rfl (by decide)
instance : Fd Go.Proofs.Try.prog 70 2 2 1 false := fd70_2
theorem pl70 : Pl Go.Proofs.Try.prog 70 [(0, 1), (1, 1), (2, 1)] := pl_of Go.Proofs.Try.underlying70 (by kernel_rfl)
instance : Pl Go.Proofs.Try.prog 70 [(0, 1), (1, 1), (2, 1)] := pl70
theorem ze70 : Ze Go.Proofs.Try.prog 70 [.int .i64 (0), .int .i64 (0), .int .i64 (0)] := ze_of (z := .agg #[.int .i64 (0), .int .i64 (0), .int .i64 (0)]) (by kernel_rfl) rfl
instance : Ze Go.Proofs.Try.prog 70 [.int .i64 (0), .int .i64 (0), .int .i64 (0)] := ze70
theorem ag71 : Ag Go.Proofs.Try.prog 71 3 := ag_of Go.Proofs.Try.underlying71 (by kernel_rfl)
instance : Ag Go.Proofs.Try.prog 71 3 := ag71
theorem fd71_0 : Fd Go.Proofs.Try.prog 71 0 0 1 false := fd_of Go.Proofs.Try.underlying71 (off := 0) (ft := 3) rfl Go.Proofs.Try.underlying3 (n := 1) (by kernel_rfl) rfl (by decide)
instance : Fd Go.Proofs.Try.prog 71 0 0 1 false := fd71_0
theorem fd71_1 : Fd Go.Proofs.Try.prog 71 1 1 1 false := fd_of Go.Proofs.Try.underlying71 (off := 1) (ft := 3) rfl Go.Proofs.Try.underlying3 (n := 1) (by kernel_rfl) rfl (by decide)
instance : Fd Go.Proofs.Try.prog 71 1 1 1 false := fd71_1
theorem fd71_2 : Fd Go.Proofs.Try.prog 71 2 2 1 false := fd_of Go.Proofs.Try.underlying71 (off := 2) (ft := 3) rfl Go.Proofs.Try.underlying3 (n := 1) (by kernel_rfl) rfl (by decide)
instance : Fd Go.Proofs.Try.prog 71 2 2 1 false := fd71_2
theorem pl71 : Pl Go.Proofs.Try.prog 71 [(0, 1), (1, 1), (2, 1)] := pl_of Go.Proofs.Try.underlying71 (by kernel_rfl)
instance : Pl Go.Proofs.Try.prog 71 [(0, 1), (1, 1), (2, 1)] := pl71
theorem ze71 : Ze Go.Proofs.Try.prog 71 [.int .i64 (0), .int .i64 (0), .int .i64 (0)] := ze_of (z := .agg #[.int .i64 (0), .int .i64 (0), .int .i64 (0)]) (by kernel_rfl) rfl
instance : Ze Go.Proofs.Try.prog 71 [.int .i64 (0), .int .i64 (0), .int .i64 (0)] := ze71
theorem ag72 : Ag Go.Proofs.Try.prog 72 7 := ag_of Go.Proofs.Try.underlying72 (by kernel_rfl)
instance : Ag Go.Proofs.Try.prog 72 7 := ag72
theorem fd72_0 : Fd Go.Proofs.Try.prog 72 0 0 3 true := fd_of Go.Proofs.Try.underlying72 (off := 0) (ft := 71) rfl Go.Proofs.Try.underlying71 (n := 3) (by kernel_rfl) rfl (by decide)
instance : Fd Go.Proofs.Try.prog 72 0 0 3 true := fd72_0
theorem fd72_1 : Fd Go.Proofs.Try.prog 72 1 3 3 true := fd_of Go.Proofs.Try.underlying72 (off := 3) (ft := 71) rfl Go.Proofs.Try.underlying71 (n := 3) (by kernel_rfl) rfl (by decide)
instance : Fd Go.Proofs.Try.prog 72 1 3 3 true := fd72_1
theorem fd72_2 : Fd Go.Proofs.Try.prog 72 2 6 1 false := fd_of Go.Proofs.Try.underlying72 (off := 6) (ft := 4) rfl Go.Proofs.Try.underlying4 (n := 1) (by kernel_rfl) rfl (by decide)
instance : Fd Go.Proofs.Try.prog 72 2 6 1 false := fd72_2
theorem pl72 : Pl Go.Proofs.Try.prog 72 [(0, 3), (3, 3), (6, 1)] := pl_of Go.Proofs.Try.underlying72 (by kernel_rfl)
instance : Pl Go.Proofs.Try.prog 72 [(0, 3), (3, 3), (6, 1)] := pl72
theorem ze72 : Ze Go.Proofs.Try.prog 72 [.int .i64 (0), .int .i64 (0), .int .i64 (0), .int .i64 (0), .int .i64 (0), .int .i64 (0), .bool false] := ze_of (z := .agg #[.int .i64 (0), .int .i64 (0), .int .i64 (0), .int .i64 (0), .int .i64 (0), .int .i64 (0), .bool false]) (by kernel_rfl) rfl
instance : Ze Go.Proofs.Try.prog 72 [.int .i64 (0), .int .i64 (0), .int .i64 (0), .int .i64 (0), .int .i64 (0), .int .i64 (0), .bool false] := ze72
theorem ag73 : Ag Go.Proofs.Try.prog 73 7 := ag_of Go.Proofs.Try.underlying73 (by kernel_rfl)
instance : Ag Go.Proofs.Try.prog 73 7 := ag73
theorem fd73_0 : Fd Go.Proofs.Try.prog 73 0 0 3 true := fd_of Go.Proofs.Try.underlying73 (off := 0) (ft := 71) rfl Go.Proofs.Try.underlying71 (n := 3) (by kernel_rfl) rfl (by decide)
instance : Fd Go.Proofs.Try.prog 73 0 0 3 true := fd73_0
theorem fd73_1 : Fd Go.Proofs.Try.prog 73 1 3 3 true := fd_of Go.Proofs.Try.underlying73 (off := 3) (ft := 71) rfl Go.Proofs.Try.underlying71 (n := 3) (by kernel_rfl) rfl (by decide)
instance : Fd Go.Proofs.Try.prog 73 1 3 3 true := fd73_1
theorem fd73_2 : Fd Go.Proofs.Try.prog 73 2 6 1 false := fd_of Go.Proofs.Try.underlying73 (off := 6) (ft := 4) rfl Go.Proofs.Try.underlying4 (n := 1) (by kernel_rfl) rfl (by decide)
instance : Fd Go.Proofs.Try.prog 73 2 6 1 false := fd73_2
theorem pl73 : Pl Go.Proofs.Try.prog 73 [(0, 3), (3, 3), (6, 1)] := pl_of Go.Proofs.Try.underlying73 (by kernel_rfl)
instance : Pl Go.Proofs.Try.prog 73 [(0, 3), (3, 3), (6, 1)] := pl73
theorem ze73 : Ze Go.Proofs.Try.prog 73 [.int .i64 (0), .int .i64 (0), .int .i64 (0), .int .i64 (0), .int .i64 (0), .int .i64 (0), .bool false] := ze_of (z := .agg #[.int .i64 (0), .int .i64 (0), .int .i64 (0), .int .i64 (0), .int .i64 (0), .int .i64 (0), .bool false]) (by kernel_rfl) rfl
instance : Ze Go.Proofs.Try.prog 73 [.int .i64 (0), .int .i64 (0), .int .i64 (0), .int .i64 (0), .int .i64 (0), .int .i64 (0), .bool false] := ze73
theorem sc82 : Sc Go.Proofs.Try.prog 82 := sc_of Go.Proofs.Try.underlying82 rfl (by kernel_rfl)
instance : Sc Go.Proofs.Try.prog 82 := sc82
theorem ze82 : Ze Go.Proofs.Try.prog 82 [.slice none 0 0] := ze_of (z := .slice none 0 0) (by kernel_rfl) rfl
instance : Ze Go.Proofs.Try.prog 82 [.slice none 0 0] := ze82
theorem sl82 : Sl Go.Proofs.Try.prog 82 139 5 40 := sl_of (z := .agg #[.int .i64 (0), .int .i64 (0), .int .i64 (0), .int .i64 (0), .int .i64 (0)]) Go.Proofs.Try.underlying82 (by kernel_rfl) rfl (by decide)
instance : Sl Go.Proofs.Try.prog 82 139 5 40 := sl82
theorem sc84 : Sc Go.Proofs.Try.prog 84 := sc_of Go.Proofs.Try.underlying84 rfl (by kernel_rfl)
instance : Sc Go.Proofs.Try.prog 84 := sc84
theorem ze84 : Ze Go.Proofs.Try.prog 84 [.slice none 0 0] := ze_of (z := .slice none 0 0) (by kernel_rfl) rfl
instance : Ze Go.Proofs.Try.prog 84 [.slice none 0 0] := ze84
theorem sl84 : Sl Go.Proofs.Try.prog 84 95 5 40 := sl_of (z := .agg #[.int .i64 (0), .int .i64 (0), .int .i64 (0), .int .i64 (0), .int .i64 (0)]) Go.Proofs.Try.underlying84 (by kernel_rfl) rfl (by decide)
instance : Sl Go.Proofs.Try.prog 84 95 5 40 := sl84
theorem ag94 : Ag Go.Proofs.Try.prog 94 5 := ag_of Go.Proofs.Try.underlying94 (by kernel_rfl)
instance : Ag Go.Proofs.Try.prog 94 5 := ag94
theorem fd94_0 : Fd Go.Proofs.Try.prog 94 0 0 1 false := fd_of Go.Proofs.Try.underlying94 (off := 0) (ft := 3) rfl Go.Proofs.Try.underlying3 (n := 1) (by kernel_rfl) rfl (by decide)
instance : Fd Go.Proofs.Try.prog 94 0 0 1 false := fd94_0
theorem fd94_1 : Fd Go.Proofs.Try.prog 94 1 1 1 false := fd_of Go.Proofs.Try.underlying94 (off := 1) (ft := 3) rfl Go.Proofs.Try.underlying3 (n := 1) (by kernel_rfl) rfl (by decide)
instance : Fd Go.Proofs.Try.prog 94 1 1 1 false := fd94_1
theorem fd94_2 : Fd Go.Proofs.Try.prog 94 2 2 1 false := fd_of Go.Proofs.Try.underlying94 (off := 2) (ft := 3) rfl Go.Proofs.Try.underlying3 (n := 1) (by kernel_rfl) rfl (by decide)
instance : Fd Go.Proofs.Try.prog 94 2 2 1 false := fd94_2
theorem fd94_3 : Fd Go.Proofs.Try.prog 94 3 3 1 false := fd_of Go.Proofs.Try.underlying94 (off := 3) (ft := 3) rfl Go.Proofs.Try.underlying3 (n := 1) (by kernel_rfl) rfl (by decide)
instance : Fd Go.Proofs.Try.prog 94 3 3 1 false := fd94_3
theorem fd94_4 : Fd Go.Proofs.Try.prog 94 4 4 1 false := fd_of Go.Proofs.Try.underlying94 (off := 4) (ft := 3) rfl Go.Proofs.Try.underlying3 (n := 1) (by kernel_rfl) rfl (by decide)
instance : Fd Go.Proofs.Try.prog 94 4 4 1 false := fd94_4
theorem pl94 : Pl Go.Proofs.Try.prog 94 [(0, 1), (1, 1), (2, 1), (3, 1), (4, 1)] := pl_of Go.Proofs.Try.underlying94 (by kernel_rfl)
instance : Pl Go.Proofs.Try.prog 94 [(0, 1), (1, 1), (2, 1), (3, 1), (4, 1)] := pl94
theorem ze94 : Ze Go.Proofs.Try.prog 94 [.int .i64 (0), .int .i64 (0), .int .i64 (0), .int .i64 (0), .int .i64 (0)] := ze_of (z := .agg #[.int .i64 (0), .int .i64 (0), .int .i64 (0), .int .i64 (0), .int .i64 (0)]) (by kernel_rfl) rfl
instance : Ze Go.Proofs.Try.prog 94 [.int .i64 (0), .int .i64 (0), .int .i64 (0), .int .i64 (0), .int .i64 (0)] := ze94
theorem ag95 : Ag Go.Proofs.Try.prog 95 5 := ag_of Go.Proofs.Try.underlying95 (by kernel_rfl)
instance : Ag Go.Proofs.Try.prog 95 5 := ag95
theorem fd95_0 : Fd Go.Proofs.Try.prog 95 0 0 1 false := fd_of Go.Proofs.Try.underlying95 (off := 0) (ft := 3) rfl Go.Proofs.Try.underlying3 (n := 1) (by kernel_rfl) rfl (by decide)
instance : Fd Go.Proofs.Try.prog 95 0 0 1 false := fd95_0
theorem fd95_1 : Fd Go.Proofs.Try.prog 95 1 1 1 false := fd_of Go.Proofs.Try.underlying95 (off := 1) (ft := 3) rfl Go.Proofs.Try.underlying3 (n := 1) (by kernel_rfl) rfl (by decide)
instance : Fd Go.Proofs.Try.prog 95 1 1 1 false := fd95_1
theorem fd95_2 : Fd Go.Proofs.Try.prog 95 2 2 1 false := fd_of Go.Proofs.Try.underlying95 (off := 2) (ft := 3) rfl Go.Proofs.Try.underlying3 (n := 1) (by kernel_rfl) rfl (by decide)
instance : Fd Go.Proofs.Try.prog 95 2 2 1 false := fd95_2
theorem fd95_3 : Fd Go.Proofs.Try.prog 95 3 3 1 false := fd_of Go.Proofs.Try.underlying95 (off := 3) (ft := 3) rfl Go.Proofs.Try.underlying3 (n := 1) (by kernel_rfl) rfl (by decide)
instance : Fd Go.Proofs.Try.prog 95 3 3 1 false := fd95_3
theorem fd95_4 : Fd Go.Proofs.Try.prog 95 4 4 1 false := fd_of Go.Proofs.Try.underlying95 (off := 4) (ft := 3) rfl Go.Proofs.Try.underlying3 (n := 1) (by kernel_rfl) rfl (by decide)
instance : Fd Go.Proofs.Try.prog 95 4 4 1 false := fd95_4
theorem pl95 : Pl Go.Proofs.Try.prog 95 [(0, 1), (1, 1), (2, 1), (3, 1), (4, 1)] := pl_of Go.Proofs.Try.underlying95 (by kernel_rfl)
instance : Pl Go.Proofs.Try.prog 95 [(0, 1), (1, 1), (2, 1), (3, 1), (4, 1)] := pl95
theorem ze95 : Ze Go.Proofs.Try.prog 95 [.int .i64 (0), .int .i64 (0), .int .i64 (0), .int .i64 (0), .int .i64 (0)] := ze_of (z := .agg #[.int .i64 (0), .int .i64 (0), .int .i64 (0), .int .i64 (0), .int .i64 (0)]) (by kernel_rfl) rfl
instance : Ze Go.Proofs.Try.prog 95 [.int .i64 (0), .int .i64 (0), .int .i64 (0), .int .i64 (0), .int .i64 (0)] := ze95
theorem sc104 : Sc Go.Proofs.Try.prog 104 := sc_of Go.Proofs.Try.underlying104 rfl (by kernel_rfl)
instance : Sc Go.Proofs.Try.prog 104 := sc104
theorem ze104 : Ze Go.Proofs.Try.prog 104 [.pointer none] := ze_of (z := .pointer none) (by kernel_rfl) rfl
instance : Ze Go.Proofs.Try.prog 104 [.pointer none] := ze104
theorem sc114 : Sc Go.Proofs.Try.prog 114 := sc_of Go.Proofs.Try.underlying114 rfl (by kernel_rfl)
instance : Sc Go.Proofs.Try.prog 114 := sc114
theorem ze114 : Ze Go.Proofs.Try.prog 114 [.slice none 0 0] := ze_of (z := .slice none 0 0) (by kernel_rfl) rfl
instance : Ze Go.Proofs.Try.prog 114 [.slice none 0 0] := ze114
theorem sl114 : Sl Go.Proofs.Try.prog 114 9 1 16 := sl_of (z := .string .empty) Go.Proofs.Try.underlying114 (by kernel_rfl) rfl (by decide)
instance : Sl Go.Proofs.Try.prog 114 9 1 16 := sl114
theorem ag118 : Ag Go.Proofs.Try.prog 118 3 := ag_of Go.Proofs.Try.underlying118 (by kernel_rfl)
instance : Ag Go.Proofs.Try.prog 118 3 := ag118
theorem fd118_0 : Fd Go.Proofs.Try.prog 118 0 0 1 false := fd_of Go.Proofs.Try.underlying118 (off := 0) (ft := 3) rfl Go.Proofs.Try.underlying3 (n := 1) (by kernel_rfl) rfl (by decide)
instance : Fd Go.Proofs.Try.prog 118 0 0 1 false := fd118_0
theorem fd118_1 : Fd Go.Proofs.Try.prog 118 1 1 1 false := fd_of Go.Proofs.Try.underlying118 (off := 1) (ft := 3) rfl Go.Proofs.Try.underlying3 (n := 1) (by kernel_rfl) rfl (by decide)
instance : Fd Go.Proofs.Try.prog 118 1 1 1 false := fd118_1
theorem fd118_2 : Fd Go.Proofs.Try.prog 118 2 2 1 false := fd_of Go.Proofs.Try.underlying118 (off := 2) (ft := 3) rfl Go.Proofs.Try.underlying3 (n := 1) (by kernel_rfl) rfl (by decide)
instance : Fd Go.Proofs.Try.prog 118 2 2 1 false := fd118_2
theorem pl118 : Pl Go.Proofs.Try.prog 118 [(0, 1), (1, 1), (2, 1)] := pl_of Go.Proofs.Try.underlying118 (by kernel_rfl)
instance : Pl Go.Proofs.Try.prog 118 [(0, 1), (1, 1), (2, 1)] := pl118
theorem ze118 : Ze Go.Proofs.Try.prog 118 [.int .i64 (0), .int .i64 (0), .int .i64 (0)] := ze_of (z := .agg #[.int .i64 (0), .int .i64 (0), .int .i64 (0)]) (by kernel_rfl) rfl
instance : Ze Go.Proofs.Try.prog 118 [.int .i64 (0), .int .i64 (0), .int .i64 (0)] := ze118
theorem ag122 : Ag Go.Proofs.Try.prog 122 1 := ag_of Go.Proofs.Try.underlying122 (by kernel_rfl)
instance : Ag Go.Proofs.Try.prog 122 1 := ag122
theorem fd122_0 : Fd Go.Proofs.Try.prog 122 0 0 1 false := fd_of Go.Proofs.Try.underlying122 (off := 0) (ft := 40) rfl Go.Proofs.Try.underlying40 (n := 1) (by kernel_rfl) rfl (by decide)
instance : Fd Go.Proofs.Try.prog 122 0 0 1 false := fd122_0
theorem pl122 : Pl Go.Proofs.Try.prog 122 [(0, 1)] := pl_of Go.Proofs.Try.underlying122 (by kernel_rfl)
instance : Pl Go.Proofs.Try.prog 122 [(0, 1)] := pl122
theorem ze122 : Ze Go.Proofs.Try.prog 122 [.slice none 0 0] := ze_of (z := .agg #[.slice none 0 0]) (by kernel_rfl) rfl
instance : Ze Go.Proofs.Try.prog 122 [.slice none 0 0] := ze122
theorem ag123 : Ag Go.Proofs.Try.prog 123 1 := ag_of Go.Proofs.Try.underlying123 (by kernel_rfl)
instance : Ag Go.Proofs.Try.prog 123 1 := ag123
theorem fd123_0 : Fd Go.Proofs.Try.prog 123 0 0 1 false := fd_of Go.Proofs.Try.underlying123 (off := 0) (ft := 40) rfl Go.Proofs.Try.underlying40 (n := 1) (by kernel_rfl) rfl (by decide)
instance : Fd Go.Proofs.Try.prog 123 0 0 1 false := fd123_0
theorem pl123 : Pl Go.Proofs.Try.prog 123 [(0, 1)] := pl_of Go.Proofs.Try.underlying123 (by kernel_rfl)
instance : Pl Go.Proofs.Try.prog 123 [(0, 1)] := pl123
theorem ze123 : Ze Go.Proofs.Try.prog 123 [.slice none 0 0] := ze_of (z := .agg #[.slice none 0 0]) (by kernel_rfl) rfl
instance : Ze Go.Proofs.Try.prog 123 [.slice none 0 0] := ze123
theorem sc127 : Sc Go.Proofs.Try.prog 127 := sc_of Go.Proofs.Try.underlying127 rfl (by kernel_rfl)
instance : Sc Go.Proofs.Try.prog 127 := sc127
theorem ze127 : Ze Go.Proofs.Try.prog 127 [.slice none 0 0] := ze_of (z := .slice none 0 0) (by kernel_rfl) rfl
instance : Ze Go.Proofs.Try.prog 127 [.slice none 0 0] := ze127
theorem sl127 : Sl Go.Proofs.Try.prog 127 3 1 8 := sl_of (z := .int .i64 (0)) Go.Proofs.Try.underlying127 (by kernel_rfl) rfl (by decide)
instance : Sl Go.Proofs.Try.prog 127 3 1 8 := sl127
theorem ag130 : Ag Go.Proofs.Try.prog 130 7 := ag_of Go.Proofs.Try.underlying130 (by kernel_rfl)
instance : Ag Go.Proofs.Try.prog 130 7 := ag130
theorem fd130_0 : Fd Go.Proofs.Try.prog 130 0 0 3 true := fd_of Go.Proofs.Try.underlying130 (off := 0) (ft := 118) rfl Go.Proofs.Try.underlying118 (n := 3) (by kernel_rfl) rfl (by decide)
instance : Fd Go.Proofs.Try.prog 130 0 0 3 true := fd130_0
theorem fd130_1 : Fd Go.Proofs.Try.prog 130 1 3 3 true := fd_of Go.Proofs.Try.underlying130 (off := 3) (ft := 118) rfl Go.Proofs.Try.underlying118 (n := 3) (by kernel_rfl) rfl (by decide)
instance : Fd Go.Proofs.Try.prog 130 1 3 3 true := fd130_1
theorem fd130_2 : Fd Go.Proofs.Try.prog 130 2 6 1 false := fd_of Go.Proofs.Try.underlying130 (off := 6) (ft := 4) rfl Go.Proofs.Try.underlying4 (n := 1) (by kernel_rfl) rfl (by decide)
instance : Fd Go.Proofs.Try.prog 130 2 6 1 false := fd130_2
theorem pl130 : Pl Go.Proofs.Try.prog 130 [(0, 3), (3, 3), (6, 1)] := pl_of Go.Proofs.Try.underlying130 (by kernel_rfl)
instance : Pl Go.Proofs.Try.prog 130 [(0, 3), (3, 3), (6, 1)] := pl130
theorem ze130 : Ze Go.Proofs.Try.prog 130 [.int .i64 (0), .int .i64 (0), .int .i64 (0), .int .i64 (0), .int .i64 (0), .int .i64 (0), .bool false] := ze_of (z := .agg #[.int .i64 (0), .int .i64 (0), .int .i64 (0), .int .i64 (0), .int .i64 (0), .int .i64 (0), .bool false]) (by kernel_rfl) rfl
instance : Ze Go.Proofs.Try.prog 130 [.int .i64 (0), .int .i64 (0), .int .i64 (0), .int .i64 (0), .int .i64 (0), .int .i64 (0), .bool false] := ze130
theorem ag131 : Ag Go.Proofs.Try.prog 131 7 := ag_of Go.Proofs.Try.underlying131 (by kernel_rfl)
instance : Ag Go.Proofs.Try.prog 131 7 := ag131
theorem fd131_0 : Fd Go.Proofs.Try.prog 131 0 0 3 true := fd_of Go.Proofs.Try.underlying131 (off := 0) (ft := 118) rfl Go.Proofs.Try.underlying118 (n := 3) (by kernel_rfl) rfl (by decide)
instance : Fd Go.Proofs.Try.prog 131 0 0 3 true := fd131_0
theorem fd131_1 : Fd Go.Proofs.Try.prog 131 1 3 3 true := fd_of Go.Proofs.Try.underlying131 (off := 3) (ft := 118) rfl Go.Proofs.Try.underlying118 (n := 3) (by kernel_rfl) rfl (by decide)
instance : Fd Go.Proofs.Try.prog 131 1 3 3 true := fd131_1
theorem fd131_2 : Fd Go.Proofs.Try.prog 131 2 6 1 false := fd_of Go.Proofs.Try.underlying131 (off := 6) (ft := 4) rfl Go.Proofs.Try.underlying4 (n := 1) (by kernel_rfl) rfl (by decide)
instance : Fd Go.Proofs.Try.prog 131 2 6 1 false := fd131_2
theorem pl131 : Pl Go.Proofs.Try.prog 131 [(0, 3), (3, 3), (6, 1)] := pl_of Go.Proofs.Try.underlying131 (by kernel_rfl)
instance : Pl Go.Proofs.Try.prog 131 [(0, 3), (3, 3), (6, 1)] := pl131
theorem ze131 : Ze Go.Proofs.Try.prog 131 [.int .i64 (0), .int .i64 (0), .int .i64 (0), .int .i64 (0), .int .i64 (0), .int .i64 (0), .bool false] := ze_of (z := .agg #[.int .i64 (0), .int .i64 (0), .int .i64 (0), .int .i64 (0), .int .i64 (0), .int .i64 (0), .bool false]) (by kernel_rfl) rfl
instance : Ze Go.Proofs.Try.prog 131 [.int .i64 (0), .int .i64 (0), .int .i64 (0), .int .i64 (0), .int .i64 (0), .int .i64 (0), .bool false] := ze131
theorem ag139 : Ag Go.Proofs.Try.prog 139 5 := ag_of Go.Proofs.Try.underlying139 (by kernel_rfl)
instance : Ag Go.Proofs.Try.prog 139 5 := ag139
theorem fd139_0 : Fd Go.Proofs.Try.prog 139 0 0 1 false := fd_of Go.Proofs.Try.underlying139 (off := 0) (ft := 3) rfl Go.Proofs.Try.underlying3 (n := 1) (by kernel_rfl) rfl (by decide)
instance : Fd Go.Proofs.Try.prog 139 0 0 1 false := fd139_0
theorem fd139_1 : Fd Go.Proofs.Try.prog 139 1 1 1 false := fd_of Go.Proofs.Try.underlying139 (off := 1) (ft := 3) rfl Go.Proofs.Try.underlying3 (n := 1) (by kernel_rfl) rfl (by decide)
instance : Fd Go.Proofs.Try.prog 139 1 1 1 false := fd139_1
theorem fd139_2 : Fd Go.Proofs.Try.prog 139 2 2 1 false := fd_of Go.Proofs.Try.underlying139 (off := 2) (ft := 3) rfl Go.Proofs.Try.underlying3 (n := 1) (by kernel_rfl) rfl (by decide)
instance : Fd Go.Proofs.Try.prog 139 2 2 1 false := fd139_2
theorem fd139_3 : Fd Go.Proofs.Try.prog 139 3 3 1 false := fd_of Go.Proofs.Try.underlying139 (off := 3) (ft := 3) rfl Go.Proofs.Try.underlying3 (n := 1) (by kernel_rfl) rfl (by decide)
instance : Fd Go.Proofs.Try.prog 139 3 3 1 false := fd139_3
theorem fd139_4 : Fd Go.Proofs.Try.prog 139 4 4 1 false := fd_of Go.Proofs.Try.underlying139 (off := 4) (ft := 3) rfl Go.Proofs.Try.underlying3 (n := 1) (by kernel_rfl) rfl (by decide)
instance : Fd Go.Proofs.Try.prog 139 4 4 1 false := fd139_4
theorem pl139 : Pl Go.Proofs.Try.prog 139 [(0, 1), (1, 1), (2, 1), (3, 1), (4, 1)] := pl_of Go.Proofs.Try.underlying139 (by kernel_rfl)
instance : Pl Go.Proofs.Try.prog 139 [(0, 1), (1, 1), (2, 1), (3, 1), (4, 1)] := pl139
theorem ze139 : Ze Go.Proofs.Try.prog 139 [.int .i64 (0), .int .i64 (0), .int .i64 (0), .int .i64 (0), .int .i64 (0)] := ze_of (z := .agg #[.int .i64 (0), .int .i64 (0), .int .i64 (0), .int .i64 (0), .int .i64 (0)]) (by kernel_rfl) rfl
instance : Ze Go.Proofs.Try.prog 139 [.int .i64 (0), .int .i64 (0), .int .i64 (0), .int .i64 (0), .int .i64 (0)] := ze139
theorem ag153 : Ag Go.Proofs.Try.prog 153 3 := ag_of Go.Proofs.Try.underlying153 (by kernel_rfl)
instance : Ag Go.Proofs.Try.prog 153 3 := ag153
theorem fd153_0 : Fd Go.Proofs.Try.prog 153 0 0 1 false := fd_of Go.Proofs.Try.underlying153 (off := 0) (ft := 22) rfl Go.Proofs.Try.underlying22 (n := 1) (by kernel_rfl) rfl (by decide)
instance : Fd Go.Proofs.Try.prog 153 0 0 1 false := fd153_0
theorem fd153_1 : Fd Go.Proofs.Try.prog 153 1 1 1 false := fd_of Go.Proofs.Try.underlying153 (off := 1) (ft := 3) rfl Go.Proofs.Try.underlying3 (n := 1) (by kernel_rfl) rfl (by decide)
instance : Fd Go.Proofs.Try.prog 153 1 1 1 false := fd153_1
theorem fd153_2 : Fd Go.Proofs.Try.prog 153 2 2 1 false := fd_of Go.Proofs.Try.underlying153 (off := 2) (ft := 3) rfl Go.Proofs.Try.underlying3 (n := 1) (by kernel_rfl) rfl (by decide)
instance : Fd Go.Proofs.Try.prog 153 2 2 1 false := fd153_2
theorem pl153 : Pl Go.Proofs.Try.prog 153 [(0, 1), (1, 1), (2, 1)] := pl_of Go.Proofs.Try.underlying153 (by kernel_rfl)
instance : Pl Go.Proofs.Try.prog 153 [(0, 1), (1, 1), (2, 1)] := pl153
theorem ze153 : Ze Go.Proofs.Try.prog 153 [.slice none 0 0, .int .i64 (0), .int .i64 (0)] := ze_of (z := .agg #[.slice none 0 0, .int .i64 (0), .int .i64 (0)]) (by kernel_rfl) rfl
instance : Ze Go.Proofs.Try.prog 153 [.slice none 0 0, .int .i64 (0), .int .i64 (0)] := ze153
theorem ag154 : Ag Go.Proofs.Try.prog 154 3 := ag_of Go.Proofs.Try.underlying154 (by kernel_rfl)
instance : Ag Go.Proofs.Try.prog 154 3 := ag154
theorem fd154_0 : Fd Go.Proofs.Try.prog 154 0 0 1 false := fd_of Go.Proofs.Try.underlying154 (off := 0) (ft := 22) rfl Go.Proofs.Try.underlying22 (n := 1) (by kernel_rfl) rfl (by decide)
instance : Fd Go.Proofs.Try.prog 154 0 0 1 false := fd154_0
theorem fd154_1 : Fd Go.Proofs.Try.prog 154 1 1 1 false := fd_of Go.Proofs.Try.underlying154 (off := 1) (ft := 3) rfl Go.Proofs.Try.underlying3 (n := 1) (by kernel_rfl) rfl (by decide)
instance : Fd Go.Proofs.Try.prog 154 1 1 1 false := fd154_1
theorem fd154_2 : Fd Go.Proofs.Try.prog 154 2 2 1 false := fd_of Go.Proofs.Try.underlying154 (off := 2) (ft := 3) rfl Go.Proofs.Try.underlying3 (n := 1) (by kernel_rfl) rfl (by decide)
instance : Fd Go.Proofs.Try.prog 154 2 2 1 false := fd154_2
theorem pl154 : Pl Go.Proofs.Try.prog 154 [(0, 1), (1, 1), (2, 1)] := pl_of Go.Proofs.Try.underlying154 (by kernel_rfl)
instance : Pl Go.Proofs.Try.prog 154 [(0, 1), (1, 1), (2, 1)] := pl154
theorem ze154 : Ze Go.Proofs.Try.prog 154 [.slice none 0 0, .int .i64 (0), .int .i64 (0)] := ze_of (z := .agg #[.slice none 0 0, .int .i64 (0), .int .i64 (0)]) (by kernel_rfl) rfl
instance : Ze Go.Proofs.Try.prog 154 [.slice none 0 0, .int .i64 (0), .int .i64 (0)] := ze154
theorem sc159 : Sc Go.Proofs.Try.prog 159 := sc_of Go.Proofs.Try.underlying159 rfl (by kernel_rfl)
instance : Sc Go.Proofs.Try.prog 159 := sc159
theorem ze159 : Ze Go.Proofs.Try.prog 159 [.int .u64 (0)] := ze_of (z := .int .u64 (0)) (by kernel_rfl) rfl
instance : Ze Go.Proofs.Try.prog 159 [.int .u64 (0)] := ze159
theorem ik159 : Ik Go.Proofs.Try.prog 159 .u64 := ⟨Go.Proofs.Try.underlying159⟩
instance : Ik Go.Proofs.Try.prog 159 .u64 := ik159
theorem sc164 : Sc Go.Proofs.Try.prog 164 := sc_of Go.Proofs.Try.underlying164 rfl (by kernel_rfl)
instance : Sc Go.Proofs.Try.prog 164 := sc164
theorem ze164 : Ze Go.Proofs.Try.prog 164 [.int .i64 (0)] := ze_of (z := .int .i64 (0)) (by kernel_rfl) rfl
instance : Ze Go.Proofs.Try.prog 164 [.int .i64 (0)] := ze164
theorem ik164 : Ik Go.Proofs.Try.prog 164 .i64 := ⟨Go.Proofs.Try.underlying164⟩
instance : Ik Go.Proofs.Try.prog 164 .i64 := ik164
theorem sc171 : Sc Go.Proofs.Try.prog 171 := sc_of Go.Proofs.Try.underlying171 rfl (by kernel_rfl)
instance : Sc Go.Proofs.Try.prog 171 := sc171
theorem ze171 : Ze Go.Proofs.Try.prog 171 [.int .u32 (0)] := ze_of (z := .int .u32 (0)) (by kernel_rfl) rfl
instance : Ze Go.Proofs.Try.prog 171 [.int .u32 (0)] := ze171
theorem ik171 : Ik Go.Proofs.Try.prog 171 .u32 := ⟨Go.Proofs.Try.underlying171⟩
instance : Ik Go.Proofs.Try.prog 171 .u32 := ik171
theorem sc173 : Sc Go.Proofs.Try.prog 173 := sc_of Go.Proofs.Try.underlying173 rfl (by kernel_rfl)
instance : Sc Go.Proofs.Try.prog 173 := sc173
theorem ze173 : Ze Go.Proofs.Try.prog 173 [.int .u64 (0)] := ze_of (z := .int .u64 (0)) (by kernel_rfl) rfl
instance : Ze Go.Proofs.Try.prog 173 [.int .u64 (0)] := ze173
theorem ik173 : Ik Go.Proofs.Try.prog 173 .u64 := ⟨Go.Proofs.Try.underlying173⟩
instance : Ik Go.Proofs.Try.prog 173 .u64 := ik173
theorem sc174 : Sc Go.Proofs.Try.prog 174 := sc_of Go.Proofs.Try.underlying174 rfl (by kernel_rfl)
instance : Sc Go.Proofs.Try.prog 174 := sc174
theorem ze174 : Ze Go.Proofs.Try.prog 174 [.int .u64 (0)] := ze_of (z := .int .u64 (0)) (by kernel_rfl) rfl
instance : Ze Go.Proofs.Try.prog 174 [.int .u64 (0)] := ze174
theorem ik174 : Ik Go.Proofs.Try.prog 174 .u64 := ⟨Go.Proofs.Try.underlying174⟩
instance : Ik Go.Proofs.Try.prog 174 .u64 := ik174
theorem sc178 : Sc Go.Proofs.Try.prog 178 := sc_of Go.Proofs.Try.underlying178 rfl (by kernel_rfl)
instance : Sc Go.Proofs.Try.prog 178 := sc178
theorem ze178 : Ze Go.Proofs.Try.prog 178 [.pointer none] := ze_of (z := .pointer none) (by kernel_rfl) rfl
instance : Ze Go.Proofs.Try.prog 178 [.pointer none] := ze178
theorem sc180 : Sc Go.Proofs.Try.prog 180 := sc_of Go.Proofs.Try.underlying180 rfl (by kernel_rfl)
instance : Sc Go.Proofs.Try.prog 180 := sc180
theorem ze180 : Ze Go.Proofs.Try.prog 180 [.pointer none] := ze_of (z := .pointer none) (by kernel_rfl) rfl
instance : Ze Go.Proofs.Try.prog 180 [.pointer none] := ze180
theorem sc193 : Sc Go.Proofs.Try.prog 193 := sc_of Go.Proofs.Try.underlying193 rfl (by kernel_rfl)
instance : Sc Go.Proofs.Try.prog 193 := sc193
theorem ze193 : Ze Go.Proofs.Try.prog 193 [.pointer none] := ze_of (z := .pointer none) (by kernel_rfl) rfl
instance : Ze Go.Proofs.Try.prog 193 [.pointer none] := ze193
def tab : Tab where
  ag := [(13, 2), (38, 1), (39, 1), (70, 3), (71, 3), (72, 7), (73, 7), (94, 5), (95, 5), (118, 3), (122, 1), (123, 1), (130, 7), (131, 7), (139, 5), (153, 3), (154, 3)]
  sc := [2, 3, 4, 5, 9, 12, 21, 22, 24, 27, 40, 46, 61, 64, 82, 84, 104, 114, 127, 159, 164, 171, 173, 174, 178, 180, 193]
  fd := [((13, 0), (0, 1, false)), ((13, 1), (1, 1, false)), ((38, 0), (0, 1, false)), ((39, 0), (0, 1, false)), ((70, 0), (0, 1, false)), ((70, 1), (1, 1, false)), ((70, 2), (2, 1, false)), ((71, 0), (0, 1, false)), ((71, 1), (1, 1, false)), ((71, 2), (2, 1, false)), ((72, 0), (0, 3, true)), ((72, 1), (3, 3, true)), ((72, 2), (6, 1, false)), ((73, 0), (0, 3, true)), ((73, 1), (3, 3, true)), ((73, 2), (6, 1, false)), ((94, 0), (0, 1, false)), ((94, 1), (1, 1, false)), ((94, 2), (2, 1, false)), ((94, 3), (3, 1, false)), ((94, 4), (4, 1, false)), ((95, 0), (0, 1, false)), ((95, 1), (1, 1, false)), ((95, 2), (2, 1, false)), ((95, 3), (3, 1, false)), ((95, 4), (4, 1, false)), ((118, 0), (0, 1, false)), ((118, 1), (1, 1, false)), ((118, 2), (2, 1, false)), ((122, 0), (0, 1, false)), ((123, 0), (0, 1, false)), ((130, 0), (0, 3, true)), ((130, 1), (3, 3, true)), ((130, 2), (6, 1, false)), ((131, 0), (0, 3, true)), ((131, 1), (3, 3, true)), ((131, 2), (6, 1, false)), ((139, 0), (0, 1, false)), ((139, 1), (1, 1, false)), ((139, 2), (2, 1, false)), ((139, 3), (3, 1, false)), ((139, 4), (4, 1, false)), ((153, 0), (0, 1, false)), ((153, 1), (1, 1, false)), ((153, 2), (2, 1, false)), ((154, 0), (0, 1, false)), ((154, 1), (1, 1, false)), ((154, 2), (2, 1, false))]
  ze := [(2, [.int .i64 (0)]), (3, [.int .i64 (0)]), (4, [.bool false]), (5, [.int .u8 (0)]), (9, [.string .empty]), (12, [.int .u64 (0)]), (13, [.string .empty, .int .u64 (0)]), (21, [.int .i32 (0)]), (22, [.slice none 0 0]), (24, [.slice none 0 0]), (27, [.slice none 0 0]), (38, [.slice none 0 0]), (39, [.slice none 0 0]), (40, [.slice none 0 0]), (46, [.slice none 0 0]), (61, [.slice none 0 0]), (64, [.slice none 0 0]), (70, [.int .i64 (0), .int .i64 (0), .int .i64 (0)]), (71, [.int .i64 (0), .int .i64 (0), .int .i64 (0)]), (72, [.int .i64 (0), .int .i64 (0), .int .i64 (0), .int .i64 (0), .int .i64 (0), .int .i64 (0), .bool false]), (73, [.int .i64 (0), .int .i64 (0), .int .i64 (0), .int .i64 (0), .int .i64 (0), .int .i64 (0), .bool false]), (82, [.slice none 0 0]), (84, [.slice none 0 0]), (94, [.int .i64 (0), .int .i64 (0), .int .i64 (0), .int .i64 (0), .int .i64 (0)]), (95, [.int .i64 (0), .int .i64 (0), .int .i64 (0), .int .i64 (0), .int .i64 (0)]), (104, [.pointer none]), (114, [.slice none 0 0]), (118, [.int .i64 (0), .int .i64 (0), .int .i64 (0)]), (122, [.slice none 0 0]), (123, [.slice none 0 0]), (127, [.slice none 0 0]), (130, [.int .i64 (0), .int .i64 (0), .int .i64 (0), .int .i64 (0), .int .i64 (0), .int .i64 (0), .bool false]), (131, [.int .i64 (0), .int .i64 (0), .int .i64 (0), .int .i64 (0), .int .i64 (0), .int .i64 (0), .bool false]), (139, [.int .i64 (0), .int .i64 (0), .int .i64 (0), .int .i64 (0), .int .i64 (0)]), (153, [.slice none 0 0, .int .i64 (0), .int .i64 (0)]), (154, [.slice none 0 0, .int .i64 (0), .int .i64 (0)]), (159, [.int .u64 (0)]), (164, [.int .i64 (0)]), (171, [.int .u32 (0)]), (173, [.int .u64 (0)]), (174, [.int .u64 (0)]), (178, [.pointer none]), (180, [.pointer none]), (193, [.pointer none])]
  pl := [(13, [(0, 1), (1, 1)]), (38, [(0, 1)]), (39, [(0, 1)]), (70, [(0, 1), (1, 1), (2, 1)]), (71, [(0, 1), (1, 1), (2, 1)]), (72, [(0, 3), (3, 3), (6, 1)]), (73, [(0, 3), (3, 3), (6, 1)]), (94, [(0, 1), (1, 1), (2, 1), (3, 1), (4, 1)]), (95, [(0, 1), (1, 1), (2, 1), (3, 1), (4, 1)]), (118, [(0, 1), (1, 1), (2, 1)]), (122, [(0, 1)]), (123, [(0, 1)]), (130, [(0, 3), (3, 3), (6, 1)]), (131, [(0, 3), (3, 3), (6, 1)]), (139, [(0, 1), (1, 1), (2, 1), (3, 1), (4, 1)]), (153, [(0, 1), (1, 1), (2, 1)]), (154, [(0, 1), (1, 1), (2, 1)])]
  sl := [(22, (5, 1, 1)), (24, (71, 3, 24)), (27, (39, 1, 24)), (40, (118, 3, 24)), (46, (123, 1, 24)), (61, (131, 7, 56)), (64, (73, 7, 56)), (82, (139, 5, 40)), (84, (95, 5, 40)), (114, (9, 1, 16)), (127, (3, 1, 8))]
  ik := [(2, .i64), (3, .i64), (5, .u8), (12, .u64), (21, .i32), (159, .u64), (164, .i64), (171, .u32), (173, .u64), (174, .u64)]
  str := [9]
  bl := [4]
instance : TabC Go.Proofs.Try.prog tab := ⟨{ ag := all_cons ag13 (all_cons ag38 (all_cons ag39 (all_cons ag70 (all_cons ag71 (all_cons ag72 (all_cons ag73 (all_cons ag94 (all_cons ag95 (all_cons ag118 (all_cons ag122 (all_cons ag123 (all_cons ag130 (all_cons ag131 (all_cons ag139 (all_cons ag153 (all_cons ag154 (all_nil))))))))))))))))), sc := all_cons sc2 (all_cons sc3 (all_cons sc4 (all_cons sc5 (all_cons sc9 (all_cons sc12 (all_cons sc21 (all_cons sc22 (all_cons sc24 (all_cons sc27 (all_cons sc40 (all_cons sc46 (all_cons sc61 (all_cons sc64 (all_cons sc82 (all_cons sc84 (all_cons sc104 (all_cons sc114 (all_cons sc127 (all_cons sc159 (all_cons sc164 (all_cons sc171 (all_cons sc173 (all_cons sc174 (all_cons sc178 (all_cons sc180 (all_cons sc193 (all_nil))))))))))))))))))))))))))), fd := all_cons fd13_0 (all_cons fd13_1 (all_cons fd38_0 (all_cons fd39_0 (all_cons fd70_0 (all_cons fd70_1 (all_cons fd70_2 (all_cons fd71_0 (all_cons fd71_1 (all_cons fd71_2 (all_cons fd72_0 (all_cons fd72_1 (all_cons fd72_2 (all_cons fd73_0 (all_cons fd73_1 (all_cons fd73_2 (all_cons fd94_0 (all_cons fd94_1 (all_cons fd94_2 (all_cons fd94_3 (all_cons fd94_4 (all_cons fd95_0 (all_cons fd95_1 (all_cons fd95_2 (all_cons fd95_3 (all_cons fd95_4 (all_cons fd118_0 (all_cons fd118_1 (all_cons fd118_2 (all_cons fd122_0 (all_cons fd123_0 (all_cons fd130_0 (all_cons fd130_1 (all_cons fd130_2 (all_cons fd131_0 (all_cons fd131_1 (all_cons fd131_2 (all_cons fd139_0 (all_cons fd139_1 (all_cons fd139_2 (all_cons fd139_3 (all_cons fd139_4 (all_cons fd153_0 (all_cons fd153_1 (all_cons fd153_2 (all_cons fd154_0 (all_cons fd154_1 (all_cons fd154_2 (all_nil)))))))))))))))))))))))))))))))))))))))))))))))), ze := all_cons ze2 (all_cons ze3 (all_cons ze4 (all_cons ze5 (all_cons ze9 (all_cons ze12 (all_cons ze13 (all_cons ze21 (all_cons ze22 (all_cons ze24 (all_cons ze27 (all_cons ze38 (all_cons ze39 (all_cons ze40 (all_cons ze46 (all_cons ze61 (all_cons ze64 (all_cons ze70 (all_cons ze71 (all_cons ze72 (all_cons ze73 (all_cons ze82 (all_cons ze84 (all_cons ze94 (all_cons ze95 (all_cons ze104 (all_cons ze114 (all_cons ze118 (all_cons ze122 (all_cons ze123 (all_cons ze127 (all_cons ze130 (all_cons ze131 (all_cons ze139 (all_cons ze153 (all_cons ze154 (all_cons ze159 (all_cons ze164 (all_cons ze171 (all_cons ze173 (all_cons ze174 (all_cons ze178 (all_cons ze180 (all_cons ze193 (all_nil)))))))))))))))))))))))))))))))))))))))))))), pl := all_cons pl13 (all_cons pl38 (all_cons pl39 (all_cons pl70 (all_cons pl71 (all_cons pl72 (all_cons pl73 (all_cons pl94 (all_cons pl95 (all_cons pl118 (all_cons pl122 (all_cons pl123 (all_cons pl130 (all_cons pl131 (all_cons pl139 (all_cons pl153 (all_cons pl154 (all_nil))))))))))))))))), sl := all_cons sl22 (all_cons sl24 (all_cons sl27 (all_cons sl40 (all_cons sl46 (all_cons sl61 (all_cons sl64 (all_cons sl82 (all_cons sl84 (all_cons sl114 (all_cons sl127 (all_nil))))))))))), ik := all_cons ik2 (all_cons ik3 (all_cons ik5 (all_cons ik12 (all_cons ik21 (all_cons ik159 (all_cons ik164 (all_cons ik171 (all_cons ik173 (all_cons ik174 (all_nil)))))))))), str := all_cons str9 (all_nil), bl := all_cons bl4 (all_nil) }, by kernel_rfl⟩
instance : Ent Go.Proofs.Try.prog 3 := ent_of Go.Proofs.Try.func3 rfl (by decide)
instance : Ent Go.Proofs.Try.prog 4 := ent_of Go.Proofs.Try.func4 rfl (by decide)
instance : Ent Go.Proofs.Try.prog 5 := ent_of Go.Proofs.Try.func5 rfl (by decide)
instance : Ent Go.Proofs.Try.prog 6 := ent_of Go.Proofs.Try.func6 rfl (by decide)
instance : Ent Go.Proofs.Try.prog 7 := ent_of Go.Proofs.Try.func7 rfl (by decide)
instance : Ent Go.Proofs.Try.prog 8 := ent_of Go.Proofs.Try.func8 rfl (by decide)
instance : Ent Go.Proofs.Try.prog 9 := ent_of Go.Proofs.Try.func9 rfl (by decide)
instance : Ent Go.Proofs.Try.prog 10 := ent_of Go.Proofs.Try.func10 rfl (by decide)
instance : Ent Go.Proofs.Try.prog 11 := ent_of Go.Proofs.Try.func11 rfl (by decide)
instance : Ent Go.Proofs.Try.prog 12 := ent_of Go.Proofs.Try.func12 rfl (by decide)
instance : Ent Go.Proofs.Try.prog 13 := ent_of Go.Proofs.Try.func13 rfl (by decide)
instance : Ent Go.Proofs.Try.prog 14 := ent_of Go.Proofs.Try.func14 rfl (by decide)
instance : Ent Go.Proofs.Try.prog 15 := ent_of Go.Proofs.Try.func15 rfl (by decide)
instance : Ent Go.Proofs.Try.prog 16 := ent_of Go.Proofs.Try.func16 rfl (by decide)
instance : Ent Go.Proofs.Try.prog 17 := ent_of Go.Proofs.Try.func17 rfl (by decide)
instance : Ent Go.Proofs.Try.prog 18 := ent_of Go.Proofs.Try.func18 rfl (by decide)
instance : Ent Go.Proofs.Try.prog 19 := ent_of Go.Proofs.Try.func19 rfl (by decide)
instance : Ent Go.Proofs.Try.prog 20 := ent_of Go.Proofs.Try.func20 rfl (by decide)
instance : Ent Go.Proofs.Try.prog 21 := ent_of Go.Proofs.Try.func21 rfl (by decide)
instance : Ent Go.Proofs.Try.prog 22 := ent_of Go.Proofs.Try.func22 rfl (by decide)
instance : Ent Go.Proofs.Try.prog 23 := ent_of Go.Proofs.Try.func23 rfl (by decide)
instance : Ent Go.Proofs.Try.prog 24 := ent_of Go.Proofs.Try.func24 rfl (by decide)
instance : Ent Go.Proofs.Try.prog 25 := ent_of Go.Proofs.Try.func25 rfl (by decide)
instance : Ent Go.Proofs.Try.prog 26 := ent_of Go.Proofs.Try.func26 rfl (by decide)
instance : Ent Go.Proofs.Try.prog 27 := ent_of Go.Proofs.Try.func27 rfl (by decide)
instance : Ent Go.Proofs.Try.prog 28 := ent_of Go.Proofs.Try.func28 rfl (by decide)
instance : Ent Go.Proofs.Try.prog 29 := ent_of Go.Proofs.Try.func29 rfl (by decide)
instance : Ent Go.Proofs.Try.prog 30 := ent_of Go.Proofs.Try.func30 rfl (by decide)
instance : Ent Go.Proofs.Try.prog 31 := ent_of Go.Proofs.Try.func31 rfl (by decide)
instance : Ent Go.Proofs.Try.prog 32 := ent_of Go.Proofs.Try.func32 rfl (by decide)
instance : Ent Go.Proofs.Try.prog 33 := ent_of Go.Proofs.Try.func33 rfl (by decide)
instance : Ent Go.Proofs.Try.prog 34 := ent_of Go.Proofs.Try.func34 rfl (by decide)
instance : Ent Go.Proofs.Try.prog 35 := ent_of Go.Proofs.Try.func35 rfl (by decide)
instance : Ent Go.Proofs.Try.prog 36 := ent_of Go.Proofs.Try.func36 rfl (by decide)
instance : Ent Go.Proofs.Try.prog 37 := ent_of Go.Proofs.Try.func37 rfl (by decide)
instance : Ent Go.Proofs.Try.prog 38 := ent_of Go.Proofs.Try.func38 rfl (by decide)
instance : Ent Go.Proofs.Try.prog 39 := ent_of Go.Proofs.Try.func39 rfl (by decide)
instance : Ent Go.Proofs.Try.prog 40 := ent_of Go.Proofs.Try.func40 rfl (by decide)
instance : Ent Go.Proofs.Try.prog 41 := ent_of Go.Proofs.Try.func41 rfl (by decide)
instance : Ent Go.Proofs.Try.prog 42 := ent_of Go.Proofs.Try.func42 rfl (by decide)
instance : Ent Go.Proofs.Try.prog 43 := ent_of Go.Proofs.Try.func43 rfl (by decide)
instance : Ent Go.Proofs.Try.prog 44 := ent_of Go.Proofs.Try.func44 rfl (by decide)
instance : Ent Go.Proofs.Try.prog 45 := ent_of Go.Proofs.Try.func45 rfl (by decide)
instance : Ent Go.Proofs.Try.prog 46 := ent_of Go.Proofs.Try.func46 rfl (by decide)
instance : Ent Go.Proofs.Try.prog 47 := ent_of Go.Proofs.Try.func47 rfl (by decide)
instance : Ent Go.Proofs.Try.prog 48 := ent_of Go.Proofs.Try.func48 rfl (by decide)
instance : Ent Go.Proofs.Try.prog 49 := ent_of Go.Proofs.Try.func49 rfl (by decide)
instance : Ent Go.Proofs.Try.prog 50 := ent_of Go.Proofs.Try.func50 rfl (by decide)
instance : Ent Go.Proofs.Try.prog 51 := ent_of Go.Proofs.Try.func51 rfl (by decide)
instance : Ent Go.Proofs.Try.prog 52 := ent_of Go.Proofs.Try.func52 rfl (by decide)
instance : Ent Go.Proofs.Try.prog 53 := ent_of Go.Proofs.Try.func53 rfl (by decide)
instance : Ent Go.Proofs.Try.prog 54 := ent_of Go.Proofs.Try.func54 rfl (by decide)
instance : Ent Go.Proofs.Try.prog 55 := ent_of Go.Proofs.Try.func55 rfl (by decide)
instance : Ent Go.Proofs.Try.prog 56 := ent_of Go.Proofs.Try.func56 rfl (by decide)
instance : Ent Go.Proofs.Try.prog 57 := ent_of Go.Proofs.Try.func57 rfl (by decide)
instance : Ent Go.Proofs.Try.prog 58 := ent_of Go.Proofs.Try.func58 rfl (by decide)
instance : Ent Go.Proofs.Try.prog 59 := ent_of Go.Proofs.Try.func59 rfl (by decide)
instance : Ent Go.Proofs.Try.prog 60 := ent_of Go.Proofs.Try.func60 rfl (by decide)
instance : Ent Go.Proofs.Try.prog 61 := ent_of Go.Proofs.Try.func61 rfl (by decide)
instance : Ent Go.Proofs.Try.prog 62 := ent_of Go.Proofs.Try.func62 rfl (by decide)
instance : Ent Go.Proofs.Try.prog 63 := ent_of Go.Proofs.Try.func63 rfl (by decide)
instance : Ent Go.Proofs.Try.prog 64 := ent_of Go.Proofs.Try.func64 rfl (by decide)
instance : Ent Go.Proofs.Try.prog 65 := ent_of Go.Proofs.Try.func65 rfl (by decide)
instance : Ent Go.Proofs.Try.prog 66 := ent_of Go.Proofs.Try.func66 rfl (by decide)
instance : Ent Go.Proofs.Try.prog 67 := ent_of Go.Proofs.Try.func67 rfl (by decide)
instance : Ent Go.Proofs.Try.prog 68 := ent_of Go.Proofs.Try.func68 rfl (by decide)
instance : Ent Go.Proofs.Try.prog 69 := ent_of Go.Proofs.Try.func69 rfl (by decide)
instance : Ent Go.Proofs.Try.prog 70 := ent_of Go.Proofs.Try.func70 rfl (by decide)
instance : Ent Go.Proofs.Try.prog 71 := ent_of Go.Proofs.Try.func71 rfl (by decide)
instance : Ent Go.Proofs.Try.prog 72 := ent_of Go.Proofs.Try.func72 rfl (by decide)
instance : Ent Go.Proofs.Try.prog 73 := ent_of Go.Proofs.Try.func73 rfl (by decide)
instance : Ent Go.Proofs.Try.prog 74 := ent_of Go.Proofs.Try.func74 rfl (by decide)
instance : Ent Go.Proofs.Try.prog 75 := ent_of Go.Proofs.Try.func75 rfl (by decide)
instance : Ent Go.Proofs.Try.prog 76 := ent_of Go.Proofs.Try.func76 rfl (by decide)
instance : Ent Go.Proofs.Try.prog 77 := ent_of Go.Proofs.Try.func77 rfl (by decide)
instance : Ent Go.Proofs.Try.prog 78 := ent_of Go.Proofs.Try.func78 rfl (by decide)
instance : Ent Go.Proofs.Try.prog 79 := ent_of Go.Proofs.Try.func79 rfl (by decide)
instance : Ent Go.Proofs.Try.prog 80 := ent_of Go.Proofs.Try.func80 rfl (by decide)
instance : Ent Go.Proofs.Try.prog 81 := ent_of Go.Proofs.Try.func81 rfl (by decide)
instance : Ent Go.Proofs.Try.prog 82 := ent_of Go.Proofs.Try.func82 rfl (by decide)
instance : Ent Go.Proofs.Try.prog 83 := ent_of Go.Proofs.Try.func83 rfl (by decide)
instance : Ent Go.Proofs.Try.prog 84 := ent_of Go.Proofs.Try.func84 rfl (by decide)
instance : Ent Go.Proofs.Try.prog 85 := ent_of Go.Proofs.Try.func85 rfl (by decide)
instance : Ent Go.Proofs.Try.prog 86 := ent_of Go.Proofs.Try.func86 rfl (by decide)
instance : Ent Go.Proofs.Try.prog 87 := ent_of Go.Proofs.Try.func87 rfl (by decide)
instance : Ent Go.Proofs.Try.prog 88 := ent_of Go.Proofs.Try.func88 rfl (by decide)
instance : Ent Go.Proofs.Try.prog 89 := ent_of Go.Proofs.Try.func89 rfl (by decide)
instance : Ent Go.Proofs.Try.prog 90 := ent_of Go.Proofs.Try.func90 rfl (by decide)
instance : Ent Go.Proofs.Try.prog 91 := ent_of Go.Proofs.Try.func91 rfl (by decide)
instance : Ent Go.Proofs.Try.prog 92 := ent_of Go.Proofs.Try.func92 rfl (by decide)
instance : Ent Go.Proofs.Try.prog 93 := ent_of Go.Proofs.Try.func93 rfl (by decide)
instance : Ent Go.Proofs.Try.prog 94 := ent_of Go.Proofs.Try.func94 rfl (by decide)
instance : Ent Go.Proofs.Try.prog 95 := ent_of Go.Proofs.Try.func95 rfl (by decide)
instance : Ent Go.Proofs.Try.prog 96 := ent_of Go.Proofs.Try.func96 rfl (by decide)
instance : Ent Go.Proofs.Try.prog 97 := ent_of Go.Proofs.Try.func97 rfl (by decide)
instance : Ent Go.Proofs.Try.prog 98 := ent_of Go.Proofs.Try.func98 rfl (by decide)
instance : Ent Go.Proofs.Try.prog 99 := ent_of Go.Proofs.Try.func99 rfl (by decide)
instance : Ent Go.Proofs.Try.prog 100 := ent_of Go.Proofs.Try.func100 rfl (by decide)
instance : Ent Go.Proofs.Try.prog 101 := ent_of Go.Proofs.Try.func101 rfl (by decide)
instance : Ent Go.Proofs.Try.prog 102 := ent_of Go.Proofs.Try.func102 rfl (by decide)
instance : Ent Go.Proofs.Try.prog 103 := ent_of Go.Proofs.Try.func103 rfl (by decide)
instance : Ent Go.Proofs.Try.prog 104 := ent_of Go.Proofs.Try.func104 rfl (by decide)
instance : Ent Go.Proofs.Try.prog 105 := ent_of Go.Proofs.Try.func105 rfl (by decide)
instance : Ent Go.Proofs.Try.prog 106 := ent_of Go.Proofs.Try.func106 rfl (by decide)
instance : Ent Go.Proofs.Try.prog 107 := ent_of Go.Proofs.Try.func107 rfl (by decide)
instance : Ent Go.Proofs.Try.prog 108 := ent_of Go.Proofs.Try.func108 rfl (by decide)
instance : Ent Go.Proofs.Try.prog 109 := ent_of Go.Proofs.Try.func109 rfl (by decide)
instance : Ent Go.Proofs.Try.prog 110 := ent_of Go.Proofs.Try.func110 rfl (by decide)
instance : Ent Go.Proofs.Try.prog 111 := ent_of Go.Proofs.Try.func111 rfl (by decide)
instance : Ent Go.Proofs.Try.prog 112 := ent_of Go.Proofs.Try.func112 rfl (by decide)
instance : Ent Go.Proofs.Try.prog 113 := ent_of Go.Proofs.Try.func113 rfl (by decide)
instance : Ent Go.Proofs.Try.prog 114 := ent_of Go.Proofs.Try.func114 rfl (by decide)
instance : Ent Go.Proofs.Try.prog 115 := ent_of Go.Proofs.Try.func115 rfl (by decide)
instance : Ent Go.Proofs.Try.prog 116 := ent_of Go.Proofs.Try.func116 rfl (by decide)
instance : Ent Go.Proofs.Try.prog 117 := ent_of Go.Proofs.Try.func117 rfl (by decide)
instance : Ent Go.Proofs.Try.prog 118 := ent_of Go.Proofs.Try.func118 rfl (by decide)
instance : Ent Go.Proofs.Try.prog 119 := ent_of Go.Proofs.Try.func119 rfl (by decide)
instance : Ent Go.Proofs.Try.prog 120 := ent_of Go.Proofs.Try.func120 rfl (by decide)
instance : Ent Go.Proofs.Try.prog 121 := ent_of Go.Proofs.Try.func121 rfl (by decide)
instance : Ent Go.Proofs.Try.prog 122 := ent_of Go.Proofs.Try.func122 rfl (by decide)
instance : Ent Go.Proofs.Try.prog 123 := ent_of Go.Proofs.Try.func123 rfl (by decide)
instance : Ent Go.Proofs.Try.prog 124 := ent_of Go.Proofs.Try.func124 rfl (by decide)
instance : Ent Go.Proofs.Try.prog 125 := ent_of Go.Proofs.Try.func125 rfl (by decide)
instance : Ent Go.Proofs.Try.prog 126 := ent_of Go.Proofs.Try.func126 rfl (by decide)
instance : Ent Go.Proofs.Try.prog 127 := ent_of Go.Proofs.Try.func127 rfl (by decide)
instance : Ent Go.Proofs.Try.prog 128 := ent_of Go.Proofs.Try.func128 rfl (by decide)
instance : Ent Go.Proofs.Try.prog 129 := ent_of Go.Proofs.Try.func129 rfl (by decide)
instance : Ent Go.Proofs.Try.prog 130 := ent_of Go.Proofs.Try.func130 rfl (by decide)
instance : Ent Go.Proofs.Try.prog 131 := ent_of Go.Proofs.Try.func131 rfl (by decide)
instance : Ent Go.Proofs.Try.prog 132 := ent_of Go.Proofs.Try.func132 rfl (by decide)
instance : Ent Go.Proofs.Try.prog 133 := ent_of Go.Proofs.Try.func133 rfl (by decide)
instance : Ent Go.Proofs.Try.prog 134 := ent_of Go.Proofs.Try.func134 rfl (by decide)
instance : Ent Go.Proofs.Try.prog 135 := ent_of Go.Proofs.Try.func135 rfl (by decide)
instance : Ent Go.Proofs.Try.prog 136 := ent_of Go.Proofs.Try.func136 rfl (by decide)
instance : Ent Go.Proofs.Try.prog 137 := ent_of Go.Proofs.Try.func137 rfl (by decide)
instance : Ent Go.Proofs.Try.prog 138 := ent_of Go.Proofs.Try.func138 rfl (by decide)
instance : Ent Go.Proofs.Try.prog 139 := ent_of Go.Proofs.Try.func139 rfl (by decide)
instance : Ent Go.Proofs.Try.prog 140 := ent_of Go.Proofs.Try.func140 rfl (by decide)
instance : Ent Go.Proofs.Try.prog 141 := ent_of Go.Proofs.Try.func141 rfl (by decide)
instance : Ent Go.Proofs.Try.prog 142 := ent_of Go.Proofs.Try.func142 rfl (by decide)
instance : Ent Go.Proofs.Try.prog 143 := ent_of Go.Proofs.Try.func143 rfl (by decide)
instance : Ent Go.Proofs.Try.prog 144 := ent_of Go.Proofs.Try.func144 rfl (by decide)
instance : Ent Go.Proofs.Try.prog 145 := ent_of Go.Proofs.Try.func145 rfl (by decide)
instance : Ent Go.Proofs.Try.prog 146 := ent_of Go.Proofs.Try.func146 rfl (by decide)
instance : Ent Go.Proofs.Try.prog 147 := ent_of Go.Proofs.Try.func147 rfl (by decide)
instance : Ent Go.Proofs.Try.prog 148 := ent_of Go.Proofs.Try.func148 rfl (by decide)
instance : Ent Go.Proofs.Try.prog 149 := ent_of Go.Proofs.Try.func149 rfl (by decide)
instance : Ent Go.Proofs.Try.prog 150 := ent_of Go.Proofs.Try.func150 rfl (by decide)
instance : Ent Go.Proofs.Try.prog 151 := ent_of Go.Proofs.Try.func151 rfl (by decide)
instance : Ent Go.Proofs.Try.prog 152 := ent_of Go.Proofs.Try.func152 rfl (by decide)
instance : Ent Go.Proofs.Try.prog 153 := ent_of Go.Proofs.Try.func153 rfl (by decide)
instance : Ent Go.Proofs.Try.prog 154 := ent_of Go.Proofs.Try.func154 rfl (by decide)
instance : Ent Go.Proofs.Try.prog 155 := ent_of Go.Proofs.Try.func155 rfl (by decide)
instance : Ent Go.Proofs.Try.prog 156 := ent_of Go.Proofs.Try.func156 rfl (by decide)
instance : Ent Go.Proofs.Try.prog 157 := ent_of Go.Proofs.Try.func157 rfl (by decide)
instance : Ent Go.Proofs.Try.prog 158 := ent_of Go.Proofs.Try.func158 rfl (by decide)
instance : Ent Go.Proofs.Try.prog 159 := ent_of Go.Proofs.Try.func159 rfl (by decide)
instance : Ent Go.Proofs.Try.prog 160 := ent_of Go.Proofs.Try.func160 rfl (by decide)
instance : Ent Go.Proofs.Try.prog 161 := ent_of Go.Proofs.Try.func161 rfl (by decide)
instance : Ent Go.Proofs.Try.prog 162 := ent_of Go.Proofs.Try.func162 rfl (by decide)
instance : Ent Go.Proofs.Try.prog 163 := ent_of Go.Proofs.Try.func163 rfl (by decide)
instance : Ent Go.Proofs.Try.prog 164 := ent_of Go.Proofs.Try.func164 rfl (by decide)
instance : Ent Go.Proofs.Try.prog 165 := ent_of Go.Proofs.Try.func165 rfl (by decide)
instance : Ent Go.Proofs.Try.prog 166 := ent_of Go.Proofs.Try.func166 rfl (by decide)
instance : Ent Go.Proofs.Try.prog 167 := ent_of Go.Proofs.Try.func167 rfl (by decide)
instance : Ent Go.Proofs.Try.prog 168 := ent_of Go.Proofs.Try.func168 rfl (by decide)
instance : Ent Go.Proofs.Try.prog 169 := ent_of Go.Proofs.Try.func169 rfl (by decide)
instance : Ent Go.Proofs.Try.prog 170 := ent_of Go.Proofs.Try.func170 rfl (by decide)
instance : Ent Go.Proofs.Try.prog 171 := ent_of Go.Proofs.Try.func171 rfl (by decide)
instance : Ent Go.Proofs.Try.prog 172 := ent_of Go.Proofs.Try.func172 rfl (by decide)
instance : Ent Go.Proofs.Try.prog 173 := ent_of Go.Proofs.Try.func173 rfl (by decide)
instance : Ent Go.Proofs.Try.prog 174 := ent_of Go.Proofs.Try.func174 rfl (by decide)
instance : Ent Go.Proofs.Try.prog 175 := ent_of Go.Proofs.Try.func175 rfl (by decide)
instance : Ent Go.Proofs.Try.prog 176 := ent_of Go.Proofs.Try.func176 rfl (by decide)
instance : Ent Go.Proofs.Try.prog 177 := ent_of Go.Proofs.Try.func177 rfl (by decide)
instance : Ent Go.Proofs.Try.prog 178 := ent_of Go.Proofs.Try.func178 rfl (by decide)
instance : Ent Go.Proofs.Try.prog 179 := ent_of Go.Proofs.Try.func179 rfl (by decide)
instance : Ent Go.Proofs.Try.prog 180 := ent_of Go.Proofs.Try.func180 rfl (by decide)
instance : Ent Go.Proofs.Try.prog 181 := ent_of Go.Proofs.Try.func181 rfl (by decide)
instance : Ent Go.Proofs.Try.prog 182 := ent_of Go.Proofs.Try.func182 rfl (by decide)
instance : Ent Go.Proofs.Try.prog 183 := ent_of Go.Proofs.Try.func183 rfl (by decide)
instance : Ent Go.Proofs.Try.prog 184 := ent_of Go.Proofs.Try.func184 rfl (by decide)
instance : Ent Go.Proofs.Try.prog 185 := ent_of Go.Proofs.Try.func185 rfl (by decide)
instance : Ent Go.Proofs.Try.prog 186 := ent_of Go.Proofs.Try.func186 rfl (by decide)
end Go.Proofs.Ytkcicbigpbdjpaa.Ab
