/-
  The seat's types and functions, as the abstract walk asks for them. Written by wip/tools/abtypes.py.
-/
import Derived.Test.YtjlhfemfmkdlhaaProg
import Derived.Test.YtjlhfemfmkdlhaaAbN
set_option maxRecDepth 100000
namespace Go.Proofs.Ytjlhfemfmkdlhaa.Ab
theorem sc2 : Sc Go.Proofs.Try.prog 2 := sc_of Go.Proofs.Try.underlying2 rfl (by kernel_rfl)
instance : Sc Go.Proofs.Try.prog 2 := sc2
theorem ze2 : Ze Go.Proofs.Try.prog 2 [.int .i64 (0)] := ze_of (z := .int .i64 (0)) (by kernel_rfl) rfl
instance : Ze Go.Proofs.Try.prog 2 [.int .i64 (0)] := ze2
theorem ik2 : Ik Go.Proofs.Try.prog 2 .i64 := ⟨Go.Proofs.Try.underlying2⟩
instance : Ik Go.Proofs.Try.prog 2 .i64 := ik2
theorem sc3 : Sc Go.Proofs.Try.prog 3 := sc_of Go.Proofs.Try.underlying3 rfl (by kernel_rfl)
instance : Sc Go.Proofs.Try.prog 3 := sc3
theorem ze3 : Ze Go.Proofs.Try.prog 3 [.int .i64 (0)] := ze_of (z := .int .i64 (0)) (by kernel_rfl) rfl
instance : Ze Go.Proofs.Try.prog 3 [.int .i64 (0)] := ze3
theorem ik3 : Ik Go.Proofs.Try.prog 3 .i64 := ⟨Go.Proofs.Try.underlying3⟩
instance : Ik Go.Proofs.Try.prog 3 .i64 := ik3
theorem sc4 : Sc Go.Proofs.Try.prog 4 := sc_of Go.Proofs.Try.underlying4 rfl (by kernel_rfl)
instance : Sc Go.Proofs.Try.prog 4 := sc4
theorem ze4 : Ze Go.Proofs.Try.prog 4 [.bool false] := ze_of (z := .bool false) (by kernel_rfl) rfl
instance : Ze Go.Proofs.Try.prog 4 [.bool false] := ze4
theorem bl4 : Go.Proofs.Try.prog.underlying 4 = some .bool := Go.Proofs.Try.underlying4
theorem sc5 : Sc Go.Proofs.Try.prog 5 := sc_of Go.Proofs.Try.underlying5 rfl (by kernel_rfl)
instance : Sc Go.Proofs.Try.prog 5 := sc5
theorem ze5 : Ze Go.Proofs.Try.prog 5 [.int .u8 (0)] := ze_of (z := .int .u8 (0)) (by kernel_rfl) rfl
instance : Ze Go.Proofs.Try.prog 5 [.int .u8 (0)] := ze5
theorem ik5 : Ik Go.Proofs.Try.prog 5 .u8 := ⟨Go.Proofs.Try.underlying5⟩
instance : Ik Go.Proofs.Try.prog 5 .u8 := ik5
theorem sc9 : Sc Go.Proofs.Try.prog 9 := sc_of Go.Proofs.Try.underlying9 rfl (by kernel_rfl)
instance : Sc Go.Proofs.Try.prog 9 := sc9
theorem ze9 : Ze Go.Proofs.Try.prog 9 [.string .empty] := ze_of (z := .string .empty) (by kernel_rfl) rfl
instance : Ze Go.Proofs.Try.prog 9 [.string .empty] := ze9
theorem str9 : Str Go.Proofs.Try.prog 9 := ⟨Go.Proofs.Try.underlying9⟩
instance : Str Go.Proofs.Try.prog 9 := str9
theorem sc12 : Sc Go.Proofs.Try.prog 12 := sc_of Go.Proofs.Try.underlying12 rfl (by kernel_rfl)
instance : Sc Go.Proofs.Try.prog 12 := sc12
theorem ze12 : Ze Go.Proofs.Try.prog 12 [.int .u64 (0)] := ze_of (z := .int .u64 (0)) (by kernel_rfl) rfl
instance : Ze Go.Proofs.Try.prog 12 [.int .u64 (0)] := ze12
theorem ik12 : Ik Go.Proofs.Try.prog 12 .u64 := ⟨Go.Proofs.Try.underlying12⟩
instance : Ik Go.Proofs.Try.prog 12 .u64 := ik12
theorem ag13 : Ag Go.Proofs.Try.prog 13 2 := ag_of Go.Proofs.Try.underlying13 (by kernel_rfl)
instance : Ag Go.Proofs.Try.prog 13 2 := ag13
theorem fd13_0 : Fd Go.Proofs.Try.prog 13 0 0 1 false := fd_of Go.Proofs.Try.underlying13 (off := 0) (ft := 9) rfl Go.Proofs.Try.underlying9 (n := 1) (by kernel_rfl) rfl (by decide)
instance : Fd Go.Proofs.Try.prog 13 0 0 1 false := fd13_0
theorem fd13_1 : Fd Go.Proofs.Try.prog 13 1 1 1 false := fd_of Go.Proofs.Try.underlying13 (off := 1) (ft := 12) rfl Go.Proofs.Try.underlying12 (n := 1) (by kernel_rfl) rfl (by decide)
instance : Fd Go.Proofs.Try.prog 13 1 1 1 false := fd13_1
theorem pl13 : Pl Go.Proofs.Try.prog 13 [(0, 1), (1, 1)] := pl_of Go.Proofs.Try.underlying13 (by kernel_rfl)
instance : Pl Go.Proofs.Try.prog 13 [(0, 1), (1, 1)] := pl13
theorem ze13 : Ze Go.Proofs.Try.prog 13 [.string .empty, .int .u64 (0)] := ze_of (z := .agg #[.string .empty, .int .u64 (0)]) (by kernel_rfl) rfl
instance : Ze Go.Proofs.Try.prog 13 [.string .empty, .int .u64 (0)] := ze13
theorem sc21 : Sc Go.Proofs.Try.prog 21 := sc_of Go.Proofs.Try.underlying21 rfl (by kernel_rfl)
instance : Sc Go.Proofs.Try.prog 21 := sc21
theorem ze21 : Ze Go.Proofs.Try.prog 21 [.int .i32 (0)] := ze_of (z := .int .i32 (0)) (by kernel_rfl) rfl
instance : Ze Go.Proofs.Try.prog 21 [.int .i32 (0)] := ze21
theorem ik21 : Ik Go.Proofs.Try.prog 21 .i32 := ⟨Go.Proofs.Try.underlying21⟩
instance : Ik Go.Proofs.Try.prog 21 .i32 := ik21
theorem sc22 : Sc Go.Proofs.Try.prog 22 := sc_of Go.Proofs.Try.underlying22 rfl (by kernel_rfl)
instance : Sc Go.Proofs.Try.prog 22 := sc22
theorem ze22 : Ze Go.Proofs.Try.prog 22 [.slice none 0 0] := ze_of (z := .slice none 0 0) (by kernel_rfl) rfl
instance : Ze Go.Proofs.Try.prog 22 [.slice none 0 0] := ze22
theorem sl22 : Sl Go.Proofs.Try.prog 22 53 3 24 := sl_of (z := .agg #[.int .i64 (0), .int .i64 (0), .int .i64 (0)]) Go.Proofs.Try.underlying22 (by kernel_rfl) rfl (by decide)
instance : Sl Go.Proofs.Try.prog 22 53 3 24 := sl22
theorem ag23 : Ag Go.Proofs.Try.prog 23 4 := ag_of Go.Proofs.Try.underlying23 (by kernel_rfl)
instance : Ag Go.Proofs.Try.prog 23 4 := ag23
theorem fd23_0 : Fd Go.Proofs.Try.prog 23 0 0 1 false := fd_of Go.Proofs.Try.underlying23 (off := 0) (ft := 3) rfl Go.Proofs.Try.underlying3 (n := 1) (by kernel_rfl) rfl (by decide)
instance : Fd Go.Proofs.Try.prog 23 0 0 1 false := fd23_0
theorem fd23_1 : Fd Go.Proofs.Try.prog 23 1 1 1 false := fd_of Go.Proofs.Try.underlying23 (off := 1) (ft := 3) rfl Go.Proofs.Try.underlying3 (n := 1) (by kernel_rfl) rfl (by decide)
instance : Fd Go.Proofs.Try.prog 23 1 1 1 false := fd23_1
theorem fd23_2 : Fd Go.Proofs.Try.prog 23 2 2 1 false := fd_of Go.Proofs.Try.underlying23 (off := 2) (ft := 22) rfl Go.Proofs.Try.underlying22 (n := 1) (by kernel_rfl) rfl (by decide)
instance : Fd Go.Proofs.Try.prog 23 2 2 1 false := fd23_2
theorem fd23_3 : Fd Go.Proofs.Try.prog 23 3 3 1 false := fd_of Go.Proofs.Try.underlying23 (off := 3) (ft := 22) rfl Go.Proofs.Try.underlying22 (n := 1) (by kernel_rfl) rfl (by decide)
instance : Fd Go.Proofs.Try.prog 23 3 3 1 false := fd23_3
theorem pl23 : Pl Go.Proofs.Try.prog 23 [(0, 1), (1, 1), (2, 1), (3, 1)] := pl_of Go.Proofs.Try.underlying23 (by kernel_rfl)
instance : Pl Go.Proofs.Try.prog 23 [(0, 1), (1, 1), (2, 1), (3, 1)] := pl23
theorem ze23 : Ze Go.Proofs.Try.prog 23 [.int .i64 (0), .int .i64 (0), .slice none 0 0, .slice none 0 0] := ze_of (z := .agg #[.int .i64 (0), .int .i64 (0), .slice none 0 0, .slice none 0 0]) (by kernel_rfl) rfl
instance : Ze Go.Proofs.Try.prog 23 [.int .i64 (0), .int .i64 (0), .slice none 0 0, .slice none 0 0] := ze23
theorem ag24 : Ag Go.Proofs.Try.prog 24 4 := ag_of Go.Proofs.Try.underlying24 (by kernel_rfl)
instance : Ag Go.Proofs.Try.prog 24 4 := ag24
theorem fd24_0 : Fd Go.Proofs.Try.prog 24 0 0 1 false := fd_of Go.Proofs.Try.underlying24 (off := 0) (ft := 3) rfl Go.Proofs.Try.underlying3 (n := 1) (by kernel_rfl) rfl (by decide)
instance : Fd Go.Proofs.Try.prog 24 0 0 1 false := fd24_0
theorem fd24_1 : Fd Go.Proofs.Try.prog 24 1 1 1 false := fd_of Go.Proofs.Try.underlying24 (off := 1) (ft := 3) rfl Go.Proofs.Try.underlying3 (n := 1) (by kernel_rfl) rfl (by decide)
instance : Fd Go.Proofs.Try.prog 24 1 1 1 false := fd24_1
theorem fd24_2 : Fd Go.Proofs.Try.prog 24 2 2 1 false := fd_of Go.Proofs.Try.underlying24 (off := 2) (ft := 22) rfl Go.Proofs.Try.underlying22 (n := 1) (by kernel_rfl) rfl (by decide)
instance : Fd Go.Proofs.Try.prog 24 2 2 1 false := fd24_2
theorem fd24_3 : Fd Go.Proofs.Try.prog 24 3 3 1 false := fd_of Go.Proofs.Try.underlying24 (off := 3) (ft := 22) rfl Go.Proofs.Try.underlying22 (n := 1) (by kernel_rfl) rfl (by decide)
instance : Fd Go.Proofs.Try.prog 24 3 3 1 false := fd24_3
theorem pl24 : Pl Go.Proofs.Try.prog 24 [(0, 1), (1, 1), (2, 1), (3, 1)] := pl_of Go.Proofs.Try.underlying24 (by kernel_rfl)
instance : Pl Go.Proofs.Try.prog 24 [(0, 1), (1, 1), (2, 1), (3, 1)] := pl24
theorem ze24 : Ze Go.Proofs.Try.prog 24 [.int .i64 (0), .int .i64 (0), .slice none 0 0, .slice none 0 0] := ze_of (z := .agg #[.int .i64 (0), .int .i64 (0), .slice none 0 0, .slice none 0 0]) (by kernel_rfl) rfl
instance : Ze Go.Proofs.Try.prog 24 [.int .i64 (0), .int .i64 (0), .slice none 0 0, .slice none 0 0] := ze24
theorem sc30 : Sc Go.Proofs.Try.prog 30 := sc_of Go.Proofs.Try.underlying30 rfl (by kernel_rfl)
instance : Sc Go.Proofs.Try.prog 30 := sc30
theorem ze30 : Ze Go.Proofs.Try.prog 30 [.slice none 0 0] := ze_of (z := .slice none 0 0) (by kernel_rfl) rfl
instance : Ze Go.Proofs.Try.prog 30 [.slice none 0 0] := ze30
theorem sl30 : Sl Go.Proofs.Try.prog 30 95 3 24 := sl_of (z := .agg #[.int .i64 (0), .int .i64 (0), .int .i64 (0)]) Go.Proofs.Try.underlying30 (by kernel_rfl) rfl (by decide)
instance : Sl Go.Proofs.Try.prog 30 95 3 24 := sl30
theorem ag31 : Ag Go.Proofs.Try.prog 31 4 := ag_of Go.Proofs.Try.underlying31 (by kernel_rfl)
instance : Ag Go.Proofs.Try.prog 31 4 := ag31
theorem fd31_0 : Fd Go.Proofs.Try.prog 31 0 0 1 false := fd_of Go.Proofs.Try.underlying31 (off := 0) (ft := 3) rfl Go.Proofs.Try.underlying3 (n := 1) (by kernel_rfl) rfl (by decide)
instance : Fd Go.Proofs.Try.prog 31 0 0 1 false := fd31_0
theorem fd31_1 : Fd Go.Proofs.Try.prog 31 1 1 1 false := fd_of Go.Proofs.Try.underlying31 (off := 1) (ft := 3) rfl Go.Proofs.Try.underlying3 (n := 1) (by kernel_rfl) rfl (by decide)
instance : Fd Go.Proofs.Try.prog 31 1 1 1 false := fd31_1
theorem fd31_2 : Fd Go.Proofs.Try.prog 31 2 2 1 false := fd_of Go.Proofs.Try.underlying31 (off := 2) (ft := 30) rfl Go.Proofs.Try.underlying30 (n := 1) (by kernel_rfl) rfl (by decide)
instance : Fd Go.Proofs.Try.prog 31 2 2 1 false := fd31_2
theorem fd31_3 : Fd Go.Proofs.Try.prog 31 3 3 1 false := fd_of Go.Proofs.Try.underlying31 (off := 3) (ft := 30) rfl Go.Proofs.Try.underlying30 (n := 1) (by kernel_rfl) rfl (by decide)
instance : Fd Go.Proofs.Try.prog 31 3 3 1 false := fd31_3
theorem pl31 : Pl Go.Proofs.Try.prog 31 [(0, 1), (1, 1), (2, 1), (3, 1)] := pl_of Go.Proofs.Try.underlying31 (by kernel_rfl)
instance : Pl Go.Proofs.Try.prog 31 [(0, 1), (1, 1), (2, 1), (3, 1)] := pl31
theorem ze31 : Ze Go.Proofs.Try.prog 31 [.int .i64 (0), .int .i64 (0), .slice none 0 0, .slice none 0 0] := ze_of (z := .agg #[.int .i64 (0), .int .i64 (0), .slice none 0 0, .slice none 0 0]) (by kernel_rfl) rfl
instance : Ze Go.Proofs.Try.prog 31 [.int .i64 (0), .int .i64 (0), .slice none 0 0, .slice none 0 0] := ze31
theorem ag32 : Ag Go.Proofs.Try.prog 32 4 := ag_of Go.Proofs.Try.underlying32 (by kernel_rfl)
instance : Ag Go.Proofs.Try.prog 32 4 := ag32
theorem fd32_0 : Fd Go.Proofs.Try.prog 32 0 0 1 false := fd_of Go.Proofs.Try.underlying32 (off := 0) (ft := 3) rfl Go.Proofs.Try.underlying3 (n := 1) (by kernel_rfl) rfl (by decide)
instance : Fd Go.Proofs.Try.prog 32 0 0 1 false := fd32_0
theorem fd32_1 : Fd Go.Proofs.Try.prog 32 1 1 1 false := fd_of Go.Proofs.Try.underlying32 (off := 1) (ft := 3) rfl Go.Proofs.Try.underlying3 (n := 1) (by kernel_rfl) rfl (by decide)
instance : Fd Go.Proofs.Try.prog 32 1 1 1 false := fd32_1
theorem fd32_2 : Fd Go.Proofs.Try.prog 32 2 2 1 false := fd_of Go.Proofs.Try.underlying32 (off := 2) (ft := 30) rfl Go.Proofs.Try.underlying30 (n := 1) (by kernel_rfl) rfl (by decide)
instance : Fd Go.Proofs.Try.prog 32 2 2 1 false := fd32_2
theorem fd32_3 : Fd Go.Proofs.Try.prog 32 3 3 1 false := fd_of Go.Proofs.Try.underlying32 (off := 3) (ft := 30) rfl Go.Proofs.Try.underlying30 (n := 1) (by kernel_rfl) rfl (by decide)
instance : Fd Go.Proofs.Try.prog 32 3 3 1 false := fd32_3
theorem pl32 : Pl Go.Proofs.Try.prog 32 [(0, 1), (1, 1), (2, 1), (3, 1)] := pl_of Go.Proofs.Try.underlying32 (by kernel_rfl)
instance : Pl Go.Proofs.Try.prog 32 [(0, 1), (1, 1), (2, 1), (3, 1)] := pl32
theorem ze32 : Ze Go.Proofs.Try.prog 32 [.int .i64 (0), .int .i64 (0), .slice none 0 0, .slice none 0 0] := ze_of (z := .agg #[.int .i64 (0), .int .i64 (0), .slice none 0 0, .slice none 0 0]) (by kernel_rfl) rfl
instance : Ze Go.Proofs.Try.prog 32 [.int .i64 (0), .int .i64 (0), .slice none 0 0, .slice none 0 0] := ze32
theorem sc44 : Sc Go.Proofs.Try.prog 44 := sc_of Go.Proofs.Try.underlying44 rfl (by kernel_rfl)
instance : Sc Go.Proofs.Try.prog 44 := sc44
theorem ze44 : Ze Go.Proofs.Try.prog 44 [.slice none 0 0] := ze_of (z := .slice none 0 0) (by kernel_rfl) rfl
instance : Ze Go.Proofs.Try.prog 44 [.slice none 0 0] := ze44
theorem sl44 : Sl Go.Proofs.Try.prog 44 3 1 8 := sl_of (z := .int .i64 (0)) Go.Proofs.Try.underlying44 (by kernel_rfl) rfl (by decide)
instance : Sl Go.Proofs.Try.prog 44 3 1 8 := sl44
theorem sc49 : Sc Go.Proofs.Try.prog 49 := sc_of Go.Proofs.Try.underlying49 rfl (by kernel_rfl)
instance : Sc Go.Proofs.Try.prog 49 := sc49
theorem ze49 : Ze Go.Proofs.Try.prog 49 [.slice none 0 0] := ze_of (z := .slice none 0 0) (by kernel_rfl) rfl
instance : Ze Go.Proofs.Try.prog 49 [.slice none 0 0] := ze49
theorem sl49 : Sl Go.Proofs.Try.prog 49 5 1 1 := sl_of (z := .int .u8 (0)) Go.Proofs.Try.underlying49 (by kernel_rfl) rfl (by decide)
instance : Sl Go.Proofs.Try.prog 49 5 1 1 := sl49
theorem ag52 : Ag Go.Proofs.Try.prog 52 3 := ag_of Go.Proofs.Try.underlying52 (by kernel_rfl)
instance : Ag Go.Proofs.Try.prog 52 3 := ag52
theorem fd52_0 : Fd Go.Proofs.Try.prog 52 0 0 1 false := fd_of Go.Proofs.Try.underlying52 (off := 0) (ft := 3) rfl Go.Proofs.Try.underlying3 (n := 1) (by kernel_rfl) rfl (by decide)
instance : Fd Go.Proofs.Try.prog 52 0 0 1 false := fd52_0
theorem fd52_1 : Fd Go.Proofs.Try.prog 52 1 1 1 false := fd_of Go.Proofs.Try.underlying52 (off := 1) (ft := 3) rfl Go.Proofs.Try.underlying3 (n := 1) (by kernel_rfl) rfl (by decide)
instance : Fd Go.Proofs.Try.prog 52 1 1 1 false := fd52_1
theorem fd52_2 : Fd Go.Proofs.Try.prog 52 2 2 1 false := fd_of Go.Proofs.Try.underlying52 (off := 2) (ft := 3) rfl Go.Proofs.Try.underlying3 (n := 1) (by kernel_rfl) rfl (by decide)
instance : Fd Go.Proofs.Try.prog 52 2 2 1 false := fd52_2
theorem pl52 : Pl Go.Proofs.Try.prog 52 [(0, 1), (1, 1), (2, 1)] := pl_of Go.Proofs.Try.underlying52 (by kernel_rfl)
instance : Pl Go.Proofs.Try.prog 52 [(0, 1), (1, 1), (2, 1)] := pl52
theorem ze52 : Ze Go.Proofs.Try.prog 52 [.int .i64 (0), .int .i64 (0), .int .i64 (0)] := ze_of (z := .agg #[.int .i64 (0), .int .i64 (0), .int .i64 (0)]) (by kernel_rfl) rfl
instance : Ze Go.Proofs.Try.prog 52 [.int .i64 (0), .int .i64 (0), .int .i64 (0)] := ze52
theorem ag53 : Ag Go.Proofs.Try.prog 53 3 := ag_of Go.Proofs.Try.underlying53 (by kernel_rfl)
instance : Ag Go.Proofs.Try.prog 53 3 := ag53
theorem fd53_0 : Fd Go.Proofs.Try.prog 53 0 0 1 false := fd_of Go.Proofs.Try.underlying53 (off := 0) (ft := 3) rfl Go.Proofs.Try.underlying3 (n := 1) (by kernel_rfl) rfl (by decide)
instance : Fd Go.Proofs.Try.prog 53 0 0 1 false := fd53_0
theorem fd53_1 : Fd Go.Proofs.Try.prog 53 1 1 1 false := fd_of Go.Proofs.Try.underlying53 (off := 1) (ft := 3) rfl Go.Proofs.Try.underlying3 (n := 1) (by kernel_rfl) rfl (by decide)
instance : Fd Go.Proofs.Try.prog 53 1 1 1 false := fd53_1
theorem fd53_2 : Fd Go.Proofs.Try.prog 53 2 2 1 false := fd_of Go.Proofs.Try.underlying53 (off := 2) (ft := 3) rfl Go.Proofs.Try.underlying3 (n := 1) (by kernel_rfl) rfl (by decide)
instance : Fd Go.Proofs.Try.prog 53 2 2 1 false := fd53_2
theorem pl53 : Pl Go.Proofs.Try.prog 53 [(0, 1), (1, 1), (2, 1)] := pl_of Go.Proofs.Try.underlying53 (by kernel_rfl)
instance : Pl Go.Proofs.Try.prog 53 [(0, 1), (1, 1), (2, 1)] := pl53
theorem ze53 : Ze Go.Proofs.Try.prog 53 [.int .i64 (0), .int .i64 (0), .int .i64 (0)] := ze_of (z := .agg #[.int .i64 (0), .int .i64 (0), .int .i64 (0)]) (by kernel_rfl) rfl
instance : Ze Go.Proofs.Try.prog 53 [.int .i64 (0), .int .i64 (0), .int .i64 (0)] := ze53
theorem ag63 : Ag Go.Proofs.Try.prog 63 4 := ag_of Go.Proofs.Try.underlying63 (by kernel_rfl)
instance : Ag Go.Proofs.Try.prog 63 4 := ag63
theorem fd63_0 : Fd Go.Proofs.Try.prog 63 0 0 1 false := fd_of Go.Proofs.Try.underlying63 (off := 0) (ft := 3) rfl Go.Proofs.Try.underlying3 (n := 1) (by kernel_rfl) rfl (by decide)
instance : Fd Go.Proofs.Try.prog 63 0 0 1 false := fd63_0
theorem fd63_1 : Fd Go.Proofs.Try.prog 63 1 1 1 false := fd_of Go.Proofs.Try.underlying63 (off := 1) (ft := 3) rfl Go.Proofs.Try.underlying3 (n := 1) (by kernel_rfl) rfl (by decide)
instance : Fd Go.Proofs.Try.prog 63 1 1 1 false := fd63_1
theorem fd63_2 : Fd Go.Proofs.Try.prog 63 2 2 1 false := fd_of Go.Proofs.Try.underlying63 (off := 2) (ft := 3) rfl Go.Proofs.Try.underlying3 (n := 1) (by kernel_rfl) rfl (by decide)
instance : Fd Go.Proofs.Try.prog 63 2 2 1 false := fd63_2
theorem fd63_3 : Fd Go.Proofs.Try.prog 63 3 3 1 false := fd_of Go.Proofs.Try.underlying63 (off := 3) (ft := 3) rfl Go.Proofs.Try.underlying3 (n := 1) (by kernel_rfl) rfl (by decide)
instance : Fd Go.Proofs.Try.prog 63 3 3 1 false := fd63_3
theorem pl63 : Pl Go.Proofs.Try.prog 63 [(0, 1), (1, 1), (2, 1), (3, 1)] := pl_of Go.Proofs.Try.underlying63 (by kernel_rfl)
instance : Pl Go.Proofs.Try.prog 63 [(0, 1), (1, 1), (2, 1), (3, 1)] := pl63
theorem ze63 : Ze Go.Proofs.Try.prog 63 [.int .i64 (0), .int .i64 (0), .int .i64 (0), .int .i64 (0)] := ze_of (z := .agg #[.int .i64 (0), .int .i64 (0), .int .i64 (0), .int .i64 (0)]) (by kernel_rfl) rfl
instance : Ze Go.Proofs.Try.prog 63 [.int .i64 (0), .int .i64 (0), .int .i64 (0), .int .i64 (0)] := ze63
theorem ag64 : Ag Go.Proofs.Try.prog 64 4 := ag_of Go.Proofs.Try.underlying64 (by kernel_rfl)
instance : Ag Go.Proofs.Try.prog 64 4 := ag64
theorem fd64_0 : Fd Go.Proofs.Try.prog 64 0 0 1 false := fd_of Go.Proofs.Try.underlying64 (off := 0) (ft := 3) rfl Go.Proofs.Try.underlying3 (n := 1) (by kernel_rfl) rfl (by decide)
instance : Fd Go.Proofs.Try.prog 64 0 0 1 false := fd64_0
theorem fd64_1 : Fd Go.Proofs.Try.prog 64 1 1 1 false := fd_of Go.Proofs.Try.underlying64 (off := 1) (ft := 3) rfl Go.Proofs.Try.underlying3 (n := 1) (by kernel_rfl) rfl (by decide)
instance : Fd Go.Proofs.Try.prog 64 1 1 1 false := fd64_1
theorem fd64_2 : Fd Go.Proofs.Try.prog 64 2 2 1 false := fd_of Go.Proofs.Try.underlying64 (off := 2) (ft := 3) rfl Go.Proofs.Try.underlying3 (n := 1) (by kernel_rfl) rfl (by decide)
instance : Fd Go.Proofs.Try.prog 64 2 2 1 false := fd64_2
theorem fd64_3 : Fd Go.Proofs.Try.prog 64 3 3 1 false := fd_of Go.Proofs.Try.underlying64 (off := 3) (ft := 3) rfl Go.Proofs.Try.underlying3 (n := 1) (by kernel_rfl) rfl (by decide)
instance : Fd Go.Proofs.Try.prog 64 3 3 1 false := fd64_3
theorem pl64 : Pl Go.Proofs.Try.prog 64 [(0, 1), (1, 1), (2, 1), (3, 1)] := pl_of Go.Proofs.Try.underlying64 (by kernel_rfl)
instance : Pl Go.Proofs.Try.prog 64 [(0, 1), (1, 1), (2, 1), (3, 1)] := pl64
theorem ze64 : Ze Go.Proofs.Try.prog 64 [.int .i64 (0), .int .i64 (0), .int .i64 (0), .int .i64 (0)] := ze_of (z := .agg #[.int .i64 (0), .int .i64 (0), .int .i64 (0), .int .i64 (0)]) (by kernel_rfl) rfl
instance : Ze Go.Proofs.Try.prog 64 [.int .i64 (0), .int .i64 (0), .int .i64 (0), .int .i64 (0)] := ze64
theorem sc77 : Sc Go.Proofs.Try.prog 77 := sc_of Go.Proofs.Try.underlying77 rfl (by kernel_rfl)
instance : Sc Go.Proofs.Try.prog 77 := sc77
theorem ze77 : Ze Go.Proofs.Try.prog 77 [.slice none 0 0] := ze_of (z := .slice none 0 0) (by kernel_rfl) rfl
instance : Ze Go.Proofs.Try.prog 77 [.slice none 0 0] := ze77
theorem sl77 : Sl Go.Proofs.Try.prog 77 22 1 24 := sl_of (z := .slice none 0 0) Go.Proofs.Try.underlying77 (by kernel_rfl) rfl (by decide)
instance : Sl Go.Proofs.Try.prog 77 22 1 24 := sl77
theorem sc83 : Sc Go.Proofs.Try.prog 83 := sc_of Go.Proofs.Try.underlying83 rfl (by kernel_rfl)
instance : Sc Go.Proofs.Try.prog 83 := sc83
theorem ze83 : Ze Go.Proofs.Try.prog 83 [.pointer none] := ze_of (z := .pointer none) (by kernel_rfl) rfl
instance : Ze Go.Proofs.Try.prog 83 [.pointer none] := ze83
theorem ag95 : Ag Go.Proofs.Try.prog 95 3 := ag_of Go.Proofs.Try.underlying95 (by kernel_rfl)
instance : Ag Go.Proofs.Try.prog 95 3 := ag95
theorem fd95_0 : Fd Go.Proofs.Try.prog 95 0 0 1 false := fd_of Go.Proofs.Try.underlying95 (off := 0) (ft := 3) rfl Go.Proofs.Try.underlying3 (n := 1) (by kernel_rfl) rfl (by decide)
instance : Fd Go.Proofs.Try.prog 95 0 0 1 false := fd95_0
theorem fd95_1 : Fd Go.Proofs.Try.prog 95 1 1 1 false := fd_of Go.Proofs.Try.underlying95 (off := 1) (ft := 3) rfl Go.Proofs.Try.underlying3 (n := 1) (by kernel_rfl) rfl (by decide)
instance : Fd Go.Proofs.Try.prog 95 1 1 1 false := fd95_1
theorem fd95_2 : Fd Go.Proofs.Try.prog 95 2 2 1 false := fd_of Go.Proofs.Try.underlying95 (off := 2) (ft := 3) rfl Go.Proofs.Try.underlying3 (n := 1) (by kernel_rfl) rfl (by decide)
instance : Fd Go.Proofs.Try.prog 95 2 2 1 false := fd95_2
theorem pl95 : Pl Go.Proofs.Try.prog 95 [(0, 1), (1, 1), (2, 1)] := pl_of Go.Proofs.Try.underlying95 (by kernel_rfl)
instance : Pl Go.Proofs.Try.prog 95 [(0, 1), (1, 1), (2, 1)] := pl95
theorem ze95 : Ze Go.Proofs.Try.prog 95 [.int .i64 (0), .int .i64 (0), .int .i64 (0)] := ze_of (z := .agg #[.int .i64 (0), .int .i64 (0), .int .i64 (0)]) (by kernel_rfl) rfl
instance : Ze Go.Proofs.Try.prog 95 [.int .i64 (0), .int .i64 (0), .int .i64 (0)] := ze95
theorem ag98 : Ag Go.Proofs.Try.prog 98 3 := ag_of Go.Proofs.Try.underlying98 (by kernel_rfl)
instance : Ag Go.Proofs.Try.prog 98 3 := ag98
theorem fd98_0 : Fd Go.Proofs.Try.prog 98 0 0 1 false := fd_of Go.Proofs.Try.underlying98 (off := 0) (ft := 49) rfl Go.Proofs.Try.underlying49 (n := 1) (by kernel_rfl) rfl (by decide)
instance : Fd Go.Proofs.Try.prog 98 0 0 1 false := fd98_0
theorem fd98_1 : Fd Go.Proofs.Try.prog 98 1 1 1 false := fd_of Go.Proofs.Try.underlying98 (off := 1) (ft := 3) rfl Go.Proofs.Try.underlying3 (n := 1) (by kernel_rfl) rfl (by decide)
instance : Fd Go.Proofs.Try.prog 98 1 1 1 false := fd98_1
theorem fd98_2 : Fd Go.Proofs.Try.prog 98 2 2 1 false := fd_of Go.Proofs.Try.underlying98 (off := 2) (ft := 3) rfl Go.Proofs.Try.underlying3 (n := 1) (by kernel_rfl) rfl (by decide)
instance : Fd Go.Proofs.Try.prog 98 2 2 1 false := fd98_2
theorem pl98 : Pl Go.Proofs.Try.prog 98 [(0, 1), (1, 1), (2, 1)] := pl_of Go.Proofs.Try.underlying98 (by kernel_rfl)
instance : Pl Go.Proofs.Try.prog 98 [(0, 1), (1, 1), (2, 1)] := pl98
theorem ze98 : Ze Go.Proofs.Try.prog 98 [.slice none 0 0, .int .i64 (0), .int .i64 (0)] := ze_of (z := .agg #[.slice none 0 0, .int .i64 (0), .int .i64 (0)]) (by kernel_rfl) rfl
instance : Ze Go.Proofs.Try.prog 98 [.slice none 0 0, .int .i64 (0), .int .i64 (0)] := ze98
theorem ag99 : Ag Go.Proofs.Try.prog 99 3 := ag_of Go.Proofs.Try.underlying99 (by kernel_rfl)
instance : Ag Go.Proofs.Try.prog 99 3 := ag99
theorem fd99_0 : Fd Go.Proofs.Try.prog 99 0 0 1 false := fd_of Go.Proofs.Try.underlying99 (off := 0) (ft := 49) rfl Go.Proofs.Try.underlying49 (n := 1) (by kernel_rfl) rfl (by decide)
instance : Fd Go.Proofs.Try.prog 99 0 0 1 false := fd99_0
theorem fd99_1 : Fd Go.Proofs.Try.prog 99 1 1 1 false := fd_of Go.Proofs.Try.underlying99 (off := 1) (ft := 3) rfl Go.Proofs.Try.underlying3 (n := 1) (by kernel_rfl) rfl (by decide)
instance : Fd Go.Proofs.Try.prog 99 1 1 1 false := fd99_1
theorem fd99_2 : Fd Go.Proofs.Try.prog 99 2 2 1 false := fd_of Go.Proofs.Try.underlying99 (off := 2) (ft := 3) rfl Go.Proofs.Try.underlying3 (n := 1) (by kernel_rfl) rfl (by decide)
instance : Fd Go.Proofs.Try.prog 99 2 2 1 false := fd99_2
theorem pl99 : Pl Go.Proofs.Try.prog 99 [(0, 1), (1, 1), (2, 1)] := pl_of Go.Proofs.Try.underlying99 (by kernel_rfl)
instance : Pl Go.Proofs.Try.prog 99 [(0, 1), (1, 1), (2, 1)] := pl99
theorem ze99 : Ze Go.Proofs.Try.prog 99 [.slice none 0 0, .int .i64 (0), .int .i64 (0)] := ze_of (z := .agg #[.slice none 0 0, .int .i64 (0), .int .i64 (0)]) (by kernel_rfl) rfl
instance : Ze Go.Proofs.Try.prog 99 [.slice none 0 0, .int .i64 (0), .int .i64 (0)] := ze99
theorem sc102 : Sc Go.Proofs.Try.prog 102 := sc_of Go.Proofs.Try.underlying102 rfl (by kernel_rfl)
instance : Sc Go.Proofs.Try.prog 102 := sc102
theorem ze102 : Ze Go.Proofs.Try.prog 102 [.int .u64 (0)] := ze_of (z := .int .u64 (0)) (by kernel_rfl) rfl
instance : Ze Go.Proofs.Try.prog 102 [.int .u64 (0)] := ze102
theorem ik102 : Ik Go.Proofs.Try.prog 102 .u64 := ⟨Go.Proofs.Try.underlying102⟩
instance : Ik Go.Proofs.Try.prog 102 .u64 := ik102
theorem sc111 : Sc Go.Proofs.Try.prog 111 := sc_of Go.Proofs.Try.underlying111 rfl (by kernel_rfl)
instance : Sc Go.Proofs.Try.prog 111 := sc111
theorem ze111 : Ze Go.Proofs.Try.prog 111 [.int .u32 (0)] := ze_of (z := .int .u32 (0)) (by kernel_rfl) rfl
instance : Ze Go.Proofs.Try.prog 111 [.int .u32 (0)] := ze111
theorem ik111 : Ik Go.Proofs.Try.prog 111 .u32 := ⟨Go.Proofs.Try.underlying111⟩
instance : Ik Go.Proofs.Try.prog 111 .u32 := ik111
theorem sc115 : Sc Go.Proofs.Try.prog 115 := sc_of Go.Proofs.Try.underlying115 rfl (by kernel_rfl)
instance : Sc Go.Proofs.Try.prog 115 := sc115
theorem ze115 : Ze Go.Proofs.Try.prog 115 [.pointer none] := ze_of (z := .pointer none) (by kernel_rfl) rfl
instance : Ze Go.Proofs.Try.prog 115 [.pointer none] := ze115
def tab : Tab where
  ag := [(13, 2), (23, 4), (24, 4), (31, 4), (32, 4), (52, 3), (53, 3), (63, 4), (64, 4), (95, 3), (98, 3), (99, 3)]
  sc := [2, 3, 4, 5, 9, 12, 21, 22, 30, 44, 49, 77, 83, 102, 111, 115]
  fd := [((13, 0), (0, 1, false)), ((13, 1), (1, 1, false)), ((23, 0), (0, 1, false)), ((23, 1), (1, 1, false)), ((23, 2), (2, 1, false)), ((23, 3), (3, 1, false)), ((24, 0), (0, 1, false)), ((24, 1), (1, 1, false)), ((24, 2), (2, 1, false)), ((24, 3), (3, 1, false)), ((31, 0), (0, 1, false)), ((31, 1), (1, 1, false)), ((31, 2), (2, 1, false)), ((31, 3), (3, 1, false)), ((32, 0), (0, 1, false)), ((32, 1), (1, 1, false)), ((32, 2), (2, 1, false)), ((32, 3), (3, 1, false)), ((52, 0), (0, 1, false)), ((52, 1), (1, 1, false)), ((52, 2), (2, 1, false)), ((53, 0), (0, 1, false)), ((53, 1), (1, 1, false)), ((53, 2), (2, 1, false)), ((63, 0), (0, 1, false)), ((63, 1), (1, 1, false)), ((63, 2), (2, 1, false)), ((63, 3), (3, 1, false)), ((64, 0), (0, 1, false)), ((64, 1), (1, 1, false)), ((64, 2), (2, 1, false)), ((64, 3), (3, 1, false)), ((95, 0), (0, 1, false)), ((95, 1), (1, 1, false)), ((95, 2), (2, 1, false)), ((98, 0), (0, 1, false)), ((98, 1), (1, 1, false)), ((98, 2), (2, 1, false)), ((99, 0), (0, 1, false)), ((99, 1), (1, 1, false)), ((99, 2), (2, 1, false))]
  ze := [(2, [.int .i64 (0)]), (3, [.int .i64 (0)]), (4, [.bool false]), (5, [.int .u8 (0)]), (9, [.string .empty]), (12, [.int .u64 (0)]), (13, [.string .empty, .int .u64 (0)]), (21, [.int .i32 (0)]), (22, [.slice none 0 0]), (23, [.int .i64 (0), .int .i64 (0), .slice none 0 0, .slice none 0 0]), (24, [.int .i64 (0), .int .i64 (0), .slice none 0 0, .slice none 0 0]), (30, [.slice none 0 0]), (31, [.int .i64 (0), .int .i64 (0), .slice none 0 0, .slice none 0 0]), (32, [.int .i64 (0), .int .i64 (0), .slice none 0 0, .slice none 0 0]), (44, [.slice none 0 0]), (49, [.slice none 0 0]), (52, [.int .i64 (0), .int .i64 (0), .int .i64 (0)]), (53, [.int .i64 (0), .int .i64 (0), .int .i64 (0)]), (63, [.int .i64 (0), .int .i64 (0), .int .i64 (0), .int .i64 (0)]), (64, [.int .i64 (0), .int .i64 (0), .int .i64 (0), .int .i64 (0)]), (77, [.slice none 0 0]), (83, [.pointer none]), (95, [.int .i64 (0), .int .i64 (0), .int .i64 (0)]), (98, [.slice none 0 0, .int .i64 (0), .int .i64 (0)]), (99, [.slice none 0 0, .int .i64 (0), .int .i64 (0)]), (102, [.int .u64 (0)]), (111, [.int .u32 (0)]), (115, [.pointer none])]
  pl := [(13, [(0, 1), (1, 1)]), (23, [(0, 1), (1, 1), (2, 1), (3, 1)]), (24, [(0, 1), (1, 1), (2, 1), (3, 1)]), (31, [(0, 1), (1, 1), (2, 1), (3, 1)]), (32, [(0, 1), (1, 1), (2, 1), (3, 1)]), (52, [(0, 1), (1, 1), (2, 1)]), (53, [(0, 1), (1, 1), (2, 1)]), (63, [(0, 1), (1, 1), (2, 1), (3, 1)]), (64, [(0, 1), (1, 1), (2, 1), (3, 1)]), (95, [(0, 1), (1, 1), (2, 1)]), (98, [(0, 1), (1, 1), (2, 1)]), (99, [(0, 1), (1, 1), (2, 1)])]
  sl := [(22, (53, 3, 24)), (30, (95, 3, 24)), (44, (3, 1, 8)), (49, (5, 1, 1)), (77, (22, 1, 24))]
  ik := [(2, .i64), (3, .i64), (5, .u8), (12, .u64), (21, .i32), (102, .u64), (111, .u32)]
  str := [9]
  bl := [4]
instance : TabC Go.Proofs.Try.prog tab := ⟨{ ag := all_cons ag13 (all_cons ag23 (all_cons ag24 (all_cons ag31 (all_cons ag32 (all_cons ag52 (all_cons ag53 (all_cons ag63 (all_cons ag64 (all_cons ag95 (all_cons ag98 (all_cons ag99 (all_nil)))))))))))), sc := all_cons sc2 (all_cons sc3 (all_cons sc4 (all_cons sc5 (all_cons sc9 (all_cons sc12 (all_cons sc21 (all_cons sc22 (all_cons sc30 (all_cons sc44 (all_cons sc49 (all_cons sc77 (all_cons sc83 (all_cons sc102 (all_cons sc111 (all_cons sc115 (all_nil)))))))))))))))), fd := all_cons fd13_0 (all_cons fd13_1 (all_cons fd23_0 (all_cons fd23_1 (all_cons fd23_2 (all_cons fd23_3 (all_cons fd24_0 (all_cons fd24_1 (all_cons fd24_2 (all_cons fd24_3 (all_cons fd31_0 (all_cons fd31_1 (all_cons fd31_2 (all_cons fd31_3 (all_cons fd32_0 (all_cons fd32_1 (all_cons fd32_2 (all_cons fd32_3 (all_cons fd52_0 (all_cons fd52_1 (all_cons fd52_2 (all_cons fd53_0 (all_cons fd53_1 (all_cons fd53_2 (all_cons fd63_0 (all_cons fd63_1 (all_cons fd63_2 (all_cons fd63_3 (all_cons fd64_0 (all_cons fd64_1 (all_cons fd64_2 (all_cons fd64_3 (all_cons fd95_0 (all_cons fd95_1 (all_cons fd95_2 (all_cons fd98_0 (all_cons fd98_1 (all_cons fd98_2 (all_cons fd99_0 (all_cons fd99_1 (all_cons fd99_2 (all_nil))))))))))))))))))))))))))))))))))))))))), ze := all_cons ze2 (all_cons ze3 (all_cons ze4 (all_cons ze5 (all_cons ze9 (all_cons ze12 (all_cons ze13 (all_cons ze21 (all_cons ze22 (all_cons ze23 (all_cons ze24 (all_cons ze30 (all_cons ze31 (all_cons ze32 (all_cons ze44 (all_cons ze49 (all_cons ze52 (all_cons ze53 (all_cons ze63 (all_cons ze64 (all_cons ze77 (all_cons ze83 (all_cons ze95 (all_cons ze98 (all_cons ze99 (all_cons ze102 (all_cons ze111 (all_cons ze115 (all_nil)))))))))))))))))))))))))))), pl := all_cons pl13 (all_cons pl23 (all_cons pl24 (all_cons pl31 (all_cons pl32 (all_cons pl52 (all_cons pl53 (all_cons pl63 (all_cons pl64 (all_cons pl95 (all_cons pl98 (all_cons pl99 (all_nil)))))))))))), sl := all_cons sl22 (all_cons sl30 (all_cons sl44 (all_cons sl49 (all_cons sl77 (all_nil))))), ik := all_cons ik2 (all_cons ik3 (all_cons ik5 (all_cons ik12 (all_cons ik21 (all_cons ik102 (all_cons ik111 (all_nil))))))), str := all_cons str9 (all_nil), bl := all_cons bl4 (all_nil) }, by kernel_rfl⟩
instance : Ent Go.Proofs.Try.prog 3 := ent_of Go.Proofs.Try.func3 rfl (by decide)
instance : Ent Go.Proofs.Try.prog 4 := ent_of Go.Proofs.Try.func4 rfl (by decide)
instance : Ent Go.Proofs.Try.prog 5 := ent_of Go.Proofs.Try.func5 rfl (by decide)
instance : Ent Go.Proofs.Try.prog 6 := ent_of Go.Proofs.Try.func6 rfl (by decide)
instance : Ent Go.Proofs.Try.prog 7 := ent_of Go.Proofs.Try.func7 rfl (by decide)
instance : Ent Go.Proofs.Try.prog 8 := ent_of Go.Proofs.Try.func8 rfl (by decide)
instance : Ent Go.Proofs.Try.prog 9 := ent_of Go.Proofs.Try.func9 rfl (by decide)
instance : Ent Go.Proofs.Try.prog 10 := ent_of Go.Proofs.Try.func10 rfl (by decide)
instance : Ent Go.Proofs.Try.prog 11 := ent_of Go.Proofs.Try.func11 rfl (by decide)
instance : Ent Go.Proofs.Try.prog 12 := ent_of Go.Proofs.Try.func12 rfl (by decide)
instance : Ent Go.Proofs.Try.prog 13 := ent_of Go.Proofs.Try.func13 rfl (by decide)
instance : Ent Go.Proofs.Try.prog 14 := ent_of Go.Proofs.Try.func14 rfl (by decide)
instance : Ent Go.Proofs.Try.prog 15 := ent_of Go.Proofs.Try.func15 rfl (by decide)
instance : Ent Go.Proofs.Try.prog 16 := ent_of Go.Proofs.Try.func16 rfl (by decide)
instance : Ent Go.Proofs.Try.prog 17 := ent_of Go.Proofs.Try.func17 rfl (by decide)
instance : Ent Go.Proofs.Try.prog 18 := ent_of Go.Proofs.Try.func18 rfl (by decide)
instance : Ent Go.Proofs.Try.prog 19 := ent_of Go.Proofs.Try.func19 rfl (by decide)
instance : Ent Go.Proofs.Try.prog 20 := ent_of Go.Proofs.Try.func20 rfl (by decide)
instance : Ent Go.Proofs.Try.prog 21 := ent_of Go.Proofs.Try.func21 rfl (by decide)
instance : Ent Go.Proofs.Try.prog 22 := ent_of Go.Proofs.Try.func22 rfl (by decide)
instance : Ent Go.Proofs.Try.prog 23 := ent_of Go.Proofs.Try.func23 rfl (by decide)
instance : Ent Go.Proofs.Try.prog 24 := ent_of Go.Proofs.Try.func24 rfl (by decide)
instance : Ent Go.Proofs.Try.prog 25 := ent_of Go.Proofs.Try.func25 rfl (by decide)
instance : Ent Go.Proofs.Try.prog 26 := ent_of Go.Proofs.Try.func26 rfl (by decide)
instance : Ent Go.Proofs.Try.prog 27 := ent_of Go.Proofs.Try.func27 rfl (by decide)
instance : Ent Go.Proofs.Try.prog 28 := ent_of Go.Proofs.Try.func28 rfl (by decide)
instance : Ent Go.Proofs.Try.prog 29 := ent_of Go.Proofs.Try.func29 rfl (by decide)
instance : Ent Go.Proofs.Try.prog 30 := ent_of Go.Proofs.Try.func30 rfl (by decide)
instance : Ent Go.Proofs.Try.prog 31 := ent_of Go.Proofs.Try.func31 rfl (by decide)
instance : Ent Go.Proofs.Try.prog 32 := ent_of Go.Proofs.Try.func32 rfl (by decide)
instance : Ent Go.Proofs.Try.prog 33 := ent_of Go.Proofs.Try.func33 rfl (by decide)
instance : Ent Go.Proofs.Try.prog 34 := ent_of Go.Proofs.Try.func34 rfl (by decide)
instance : Ent Go.Proofs.Try.prog 35 := ent_of Go.Proofs.Try.func35 rfl (by decide)
instance : Ent Go.Proofs.Try.prog 36 := ent_of Go.Proofs.Try.func36 rfl (by decide)
instance : Ent Go.Proofs.Try.prog 37 := ent_of Go.Proofs.Try.func37 rfl (by decide)
instance : Ent Go.Proofs.Try.prog 38 := ent_of Go.Proofs.Try.func38 rfl (by decide)
instance : Ent Go.Proofs.Try.prog 39 := ent_of Go.Proofs.Try.func39 rfl (by decide)
instance : Ent Go.Proofs.Try.prog 40 := ent_of Go.Proofs.Try.func40 rfl (by decide)
instance : Ent Go.Proofs.Try.prog 41 := ent_of Go.Proofs.Try.func41 rfl (by decide)
instance : Ent Go.Proofs.Try.prog 42 := ent_of Go.Proofs.Try.func42 rfl (by decide)
instance : Ent Go.Proofs.Try.prog 43 := ent_of Go.Proofs.Try.func43 rfl (by decide)
instance : Ent Go.Proofs.Try.prog 44 := ent_of Go.Proofs.Try.func44 rfl (by decide)
instance : Ent Go.Proofs.Try.prog 45 := ent_of Go.Proofs.Try.func45 rfl (by decide)
instance : Ent Go.Proofs.Try.prog 46 := ent_of Go.Proofs.Try.func46 rfl (by decide)
instance : Ent Go.Proofs.Try.prog 47 := ent_of Go.Proofs.Try.func47 rfl (by decide)
instance : Ent Go.Proofs.Try.prog 48 := ent_of Go.Proofs.Try.func48 rfl (by decide)
instance : Ent Go.Proofs.Try.prog 49 := ent_of Go.Proofs.Try.func49 rfl (by decide)
instance : Ent Go.Proofs.Try.prog 50 := ent_of Go.Proofs.Try.func50 rfl (by decide)
instance : Ent Go.Proofs.Try.prog 51 := ent_of Go.Proofs.Try.func51 rfl (by decide)
instance : Ent Go.Proofs.Try.prog 52 := ent_of Go.Proofs.Try.func52 rfl (by decide)
instance : Ent Go.Proofs.Try.prog 53 := ent_of Go.Proofs.Try.func53 rfl (by decide)
instance : Ent Go.Proofs.Try.prog 54 := ent_of Go.Proofs.Try.func54 rfl (by decide)
instance : Ent Go.Proofs.Try.prog 55 := ent_of Go.Proofs.Try.func55 rfl (by decide)
instance : Ent Go.Proofs.Try.prog 56 := ent_of Go.Proofs.Try.func56 rfl (by decide)
instance : Ent Go.Proofs.Try.prog 57 := ent_of Go.Proofs.Try.func57 rfl (by decide)
instance : Ent Go.Proofs.Try.prog 58 := ent_of Go.Proofs.Try.func58 rfl (by decide)
instance : Ent Go.Proofs.Try.prog 59 := ent_of Go.Proofs.Try.func59 rfl (by decide)
instance : Ent Go.Proofs.Try.prog 60 := ent_of Go.Proofs.Try.func60 rfl (by decide)
instance : Ent Go.Proofs.Try.prog 61 := ent_of Go.Proofs.Try.func61 rfl (by decide)
instance : Ent Go.Proofs.Try.prog 62 := ent_of Go.Proofs.Try.func62 rfl (by decide)
instance : Ent Go.Proofs.Try.prog 63 := ent_of Go.Proofs.Try.func63 rfl (by decide)
instance : Ent Go.Proofs.Try.prog 64 := ent_of Go.Proofs.Try.func64 rfl (by decide)
instance : Ent Go.Proofs.Try.prog 65 := ent_of Go.Proofs.Try.func65 rfl (by decide)
instance : Ent Go.Proofs.Try.prog 66 := ent_of Go.Proofs.Try.func66 rfl (by decide)
instance : Ent Go.Proofs.Try.prog 67 := ent_of Go.Proofs.Try.func67 rfl (by decide)
instance : Ent Go.Proofs.Try.prog 68 := ent_of Go.Proofs.Try.func68 rfl (by decide)
instance : Ent Go.Proofs.Try.prog 69 := ent_of Go.Proofs.Try.func69 rfl (by decide)
instance : Ent Go.Proofs.Try.prog 70 := ent_of Go.Proofs.Try.func70 rfl (by decide)
instance : Ent Go.Proofs.Try.prog 71 := ent_of Go.Proofs.Try.func71 rfl (by decide)
instance : Ent Go.Proofs.Try.prog 72 := ent_of Go.Proofs.Try.func72 rfl (by decide)
instance : Ent Go.Proofs.Try.prog 73 := ent_of Go.Proofs.Try.func73 rfl (by decide)
instance : Ent Go.Proofs.Try.prog 74 := ent_of Go.Proofs.Try.func74 rfl (by decide)
instance : Ent Go.Proofs.Try.prog 75 := ent_of Go.Proofs.Try.func75 rfl (by decide)
instance : Ent Go.Proofs.Try.prog 76 := ent_of Go.Proofs.Try.func76 rfl (by decide)
instance : Ent Go.Proofs.Try.prog 77 := ent_of Go.Proofs.Try.func77 rfl (by decide)
instance : Ent Go.Proofs.Try.prog 78 := ent_of Go.Proofs.Try.func78 rfl (by decide)
instance : Ent Go.Proofs.Try.prog 79 := ent_of Go.Proofs.Try.func79 rfl (by decide)
instance : Ent Go.Proofs.Try.prog 80 := ent_of Go.Proofs.Try.func80 rfl (by decide)
instance : Ent Go.Proofs.Try.prog 81 := ent_of Go.Proofs.Try.func81 rfl (by decide)
instance : Ent Go.Proofs.Try.prog 82 := ent_of Go.Proofs.Try.func82 rfl (by decide)
instance : Ent Go.Proofs.Try.prog 83 := ent_of Go.Proofs.Try.func83 rfl (by decide)
instance : Ent Go.Proofs.Try.prog 84 := ent_of Go.Proofs.Try.func84 rfl (by decide)
instance : Ent Go.Proofs.Try.prog 85 := ent_of Go.Proofs.Try.func85 rfl (by decide)
instance : Ent Go.Proofs.Try.prog 86 := ent_of Go.Proofs.Try.func86 rfl (by decide)
instance : Ent Go.Proofs.Try.prog 87 := ent_of Go.Proofs.Try.func87 rfl (by decide)
instance : Ent Go.Proofs.Try.prog 88 := ent_of Go.Proofs.Try.func88 rfl (by decide)
instance : Ent Go.Proofs.Try.prog 89 := ent_of Go.Proofs.Try.func89 rfl (by decide)
instance : Ent Go.Proofs.Try.prog 90 := ent_of Go.Proofs.Try.func90 rfl (by decide)
instance : Ent Go.Proofs.Try.prog 91 := ent_of Go.Proofs.Try.func91 rfl (by decide)
instance : Ent Go.Proofs.Try.prog 92 := ent_of Go.Proofs.Try.func92 rfl (by decide)
instance : Ent Go.Proofs.Try.prog 93 := ent_of Go.Proofs.Try.func93 rfl (by decide)
instance : Ent Go.Proofs.Try.prog 94 := ent_of Go.Proofs.Try.func94 rfl (by decide)
instance : Ent Go.Proofs.Try.prog 95 := ent_of Go.Proofs.Try.func95 rfl (by decide)
instance : Ent Go.Proofs.Try.prog 97 := ent_of Go.Proofs.Try.func97 rfl (by decide)
instance : Ent Go.Proofs.Try.prog 98 := ent_of Go.Proofs.Try.func98 rfl (by decide)
instance : Ent Go.Proofs.Try.prog 99 := ent_of Go.Proofs.Try.func99 rfl (by decide)
instance : Ent Go.Proofs.Try.prog 100 := ent_of Go.Proofs.Try.func100 rfl (by decide)
end Go.Proofs.Ytjlhfemfmkdlhaa.Ab
