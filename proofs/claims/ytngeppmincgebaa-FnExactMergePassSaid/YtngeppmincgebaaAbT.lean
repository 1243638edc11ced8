/-
  The seat's types and functions, as the abstract walk asks for them. Written by wip/tools/abtypes.py.
-/
import Derived.Test.YtngeppmincgebaaProg
import Derived.Test.YtngeppmincgebaaAbN
set_option maxRecDepth 100000
namespace Go.Proofs.Ytngeppmincgebaa.Ab
theorem sc2 : Sc Go.Proofs.Try.prog 2 := sc_of Go.Proofs.Try.underlying2 rfl (by kernel_rfl)
instance : Sc Go.Proofs.Try.prog 2 := sc2
theorem ze2 : Ze Go.Proofs.Try.prog 2 [.int .i64 (0)] := ze_of (z := .int .i64 (0)) (by kernel_rfl) rfl
instance : Ze Go.Proofs.Try.prog 2 [.int .i64 (0)] := ze2
theorem ik2 : Ik Go.Proofs.Try.prog 2 .i64 := ⟨Go.Proofs.Try.underlying2⟩
instance : Ik Go.Proofs.Try.prog 2 .i64 := ik2
theorem sc3 : Sc Go.Proofs.Try.prog 3 := sc_of Go.Proofs.Try.underlying3 rfl (by kernel_rfl)
instance : Sc Go.Proofs.Try.prog 3 := sc3
theorem ze3 : Ze Go.Proofs.Try.prog 3 [.int .i64 (0)] := ze_of (z := .int .i64 (0)) (by kernel_rfl) rfl
instance : Ze Go.Proofs.Try.prog 3 [.int .i64 (0)] := ze3
theorem ik3 : Ik Go.Proofs.Try.prog 3 .i64 := ⟨Go.Proofs.Try.underlying3⟩
instance : Ik Go.Proofs.Try.prog 3 .i64 := ik3
theorem sc4 : Sc Go.Proofs.Try.prog 4 := sc_of Go.Proofs.Try.underlying4 rfl (by kernel_rfl)
instance : Sc Go.Proofs.Try.prog 4 := sc4
theorem ze4 : Ze Go.Proofs.Try.prog 4 [.bool false] := ze_of (z := .bool false) (by kernel_rfl) rfl
instance : Ze Go.Proofs.Try.prog 4 [.bool false] := ze4
theorem bl4 : Go.Proofs.Try.prog.underlying 4 = some .bool := Go.Proofs.Try.underlying4
theorem sc5 : Sc Go.Proofs.Try.prog 5 := sc_of Go.Proofs.Try.underlying5 rfl (by kernel_rfl)
instance : Sc Go.Proofs.Try.prog 5 := sc5
theorem ze5 : Ze Go.Proofs.Try.prog 5 [.int .u8 (0)] := ze_of (z := .int .u8 (0)) (by kernel_rfl) rfl
instance : Ze Go.Proofs.Try.prog 5 [.int .u8 (0)] := ze5
theorem ik5 : Ik Go.Proofs.Try.prog 5 .u8 := ⟨Go.Proofs.Try.underlying5⟩
instance : Ik Go.Proofs.Try.prog 5 .u8 := ik5
theorem sc9 : Sc Go.Proofs.Try.prog 9 := sc_of Go.Proofs.Try.underlying9 rfl (by kernel_rfl)
instance : Sc Go.Proofs.Try.prog 9 := sc9
theorem ze9 : Ze Go.Proofs.Try.prog 9 [.string .empty] := ze_of (z := .string .empty) (by kernel_rfl) rfl
instance : Ze Go.Proofs.Try.prog 9 [.string .empty] := ze9
theorem str9 : Str Go.Proofs.Try.prog 9 := ⟨Go.Proofs.Try.underlying9⟩
instance : Str Go.Proofs.Try.prog 9 := str9
theorem sc12 : Sc Go.Proofs.Try.prog 12 := sc_of Go.Proofs.Try.underlying12 rfl (by kernel_rfl)
instance : Sc Go.Proofs.Try.prog 12 := sc12
theorem ze12 : Ze Go.Proofs.Try.prog 12 [.int .u64 (0)] := ze_of (z := .int .u64 (0)) (by kernel_rfl) rfl
instance : Ze Go.Proofs.Try.prog 12 [.int .u64 (0)] := ze12
theorem ik12 : Ik Go.Proofs.Try.prog 12 .u64 := ⟨Go.Proofs.Try.underlying12⟩
instance : Ik Go.Proofs.Try.prog 12 .u64 := ik12
theorem ag13 : Ag Go.Proofs.Try.prog 13 2 := ag_of Go.Proofs.Try.underlying13 (by kernel_rfl)
instance : Ag Go.Proofs.Try.prog 13 2 := ag13
theorem fd13_0 : Fd Go.Proofs.Try.prog 13 0 0 1 false := fd_of Go.Proofs.Try.underlying13 (off := 0) (ft := 9) rfl Go.Proofs.Try.underlying9 (n := 1) (by kernel_rfl) rfl (by decide)
instance : Fd Go.Proofs.Try.prog 13 0 0 1 false := fd13_0
theorem fd13_1 : Fd Go.Proofs.Try.prog 13 1 1 1 false := fd_of Go.Proofs.Try.underlying13 (off := 1) (ft := 12) rfl Go.Proofs.Try.underlying12 (n := 1) (by kernel_rfl) rfl (by decide)
instance : Fd Go.Proofs.Try.prog 13 1 1 1 false := fd13_1
theorem pl13 : Pl Go.Proofs.Try.prog 13 [(0, 1), (1, 1)] := pl_of Go.Proofs.Try.underlying13 (by kernel_rfl)
instance : Pl Go.Proofs.Try.prog 13 [(0, 1), (1, 1)] := pl13
theorem ze13 : Ze Go.Proofs.Try.prog 13 [.string .empty, .int .u64 (0)] := ze_of (z := .agg #[.string .empty, .int .u64 (0)]) (by kernel_rfl) rfl
instance : Ze Go.Proofs.Try.prog 13 [.string .empty, .int .u64 (0)] := ze13
theorem sc21 : Sc Go.Proofs.Try.prog 21 := sc_of Go.Proofs.Try.underlying21 rfl (by kernel_rfl)
instance : Sc Go.Proofs.Try.prog 21 := sc21
theorem ze21 : Ze Go.Proofs.Try.prog 21 [.int .i32 (0)] := ze_of (z := .int .i32 (0)) (by kernel_rfl) rfl
instance : Ze Go.Proofs.Try.prog 21 [.int .i32 (0)] := ze21
theorem ik21 : Ik Go.Proofs.Try.prog 21 .i32 := ⟨Go.Proofs.Try.underlying21⟩
instance : Ik Go.Proofs.Try.prog 21 .i32 := ik21
theorem sc22 : Sc Go.Proofs.Try.prog 22 := sc_of Go.Proofs.Try.underlying22 rfl (by kernel_rfl)
instance : Sc Go.Proofs.Try.prog 22 := sc22
theorem ze22 : Ze Go.Proofs.Try.prog 22 [.slice none 0 0] := ze_of (z := .slice none 0 0) (by kernel_rfl) rfl
instance : Ze Go.Proofs.Try.prog 22 [.slice none 0 0] := ze22
theorem sl22 : Sl Go.Proofs.Try.prog 22 77 3 24 := sl_of (z := .agg #[.int .i64 (0), .int .i64 (0), .int .i64 (0)]) Go.Proofs.Try.underlying22 (by kernel_rfl) rfl (by decide)
instance : Sl Go.Proofs.Try.prog 22 77 3 24 := sl22
theorem sc25 : Sc Go.Proofs.Try.prog 25 := sc_of Go.Proofs.Try.underlying25 rfl (by kernel_rfl)
instance : Sc Go.Proofs.Try.prog 25 := sc25
theorem ze25 : Ze Go.Proofs.Try.prog 25 [.slice none 0 0] := ze_of (z := .slice none 0 0) (by kernel_rfl) rfl
instance : Ze Go.Proofs.Try.prog 25 [.slice none 0 0] := ze25
theorem sl25 : Sl Go.Proofs.Try.prog 25 75 3 24 := sl_of (z := .agg #[.int .i64 (0), .int .i64 (0), .int .i64 (0)]) Go.Proofs.Try.underlying25 (by kernel_rfl) rfl (by decide)
instance : Sl Go.Proofs.Try.prog 25 75 3 24 := sl25
theorem sc29 : Sc Go.Proofs.Try.prog 29 := sc_of Go.Proofs.Try.underlying29 rfl (by kernel_rfl)
instance : Sc Go.Proofs.Try.prog 29 := sc29
theorem ze29 : Ze Go.Proofs.Try.prog 29 [.slice none 0 0] := ze_of (z := .slice none 0 0) (by kernel_rfl) rfl
instance : Ze Go.Proofs.Try.prog 29 [.slice none 0 0] := ze29
theorem sl29 : Sl Go.Proofs.Try.prog 29 83 5 40 := sl_of (z := .agg #[.int .i64 (0), .int .i64 (0), .int .i64 (0), .int .i64 (0), .int .i64 (0)]) Go.Proofs.Try.underlying29 (by kernel_rfl) rfl (by decide)
instance : Sl Go.Proofs.Try.prog 29 83 5 40 := sl29
theorem sc32 : Sc Go.Proofs.Try.prog 32 := sc_of Go.Proofs.Try.underlying32 rfl (by kernel_rfl)
instance : Sc Go.Proofs.Try.prog 32 := sc32
theorem ze32 : Ze Go.Proofs.Try.prog 32 [.slice none 0 0] := ze_of (z := .slice none 0 0) (by kernel_rfl) rfl
instance : Ze Go.Proofs.Try.prog 32 [.slice none 0 0] := ze32
theorem sl32 : Sl Go.Proofs.Try.prog 32 81 5 40 := sl_of (z := .agg #[.int .i64 (0), .int .i64 (0), .int .i64 (0), .int .i64 (0), .int .i64 (0)]) Go.Proofs.Try.underlying32 (by kernel_rfl) rfl (by decide)
instance : Sl Go.Proofs.Try.prog 32 81 5 40 := sl32
theorem sc39 : Sc Go.Proofs.Try.prog 39 := sc_of Go.Proofs.Try.underlying39 rfl (by kernel_rfl)
instance : Sc Go.Proofs.Try.prog 39 := sc39
theorem ze39 : Ze Go.Proofs.Try.prog 39 [.slice none 0 0] := ze_of (z := .slice none 0 0) (by kernel_rfl) rfl
instance : Ze Go.Proofs.Try.prog 39 [.slice none 0 0] := ze39
theorem sl39 : Sl Go.Proofs.Try.prog 39 91 1 24 := sl_of (z := .agg #[.slice none 0 0]) Go.Proofs.Try.underlying39 (by kernel_rfl) rfl (by decide)
instance : Sl Go.Proofs.Try.prog 39 91 1 24 := sl39
theorem sc42 : Sc Go.Proofs.Try.prog 42 := sc_of Go.Proofs.Try.underlying42 rfl (by kernel_rfl)
instance : Sc Go.Proofs.Try.prog 42 := sc42
theorem ze42 : Ze Go.Proofs.Try.prog 42 [.slice none 0 0] := ze_of (z := .slice none 0 0) (by kernel_rfl) rfl
instance : Ze Go.Proofs.Try.prog 42 [.slice none 0 0] := ze42
theorem sl42 : Sl Go.Proofs.Try.prog 42 93 1 24 := sl_of (z := .agg #[.slice none 0 0]) Go.Proofs.Try.underlying42 (by kernel_rfl) rfl (by decide)
instance : Sl Go.Proofs.Try.prog 42 93 1 24 := sl42
theorem sc47 : Sc Go.Proofs.Try.prog 47 := sc_of Go.Proofs.Try.underlying47 rfl (by kernel_rfl)
instance : Sc Go.Proofs.Try.prog 47 := sc47
theorem ze47 : Ze Go.Proofs.Try.prog 47 [.slice none 0 0] := ze_of (z := .slice none 0 0) (by kernel_rfl) rfl
instance : Ze Go.Proofs.Try.prog 47 [.slice none 0 0] := ze47
theorem sl47 : Sl Go.Proofs.Try.prog 47 101 7 56 := sl_of (z := .agg #[.int .i64 (0), .int .i64 (0), .int .i64 (0), .int .i64 (0), .int .i64 (0), .int .i64 (0), .bool false]) Go.Proofs.Try.underlying47 (by kernel_rfl) rfl (by decide)
instance : Sl Go.Proofs.Try.prog 47 101 7 56 := sl47
theorem sc50 : Sc Go.Proofs.Try.prog 50 := sc_of Go.Proofs.Try.underlying50 rfl (by kernel_rfl)
instance : Sc Go.Proofs.Try.prog 50 := sc50
theorem ze50 : Ze Go.Proofs.Try.prog 50 [.slice none 0 0] := ze_of (z := .slice none 0 0) (by kernel_rfl) rfl
instance : Ze Go.Proofs.Try.prog 50 [.slice none 0 0] := ze50
theorem sl50 : Sl Go.Proofs.Try.prog 50 98 7 56 := sl_of (z := .agg #[.int .i64 (0), .int .i64 (0), .int .i64 (0), .int .i64 (0), .int .i64 (0), .int .i64 (0), .bool false]) Go.Proofs.Try.underlying50 (by kernel_rfl) rfl (by decide)
instance : Sl Go.Proofs.Try.prog 50 98 7 56 := sl50
theorem ag58 : Ag Go.Proofs.Try.prog 58 10 := ag_of Go.Proofs.Try.underlying58 (by kernel_rfl)
instance : Ag Go.Proofs.Try.prog 58 10 := ag58
theorem fd58_0 : Fd Go.Proofs.Try.prog 58 0 0 1 false := fd_of Go.Proofs.Try.underlying58 (off := 0) (ft := 25) rfl Go.Proofs.Try.underlying25 (n := 1) (by kernel_rfl) rfl (by decide)
instance : Fd Go.Proofs.Try.prog 58 0 0 1 false := fd58_0
theorem fd58_1 : Fd Go.Proofs.Try.prog 58 1 1 1 false := fd_of Go.Proofs.Try.underlying58 (off := 1) (ft := 3) rfl Go.Proofs.Try.underlying3 (n := 1) (by kernel_rfl) rfl (by decide)
instance : Fd Go.Proofs.Try.prog 58 1 1 1 false := fd58_1
theorem fd58_2 : Fd Go.Proofs.Try.prog 58 2 2 1 false := fd_of Go.Proofs.Try.underlying58 (off := 2) (ft := 25) rfl Go.Proofs.Try.underlying25 (n := 1) (by kernel_rfl) rfl (by decide)
instance : Fd Go.Proofs.Try.prog 58 2 2 1 false := fd58_2
theorem fd58_3 : Fd Go.Proofs.Try.prog 58 3 3 1 false := fd_of Go.Proofs.Try.underlying58 (off := 3) (ft := 25) rfl Go.Proofs.Try.underlying25 (n := 1) (by kernel_rfl) rfl (by decide)
instance : Fd Go.Proofs.Try.prog 58 3 3 1 false := fd58_3
theorem fd58_4 : Fd Go.Proofs.Try.prog 58 4 4 1 false := fd_of Go.Proofs.Try.underlying58 (off := 4) (ft := 25) rfl Go.Proofs.Try.underlying25 (n := 1) (by kernel_rfl) rfl (by decide)
instance : Fd Go.Proofs.Try.prog 58 4 4 1 false := fd58_4
theorem fd58_5 : Fd Go.Proofs.Try.prog 58 5 5 1 false := fd_of Go.Proofs.Try.underlying58 (off := 5) (ft := 42) rfl Go.Proofs.Try.underlying42 (n := 1) (by kernel_rfl) rfl (by decide)
instance : Fd Go.Proofs.Try.prog 58 5 5 1 false := fd58_5
theorem fd58_6 : Fd Go.Proofs.Try.prog 58 6 6 1 false := fd_of Go.Proofs.Try.underlying58 (off := 6) (ft := 3) rfl Go.Proofs.Try.underlying3 (n := 1) (by kernel_rfl) rfl (by decide)
instance : Fd Go.Proofs.Try.prog 58 6 6 1 false := fd58_6
theorem fd58_7 : Fd Go.Proofs.Try.prog 58 7 7 1 false := fd_of Go.Proofs.Try.underlying58 (off := 7) (ft := 3) rfl Go.Proofs.Try.underlying3 (n := 1) (by kernel_rfl) rfl (by decide)
instance : Fd Go.Proofs.Try.prog 58 7 7 1 false := fd58_7
theorem fd58_8 : Fd Go.Proofs.Try.prog 58 8 8 1 false := fd_of Go.Proofs.Try.underlying58 (off := 8) (ft := 3) rfl Go.Proofs.Try.underlying3 (n := 1) (by kernel_rfl) rfl (by decide)
instance : Fd Go.Proofs.Try.prog 58 8 8 1 false := fd58_8
theorem fd58_9 : Fd Go.Proofs.Try.prog 58 9 9 1 false := fd_of Go.Proofs.Try.underlying58 (off := 9) (ft := 3) rfl Go.Proofs.Try.underlying3 (n := 1) (by kernel_rfl) rfl (by decide)
instance : Fd Go.Proofs.Try.prog 58 9 9 1 false := fd58_9
theorem pl58 : Pl Go.Proofs.Try.prog 58 [(0, 1), (1, 1), (2, 1), (3, 1), (4, 1), (5, 1), (6, 1), (7, 1), (8, 1), (9, 1)] := pl_of Go.Proofs.Try.underlying58 (by kernel_rfl)
instance : Pl Go.Proofs.Try.prog 58 [(0, 1), (1, 1), (2, 1), (3, 1), (4, 1), (5, 1), (6, 1), (7, 1), (8, 1), (9, 1)] := pl58
theorem ze58 : Ze Go.Proofs.Try.prog 58 [.slice none 0 0, .int .i64 (0), .slice none 0 0, .slice none 0 0, .slice none 0 0, .slice none 0 0, .int .i64 (0), .int .i64 (0), .int .i64 (0), .int .i64 (0)] := ze_of (z := .agg #[.slice none 0 0, .int .i64 (0), .slice none 0 0, .slice none 0 0, .slice none 0 0, .slice none 0 0, .int .i64 (0), .int .i64 (0), .int .i64 (0), .int .i64 (0)]) (by kernel_rfl) rfl
instance : Ze Go.Proofs.Try.prog 58 [.slice none 0 0, .int .i64 (0), .slice none 0 0, .slice none 0 0, .slice none 0 0, .slice none 0 0, .int .i64 (0), .int .i64 (0), .int .i64 (0), .int .i64 (0)] := ze58
theorem ag59 : Ag Go.Proofs.Try.prog 59 10 := ag_of Go.Proofs.Try.underlying59 (by kernel_rfl)
instance : Ag Go.Proofs.Try.prog 59 10 := ag59
theorem fd59_0 : Fd Go.Proofs.Try.prog 59 0 0 1 false := fd_of Go.Proofs.Try.underlying59 (off := 0) (ft := 25) rfl Go.Proofs.Try.underlying25 (n := 1) (by kernel_rfl) rfl (by decide)
instance : Fd Go.Proofs.Try.prog 59 0 0 1 false := fd59_0
theorem fd59_1 : Fd Go.Proofs.Try.prog 59 1 1 1 false := fd_of Go.Proofs.Try.underlying59 (off := 1) (ft := 3) rfl Go.Proofs.Try.underlying3 (n := 1) (by kernel_rfl) rfl (by decide)
instance : Fd Go.Proofs.Try.prog 59 1 1 1 false := fd59_1
theorem fd59_2 : Fd Go.Proofs.Try.prog 59 2 2 1 false := fd_of Go.Proofs.Try.underlying59 (off := 2) (ft := 25) rfl Go.Proofs.Try.underlying25 (n := 1) (by kernel_rfl) rfl (by decide)
instance : Fd Go.Proofs.Try.prog 59 2 2 1 false := fd59_2
theorem fd59_3 : Fd Go.Proofs.Try.prog 59 3 3 1 false := fd_of Go.Proofs.Try.underlying59 (off := 3) (ft := 25) rfl Go.Proofs.Try.underlying25 (n := 1) (by kernel_rfl) rfl (by decide)
instance : Fd Go.Proofs.Try.prog 59 3 3 1 false := fd59_3
theorem fd59_4 : Fd Go.Proofs.Try.prog 59 4 4 1 false := fd_of Go.Proofs.Try.underlying59 (off := 4) (ft := 25) rfl Go.Proofs.Try.underlying25 (n := 1) (by kernel_rfl) rfl (by decide)
instance : Fd Go.Proofs.Try.prog 59 4 4 1 false := fd59_4
theorem fd59_5 : Fd Go.Proofs.Try.prog 59 5 5 1 false := fd_of Go.Proofs.Try.underlying59 (off := 5) (ft := 42) rfl Go.Proofs.Try.underlying42 (n := 1) (by kernel_rfl) rfl (by decide)
instance : Fd Go.Proofs.Try.prog 59 5 5 1 false := fd59_5
theorem fd59_6 : Fd Go.Proofs.Try.prog 59 6 6 1 false := fd_of Go.Proofs.Try.underlying59 (off := 6) (ft := 3) rfl Go.Proofs.Try.underlying3 (n := 1) (by kernel_rfl) rfl (by decide)
instance : Fd Go.Proofs.Try.prog 59 6 6 1 false := fd59_6
theorem fd59_7 : Fd Go.Proofs.Try.prog 59 7 7 1 false := fd_of Go.Proofs.Try.underlying59 (off := 7) (ft := 3) rfl Go.Proofs.Try.underlying3 (n := 1) (by kernel_rfl) rfl (by decide)
instance : Fd Go.Proofs.Try.prog 59 7 7 1 false := fd59_7
theorem fd59_8 : Fd Go.Proofs.Try.prog 59 8 8 1 false := fd_of Go.Proofs.Try.underlying59 (off := 8) (ft := 3) rfl Go.Proofs.Try.underlying3 (n := 1) (by kernel_rfl) rfl (by decide)
instance : Fd Go.Proofs.Try.prog 59 8 8 1 false := fd59_8
theorem fd59_9 : Fd Go.Proofs.Try.prog 59 9 9 1 false := fd_of Go.Proofs.Try.underlying59 (off := 9) (ft := 3) rfl Go.Proofs.Try.underlying3 (n := 1) (by kernel_rfl) rfl (by decide)
instance : Fd Go.Proofs.Try.prog 59 9 9 1 false := fd59_9
theorem pl59 : Pl Go.Proofs.Try.prog 59 [(0, 1), (1, 1), (2, 1), (3, 1), (4, 1), (5, 1), (6, 1), (7, 1), (8, 1), (9, 1)] := pl_of Go.Proofs.Try.underlying59 (by kernel_rfl)
instance : Pl Go.Proofs.Try.prog 59 [(0, 1), (1, 1), (2, 1), (3, 1), (4, 1), (5, 1), (6, 1), (7, 1), (8, 1), (9, 1)] := pl59
theorem ze59 : Ze Go.Proofs.Try.prog 59 [.slice none 0 0, .int .i64 (0), .slice none 0 0, .slice none 0 0, .slice none 0 0, .slice none 0 0, .int .i64 (0), .int .i64 (0), .int .i64 (0), .int .i64 (0)] := ze_of (z := .agg #[.slice none 0 0, .int .i64 (0), .slice none 0 0, .slice none 0 0, .slice none 0 0, .slice none 0 0, .int .i64 (0), .int .i64 (0), .int .i64 (0), .int .i64 (0)]) (by kernel_rfl) rfl
instance : Ze Go.Proofs.Try.prog 59 [.slice none 0 0, .int .i64 (0), .slice none 0 0, .slice none 0 0, .slice none 0 0, .slice none 0 0, .int .i64 (0), .int .i64 (0), .int .i64 (0), .int .i64 (0)] := ze59
theorem ag64 : Ag Go.Proofs.Try.prog 64 10 := ag_of Go.Proofs.Try.underlying64 (by kernel_rfl)
instance : Ag Go.Proofs.Try.prog 64 10 := ag64
theorem fd64_0 : Fd Go.Proofs.Try.prog 64 0 0 1 false := fd_of Go.Proofs.Try.underlying64 (off := 0) (ft := 22) rfl Go.Proofs.Try.underlying22 (n := 1) (by kernel_rfl) rfl (by decide)
instance : Fd Go.Proofs.Try.prog 64 0 0 1 false := fd64_0
theorem fd64_1 : Fd Go.Proofs.Try.prog 64 1 1 1 false := fd_of Go.Proofs.Try.underlying64 (off := 1) (ft := 3) rfl Go.Proofs.Try.underlying3 (n := 1) (by kernel_rfl) rfl (by decide)
instance : Fd Go.Proofs.Try.prog 64 1 1 1 false := fd64_1
theorem fd64_2 : Fd Go.Proofs.Try.prog 64 2 2 1 false := fd_of Go.Proofs.Try.underlying64 (off := 2) (ft := 22) rfl Go.Proofs.Try.underlying22 (n := 1) (by kernel_rfl) rfl (by decide)
instance : Fd Go.Proofs.Try.prog 64 2 2 1 false := fd64_2
theorem fd64_3 : Fd Go.Proofs.Try.prog 64 3 3 1 false := fd_of Go.Proofs.Try.underlying64 (off := 3) (ft := 22) rfl Go.Proofs.Try.underlying22 (n := 1) (by kernel_rfl) rfl (by decide)
instance : Fd Go.Proofs.Try.prog 64 3 3 1 false := fd64_3
theorem fd64_4 : Fd Go.Proofs.Try.prog 64 4 4 1 false := fd_of Go.Proofs.Try.underlying64 (off := 4) (ft := 22) rfl Go.Proofs.Try.underlying22 (n := 1) (by kernel_rfl) rfl (by decide)
instance : Fd Go.Proofs.Try.prog 64 4 4 1 false := fd64_4
theorem fd64_5 : Fd Go.Proofs.Try.prog 64 5 5 1 false := fd_of Go.Proofs.Try.underlying64 (off := 5) (ft := 39) rfl Go.Proofs.Try.underlying39 (n := 1) (by kernel_rfl) rfl (by decide)
instance : Fd Go.Proofs.Try.prog 64 5 5 1 false := fd64_5
theorem fd64_6 : Fd Go.Proofs.Try.prog 64 6 6 1 false := fd_of Go.Proofs.Try.underlying64 (off := 6) (ft := 3) rfl Go.Proofs.Try.underlying3 (n := 1) (by kernel_rfl) rfl (by decide)
instance : Fd Go.Proofs.Try.prog 64 6 6 1 false := fd64_6
theorem fd64_7 : Fd Go.Proofs.Try.prog 64 7 7 1 false := fd_of Go.Proofs.Try.underlying64 (off := 7) (ft := 3) rfl Go.Proofs.Try.underlying3 (n := 1) (by kernel_rfl) rfl (by decide)
instance : Fd Go.Proofs.Try.prog 64 7 7 1 false := fd64_7
theorem fd64_8 : Fd Go.Proofs.Try.prog 64 8 8 1 false := fd_of Go.Proofs.Try.underlying64 (off := 8) (ft := 3) rfl Go.Proofs.Try.underlying3 (n := 1) (by kernel_rfl) rfl (by decide)
instance : Fd Go.Proofs.Try.prog 64 8 8 1 false := fd64_8
theorem fd64_9 : Fd Go.Proofs.Try.prog 64 9 9 1 false := fd_of Go.Proofs.Try.underlying64 (off := 9) (ft := 3) rfl Go.Proofs.Try.underlying3 (n := 1) (by kernel_rfl) rfl (by decide)
instance : Fd Go.Proofs.Try.prog 64 9 9 1 false := fd64_9
theorem pl64 : Pl Go.Proofs.Try.prog 64 [(0, 1), (1, 1), (2, 1), (3, 1), (4, 1), (5, 1), (6, 1), (7, 1), (8, 1), (9, 1)] := pl_of Go.Proofs.Try.underlying64 (by kernel_rfl)
instance : Pl Go.Proofs.Try.prog 64 [(0, 1), (1, 1), (2, 1), (3, 1), (4, 1), (5, 1), (6, 1), (7, 1), (8, 1), (9, 1)] := pl64
theorem ze64 : Ze Go.Proofs.Try.prog 64 [.slice none 0 0, .int .i64 (0), .slice none 0 0, .slice none 0 0, .slice none 0 0, .slice none 0 0, .int .i64 (0), .int .i64 (0), .int .i64 (0), .int .i64 (0)] := ze_of (z := .agg #[.slice none 0 0, .int .i64 (0), .slice none 0 0, .slice none 0 0, .slice none 0 0, .slice none 0 0, .int .i64 (0), .int .i64 (0), .int .i64 (0), .int .i64 (0)]) (by kernel_rfl) rfl
instance : Ze Go.Proofs.Try.prog 64 [.slice none 0 0, .int .i64 (0), .slice none 0 0, .slice none 0 0, .slice none 0 0, .slice none 0 0, .int .i64 (0), .int .i64 (0), .int .i64 (0), .int .i64 (0)] := ze64
theorem ag65 : Ag Go.Proofs.Try.prog 65 10 := ag_of Go.Proofs.Try.underlying65 (by kernel_rfl)
instance : Ag Go.Proofs.Try.prog 65 10 := ag65
theorem fd65_0 : Fd Go.Proofs.Try.prog 65 0 0 1 false := fd_of Go.Proofs.Try.underlying65 (off := 0) (ft := 22) rfl Go.Proofs.Try.underlying22 (n := 1) (by kernel_rfl) rfl (by decide)
instance : Fd Go.Proofs.Try.prog 65 0 0 1 false := fd65_0
theorem fd65_1 : Fd Go.Proofs.Try.prog 65 1 1 1 false := fd_of Go.Proofs.Try.underlying65 (off := 1) (ft := 3) rfl Go.Proofs.Try.underlying3 (n := 1) (by kernel_rfl) rfl (by decide)
instance : Fd Go.Proofs.Try.prog 65 1 1 1 false := fd65_1
theorem fd65_2 : Fd Go.Proofs.Try.prog 65 2 2 1 false := fd_of Go.Proofs.Try.underlying65 (off := 2) (ft := 22) rfl Go.Proofs.Try.underlying22 (n := 1) (by kernel_rfl) rfl (by decide)
instance : Fd Go.Proofs.Try.prog 65 2 2 1 false := fd65_2
theorem fd65_3 : Fd Go.Proofs.Try.prog 65 3 3 1 false := fd_of Go.Proofs.Try.underlying65 (off := 3) (ft := 22) rfl Go.Proofs.Try.underlying22 (n := 1) (by kernel_rfl) rfl (by decide)
instance : Fd Go.Proofs.Try.prog 65 3 3 1 false := fd65_3
theorem fd65_4 : Fd Go.Proofs.Try.prog 65 4 4 1 false := fd_of Go.Proofs.Try.underlying65 (off := 4) (ft := 22) rfl Go.Proofs.Try.underlying22 (n := 1) (by kernel_rfl) rfl (by decide)
instance : Fd Go.Proofs.Try.prog 65 4 4 1 false := fd65_4
theorem fd65_5 : Fd Go.Proofs.Try.prog 65 5 5 1 false := fd_of Go.Proofs.Try.underlying65 (off := 5) (ft := 39) rfl Go.Proofs.Try.underlying39 (n := 1) (by kernel_rfl) rfl (by decide)
instance : Fd Go.Proofs.Try.prog 65 5 5 1 false := fd65_5
theorem fd65_6 : Fd Go.Proofs.Try.prog 65 6 6 1 false := fd_of Go.Proofs.Try.underlying65 (off := 6) (ft := 3) rfl Go.Proofs.Try.underlying3 (n := 1) (by kernel_rfl) rfl (by decide)
instance : Fd Go.Proofs.Try.prog 65 6 6 1 false := fd65_6
theorem fd65_7 : Fd Go.Proofs.Try.prog 65 7 7 1 false := fd_of Go.Proofs.Try.underlying65 (off := 7) (ft := 3) rfl Go.Proofs.Try.underlying3 (n := 1) (by kernel_rfl) rfl (by decide)
instance : Fd Go.Proofs.Try.prog 65 7 7 1 false := fd65_7
theorem fd65_8 : Fd Go.Proofs.Try.prog 65 8 8 1 false := fd_of Go.Proofs.Try.underlying65 (off := 8) (ft := 3) rfl Go.Proofs.Try.underlying3 (n := 1) (by kernel_rfl) rfl (by decide)
instance : Fd Go.Proofs.Try.prog 65 8 8 1 false := fd65_8
theorem fd65_9 : Fd Go.Proofs.Try.prog 65 9 9 1 false := fd_of Go.Proofs.Try.underlying65 (off := 9) (ft := 3) rfl Go.Proofs.Try.underlying3 (n := 1) (by kernel_rfl) rfl (by decide)
instance : Fd Go.Proofs.Try.prog 65 9 9 1 false := fd65_9
theorem pl65 : Pl Go.Proofs.Try.prog 65 [(0, 1), (1, 1), (2, 1), (3, 1), (4, 1), (5, 1), (6, 1), (7, 1), (8, 1), (9, 1)] := pl_of Go.Proofs.Try.underlying65 (by kernel_rfl)
instance : Pl Go.Proofs.Try.prog 65 [(0, 1), (1, 1), (2, 1), (3, 1), (4, 1), (5, 1), (6, 1), (7, 1), (8, 1), (9, 1)] := pl65
theorem ze65 : Ze Go.Proofs.Try.prog 65 [.slice none 0 0, .int .i64 (0), .slice none 0 0, .slice none 0 0, .slice none 0 0, .slice none 0 0, .int .i64 (0), .int .i64 (0), .int .i64 (0), .int .i64 (0)] := ze_of (z := .agg #[.slice none 0 0, .int .i64 (0), .slice none 0 0, .slice none 0 0, .slice none 0 0, .slice none 0 0, .int .i64 (0), .int .i64 (0), .int .i64 (0), .int .i64 (0)]) (by kernel_rfl) rfl
instance : Ze Go.Proofs.Try.prog 65 [.slice none 0 0, .int .i64 (0), .slice none 0 0, .slice none 0 0, .slice none 0 0, .slice none 0 0, .int .i64 (0), .int .i64 (0), .int .i64 (0), .int .i64 (0)] := ze65
theorem ag74 : Ag Go.Proofs.Try.prog 74 3 := ag_of Go.Proofs.Try.underlying74 (by kernel_rfl)
instance : Ag Go.Proofs.Try.prog 74 3 := ag74
theorem fd74_0 : Fd Go.Proofs.Try.prog 74 0 0 1 false := fd_of Go.Proofs.Try.underlying74 (off := 0) (ft := 3) rfl Go.Proofs.Try.underlying3 (n := 1) (by kernel_rfl) rfl (by decide)
instance : Fd Go.Proofs.Try.prog 74 0 0 1 false := fd74_0
theorem fd74_1 : Fd Go.Proofs.Try.prog 74 1 1 1 false := fd_of Go.Proofs.Try.underlying74 (off := 1) (ft := 3) rfl Go.Proofs.Try.underlying3 (n := 1) (by kernel_rfl) rfl (by decide)
instance : Fd Go.Proofs.Try.prog 74 1 1 1 false := fd74_1
theorem fd74_2 : Fd Go.Proofs.Try.prog 74 2 2 1 false := fd_of Go.Proofs.Try.underlying74 (off := 2) (ft := 3) rfl Go.Proofs.Try.underlying3 (n := 1) (by kernel_rfl) rfl (by decide)
instance : Fd Go.Proofs.Try.prog 74 2 2 1 false := fd74_2
theorem pl74 : Pl Go.Proofs.Try.prog 74 [(0, 1), (1, 1), (2, 1)] := pl_of Go.Proofs.Try.underlying74 (by kernel_rfl)
instance : Pl Go.Proofs.Try.prog 74 [(0, 1), (1, 1), (2, 1)] := pl74
theorem ze74 : Ze Go.Proofs.Try.prog 74 [.int .i64 (0), .int .i64 (0), .int .i64 (0)] := ze_of (z := .agg #[.int .i64 (0), .int .i64 (0), .int .i64 (0)]) (by kernel_rfl) rfl
instance : Ze Go.Proofs.Try.prog 74 [.int .i64 (0), .int .i64 (0), .int .i64 (0)] := ze74
theorem ag75 : Ag Go.Proofs.Try.prog 75 3 := ag_of Go.Proofs.Try.underlying75 (by kernel_rfl)
instance : Ag Go.Proofs.Try.prog 75 3 := ag75
theorem fd75_0 : Fd Go.Proofs.Try.prog 75 0 0 1 false := fd_of Go.Proofs.Try.underlying75 (off := 0) (ft := 3) rfl Go.Proofs.Try.underlying3 (n := 1) (by kernel_rfl) rfl (by decide)
instance : Fd Go.Proofs.Try.prog 75 0 0 1 false := fd75_0
theorem fd75_1 : Fd Go.Proofs.Try.prog 75 1 1 1 false := fd_of Go.Proofs.Try.underlying75 (off := 1) (ft := 3) rfl Go.Proofs.Try.underlying3 (n := 1) (by kernel_rfl) rfl (by decide)
instance : Fd Go.Proofs.Try.prog 75 1 1 1 false := fd75_1
theorem fd75_2 : Fd Go.Proofs.Try.prog 75 2 2 1 false := fd_of Go.Proofs.Try.underlying75 (off := 2) (ft := 3) rfl Go.Proofs.Try.underlying3 (n := 1) (by kernel_rfl) rfl (by decide)
instance : Fd Go.Proofs.Try.prog 75 2 2 1 false := fd75_2
theorem pl75 : Pl Go.Proofs.Try.prog 75 [(0, 1), (1, 1), (2, 1)] := pl_of Go.Proofs.Try.underlying75 (by kernel_rfl)
instance : Pl Go.Proofs.Try.prog 75 [(0, 1), (1, 1), (2, 1)] := pl75
theorem ze75 : Ze Go.Proofs.Try.prog 75 [.int .i64 (0), .int .i64 (0), .int .i64 (0)] := ze_of (z := .agg #[.int .i64 (0), .int .i64 (0), .int .i64 (0)]) (by kernel_rfl) rfl
instance : Ze Go.Proofs.Try.prog 75 [.int .i64 (0), .int .i64 (0), .int .i64 (0)] := ze75
theorem ag77 : Ag Go.Proofs.Try.prog 77 3 := ag_of Go.Proofs.Try.underlying77 (by kernel_rfl)
instance : Ag Go.Proofs.Try.prog 77 3 := ag77
theorem fd77_0 : Fd Go.Proofs.Try.prog 77 0 0 1 false := fd_of Go.Proofs.Try.underlying77 (off := 0) (ft := 3) rfl Go.Proofs.Try.underlying3 (n := 1) (by kernel_rfl) rfl (by decide)
instance : Fd Go.Proofs.Try.prog 77 0 0 1 false := fd77_0
theorem fd77_1 : Fd Go.Proofs.Try.prog 77 1 1 1 false := fd_of Go.Proofs.Try.underlying77 (off := 1) (ft := 3) rfl Go.Proofs.Try.underlying3 (n := 1) (by kernel_rfl) rfl (by decide)
instance : Fd Go.Proofs.Try.prog 77 1 1 1 false := fd77_1
theorem fd77_2 : Fd Go.Proofs.Try.prog 77 2 2 1 false := fd_of Go.Proofs.Try.underlying77 (off := 2) (ft := 3) rfl Go.Proofs.Try.underlying3 (n := 1) (by kernel_rfl) rfl (by decide)
instance : Fd Go.Proofs.Try.prog 77 2 2 1 false := fd77_2
theorem pl77 : Pl Go.Proofs.Try.prog 77 [(0, 1), (1, 1), (2, 1)] := pl_of Go.Proofs.Try.underlying77 (by kernel_rfl)
instance : Pl Go.Proofs.Try.prog 77 [(0, 1), (1, 1), (2, 1)] := pl77
theorem ze77 : Ze Go.Proofs.Try.prog 77 [.int .i64 (0), .int .i64 (0), .int .i64 (0)] := ze_of (z := .agg #[.int .i64 (0), .int .i64 (0), .int .i64 (0)]) (by kernel_rfl) rfl
instance : Ze Go.Proofs.Try.prog 77 [.int .i64 (0), .int .i64 (0), .int .i64 (0)] := ze77
theorem ag80 : Ag Go.Proofs.Try.prog 80 5 := ag_of Go.Proofs.Try.underlying80 (by kernel_rfl)
instance : Ag Go.Proofs.Try.prog 80 5 := ag80
theorem fd80_0 : Fd Go.Proofs.Try.prog 80 0 0 1 false := fd_of Go.Proofs.Try.underlying80 (off := 0) (ft := 3) rfl Go.Proofs.Try.underlying3 (n := 1) (by kernel_rfl) rfl (by decide)
instance : Fd Go.Proofs.Try.prog 80 0 0 1 false := fd80_0
theorem fd80_1 : Fd Go.Proofs.Try.prog 80 1 1 1 false := fd_of Go.Proofs.Try.underlying80 (off := 1) (ft := 3) rfl Go.Proofs.Try.underlying3 (n := 1) (by kernel_rfl) rfl (by decide)
instance : Fd Go.Proofs.Try.prog 80 1 1 1 false := fd80_1
theorem fd80_2 : Fd Go.Proofs.Try.prog 80 2 2 1 false := fd_of Go.Proofs.Try.underlying80 (off := 2) (ft := 3) rfl Go.Proofs.Try.underlying3 (n := 1) (by kernel_rfl) rfl (by decide)
instance : Fd Go.Proofs.Try.prog 80 2 2 1 false := fd80_2
theorem fd80_3 : Fd Go.Proofs.Try.prog 80 3 3 1 false := fd_of Go.Proofs.Try.underlying80 (off := 3) (ft := 3) rfl Go.Proofs.Try.underlying3 (n := 1) (by kernel_rfl) rfl (by decide)
instance : Fd Go.Proofs.Try.prog 80 3 3 1 false := fd80_3
theorem fd80_4 : Fd Go.Proofs.Try.prog 80 4 4 1 false := fd_of Go.Proofs.Try.underlying80 (off := 4) (ft := 3) rfl Go.Proofs.Try.underlying3 (n := 1) (by kernel_rfl) rfl (by decide)
instance : Fd Go.Proofs.Try.prog 80 4 4 1 false := fd80_4
theorem pl80 : Pl Go.Proofs.Try.prog 80 [(0, 1), (1, 1), (2, 1), (3, 1), (4, 1)] := pl_of Go.Proofs.Try.underlying80 (by kernel_rfl)
instance : Pl Go.Proofs.Try.prog 80 [(0, 1), (1, 1), (2, 1), (3, 1), (4, 1)] := pl80
theorem ze80 : Ze Go.Proofs.Try.prog 80 [.int .i64 (0), .int .i64 (0), .int .i64 (0), .int .i64 (0), .int .i64 (0)] := ze_of (z := .agg #[.int .i64 (0), .int .i64 (0), .int .i64 (0), .int .i64 (0), .int .i64 (0)]) (by kernel_rfl) rfl
instance : Ze Go.Proofs.Try.prog 80 [.int .i64 (0), .int .i64 (0), .int .i64 (0), .int .i64 (0), .int .i64 (0)] := ze80
theorem ag81 : Ag Go.Proofs.Try.prog 81 5 := ag_of Go.Proofs.Try.underlying81 (by kernel_rfl)
instance : Ag Go.Proofs.Try.prog 81 5 := ag81
theorem fd81_0 : Fd Go.Proofs.Try.prog 81 0 0 1 false := fd_of Go.Proofs.Try.underlying81 (off := 0) (ft := 3) rfl Go.Proofs.Try.underlying3 (n := 1) (by kernel_rfl) rfl (by decide)
instance : Fd Go.Proofs.Try.prog 81 0 0 1 false := fd81_0
theorem fd81_1 : Fd Go.Proofs.Try.prog 81 1 1 1 false := fd_of Go.Proofs.Try.underlying81 (off := 1) (ft := 3) rfl Go.Proofs.Try.underlying3 (n := 1) (by kernel_rfl) rfl (by decide)
instance : Fd Go.Proofs.Try.prog 81 1 1 1 false := fd81_1
theorem fd81_2 : Fd Go.Proofs.Try.prog 81 2 2 1 false := fd_of Go.Proofs.Try.underlying81 (off := 2) (ft := 3) rfl Go.Proofs.Try.underlying3 (n := 1) (by kernel_rfl) rfl (by decide)
instance : Fd Go.Proofs.Try.prog 81 2 2 1 false := fd81_2
theorem fd81_3 : Fd Go.Proofs.Try.prog 81 3 3 1 false := fd_of Go.Proofs.Try.underlying81 (off := 3) (ft := 3) rfl Go.Proofs.Try.underlying3 (n := 1) (by kernel_rfl) rfl (by decide)
instance : Fd Go.Proofs.Try.prog 81 3 3 1 false := fd81_3
theorem fd81_4 : Fd Go.Proofs.Try.prog 81 4 4 1 false := fd_of Go.Proofs.Try.underlying81 (off := 4) (ft := 3) rfl Go.Proofs.Try.underlying3 (n := 1) (by kernel_rfl) rfl (by decide)
instance : Fd Go.Proofs.Try.prog 81 4 4 1 false := fd81_4
theorem pl81 : Pl Go.Proofs.Try.prog 81 [(0, 1), (1, 1), (2, 1), (3, 1), (4, 1)] := pl_of Go.Proofs.Try.underlying81 (by kernel_rfl)
instance : Pl Go.Proofs.Try.prog 81 [(0, 1), (1, 1), (2, 1), (3, 1), (4, 1)] := pl81
theorem ze81 : Ze Go.Proofs.Try.prog 81 [.int .i64 (0), .int .i64 (0), .int .i64 (0), .int .i64 (0), .int .i64 (0)] := ze_of (z := .agg #[.int .i64 (0), .int .i64 (0), .int .i64 (0), .int .i64 (0), .int .i64 (0)]) (by kernel_rfl) rfl
instance : Ze Go.Proofs.Try.prog 81 [.int .i64 (0), .int .i64 (0), .int .i64 (0), .int .i64 (0), .int .i64 (0)] := ze81
theorem ag83 : Ag Go.Proofs.Try.prog 83 5 := ag_of Go.Proofs.Try.underlying83 (by kernel_rfl)
instance : Ag Go.Proofs.Try.prog 83 5 := ag83
theorem fd83_0 : Fd Go.Proofs.Try.prog 83 0 0 1 false := fd_of Go.Proofs.Try.underlying83 (off := 0) (ft := 3) rfl Go.Proofs.Try.underlying3 (n := 1) (by kernel_rfl) rfl (by decide)
instance : Fd Go.Proofs.Try.prog 83 0 0 1 false := fd83_0
theorem fd83_1 : Fd Go.Proofs.Try.prog 83 1 1 1 false := fd_of Go.Proofs.Try.underlying83 (off := 1) (ft := 3) rfl Go.Proofs.Try.underlying3 (n := 1) (by kernel_rfl) rfl (by decide)
instance : Fd Go.Proofs.Try.prog 83 1 1 1 false := fd83_1
theorem fd83_2 : Fd Go.Proofs.Try.prog 83 2 2 1 false := fd_of Go.Proofs.Try.underlying83 (off := 2) (ft := 3) rfl Go.Proofs.Try.underlying3 (n := 1) (by kernel_rfl) rfl (by decide)
instance : Fd Go.Proofs.Try.prog 83 2 2 1 false := fd83_2
theorem fd83_3 : Fd Go.Proofs.Try.prog 83 3 3 1 false := fd_of Go.Proofs.Try.underlying83 (off := 3) (ft := 3) rfl Go.Proofs.Try.underlying3 (n := 1) (by kernel_rfl) rfl (by decide)
instance : Fd Go.Proofs.Try.prog 83 3 3 1 false := fd83_3
theorem fd83_4 : Fd Go.Proofs.Try.prog 83 4 4 1 false := fd_of Go.Proofs.Try.underlying83 (off := 4) (ft := 3) rfl Go.Proofs.Try.underlying3 (n := 1) (by kernel_rfl) rfl (by decide)
instance : Fd Go.Proofs.Try.prog 83 4 4 1 false := fd83_4
theorem pl83 : Pl Go.Proofs.Try.prog 83 [(0, 1), (1, 1), (2, 1), (3, 1), (4, 1)] := pl_of Go.Proofs.Try.underlying83 (by kernel_rfl)
instance : Pl Go.Proofs.Try.prog 83 [(0, 1), (1, 1), (2, 1), (3, 1), (4, 1)] := pl83
theorem ze83 : Ze Go.Proofs.Try.prog 83 [.int .i64 (0), .int .i64 (0), .int .i64 (0), .int .i64 (0), .int .i64 (0)] := ze_of (z := .agg #[.int .i64 (0), .int .i64 (0), .int .i64 (0), .int .i64 (0), .int .i64 (0)]) (by kernel_rfl) rfl
instance : Ze Go.Proofs.Try.prog 83 [.int .i64 (0), .int .i64 (0), .int .i64 (0), .int .i64 (0), .int .i64 (0)] := ze83
theorem sc84 : Sc Go.Proofs.Try.prog 84 := sc_of Go.Proofs.Try.underlying84 rfl (by kernel_rfl)
instance : Sc Go.Proofs.Try.prog 84 := sc84
theorem ze84 : Ze Go.Proofs.Try.prog 84 [.slice none 0 0] := ze_of (z := .slice none 0 0) (by kernel_rfl) rfl
instance : Ze Go.Proofs.Try.prog 84 [.slice none 0 0] := ze84
theorem sl84 : Sl Go.Proofs.Try.prog 84 9 1 16 := sl_of (z := .string .empty) Go.Proofs.Try.underlying84 (by kernel_rfl) rfl (by decide)
instance : Sl Go.Proofs.Try.prog 84 9 1 16 := sl84
theorem ag90 : Ag Go.Proofs.Try.prog 90 1 := ag_of Go.Proofs.Try.underlying90 (by kernel_rfl)
instance : Ag Go.Proofs.Try.prog 90 1 := ag90
theorem fd90_0 : Fd Go.Proofs.Try.prog 90 0 0 1 false := fd_of Go.Proofs.Try.underlying90 (off := 0) (ft := 22) rfl Go.Proofs.Try.underlying22 (n := 1) (by kernel_rfl) rfl (by decide)
instance : Fd Go.Proofs.Try.prog 90 0 0 1 false := fd90_0
theorem pl90 : Pl Go.Proofs.Try.prog 90 [(0, 1)] := pl_of Go.Proofs.Try.underlying90 (by kernel_rfl)
instance : Pl Go.Proofs.Try.prog 90 [(0, 1)] := pl90
theorem ze90 : Ze Go.Proofs.Try.prog 90 [.slice none 0 0] := ze_of (z := .agg #[.slice none 0 0]) (by kernel_rfl) rfl
instance : Ze Go.Proofs.Try.prog 90 [.slice none 0 0] := ze90
theorem ag91 : Ag Go.Proofs.Try.prog 91 1 := ag_of Go.Proofs.Try.underlying91 (by kernel_rfl)
instance : Ag Go.Proofs.Try.prog 91 1 := ag91
theorem fd91_0 : Fd Go.Proofs.Try.prog 91 0 0 1 false := fd_of Go.Proofs.Try.underlying91 (off := 0) (ft := 22) rfl Go.Proofs.Try.underlying22 (n := 1) (by kernel_rfl) rfl (by decide)
instance : Fd Go.Proofs.Try.prog 91 0 0 1 false := fd91_0
theorem pl91 : Pl Go.Proofs.Try.prog 91 [(0, 1)] := pl_of Go.Proofs.Try.underlying91 (by kernel_rfl)
instance : Pl Go.Proofs.Try.prog 91 [(0, 1)] := pl91
theorem ze91 : Ze Go.Proofs.Try.prog 91 [.slice none 0 0] := ze_of (z := .agg #[.slice none 0 0]) (by kernel_rfl) rfl
instance : Ze Go.Proofs.Try.prog 91 [.slice none 0 0] := ze91
theorem ag92 : Ag Go.Proofs.Try.prog 92 1 := ag_of Go.Proofs.Try.underlying92 (by kernel_rfl)
instance : Ag Go.Proofs.Try.prog 92 1 := ag92
theorem fd92_0 : Fd Go.Proofs.Try.prog 92 0 0 1 false := fd_of Go.Proofs.Try.underlying92 (off := 0) (ft := 25) rfl Go.Proofs.Try.underlying25 (n := 1) (by kernel_rfl) rfl (by decide)
instance : Fd Go.Proofs.Try.prog 92 0 0 1 false := fd92_0
theorem pl92 : Pl Go.Proofs.Try.prog 92 [(0, 1)] := pl_of Go.Proofs.Try.underlying92 (by kernel_rfl)
instance : Pl Go.Proofs.Try.prog 92 [(0, 1)] := pl92
theorem ze92 : Ze Go.Proofs.Try.prog 92 [.slice none 0 0] := ze_of (z := .agg #[.slice none 0 0]) (by kernel_rfl) rfl
instance : Ze Go.Proofs.Try.prog 92 [.slice none 0 0] := ze92
theorem ag93 : Ag Go.Proofs.Try.prog 93 1 := ag_of Go.Proofs.Try.underlying93 (by kernel_rfl)
instance : Ag Go.Proofs.Try.prog 93 1 := ag93
theorem fd93_0 : Fd Go.Proofs.Try.prog 93 0 0 1 false := fd_of Go.Proofs.Try.underlying93 (off := 0) (ft := 25) rfl Go.Proofs.Try.underlying25 (n := 1) (by kernel_rfl) rfl (by decide)
instance : Fd Go.Proofs.Try.prog 93 0 0 1 false := fd93_0
theorem pl93 : Pl Go.Proofs.Try.prog 93 [(0, 1)] := pl_of Go.Proofs.Try.underlying93 (by kernel_rfl)
instance : Pl Go.Proofs.Try.prog 93 [(0, 1)] := pl93
theorem ze93 : Ze Go.Proofs.Try.prog 93 [.slice none 0 0] := ze_of (z := .agg #[.slice none 0 0]) (by kernel_rfl) rfl
instance : Ze Go.Proofs.Try.prog 93 [.slice none 0 0] := ze93
theorem ag97 : Ag Go.Proofs.Try.prog 97 7 := ag_of Go.Proofs.Try.underlying97 (by kernel_rfl)
instance : Ag Go.Proofs.Try.prog 97 7 := ag97
theorem fd97_0 : Fd Go.Proofs.Try.prog 97 0 0 3 true := fd_of Go.Proofs.Try.underlying97 (off := 0) (ft := 75) rfl Go.Proofs.Try.underlying75 (n := 3) (by kernel_rfl) rfl (by decide)
instance : Fd Go.Proofs.Try.prog 97 0 0 3 true := fd97_0
theorem fd97_1 : Fd Go.Proofs.Try.prog 97 1 3 3 true := fd_of Go.Proofs.Try.underlying97 (off := 3) (ft := 75) rfl Go.Proofs.Try.underlying75 (n := 3) (by kernel_rfl) rfl (by decide)
instance : Fd Go.Proofs.Try.prog 97 1 3 3 true := fd97_1
theorem fd97_2 : Fd Go.Proofs.Try.prog 97 2 6 1 false := fd_of Go.Proofs.Try.underlying97 (off := 6) (ft := 4) rfl Go.Proofs.Try.underlying4 (n := 1) (by kernel_rfl) rfl (by decide)
instance : Fd Go.Proofs.Try.prog 97 2 6 1 false := fd97_2
theorem pl97 : Pl Go.Proofs.Try.prog 97 [(0, 3), (3, 3), (6, 1)] := pl_of Go.Proofs.Try.underlying97 (by kernel_rfl)
instance : Pl Go.Proofs.Try.prog 97 [(0, 3), (3, 3), (6, 1)] := pl97
theorem ze97 : Ze Go.Proofs.Try.prog 97 [.int .i64 (0), .int .i64 (0), .int .i64 (0), .int .i64 (0), .int .i64 (0), .int .i64 (0), .bool false] := ze_of (z := .agg #[.int .i64 (0), .int .i64 (0), .int .i64 (0), .int .i64 (0), .int .i64 (0), .int .i64 (0), .bool false]) (by kernel_rfl) rfl
instance : Ze Go.Proofs.Try.prog 97 [.int .i64 (0), .int .i64 (0), .int .i64 (0), .int .i64 (0), .int .i64 (0), .int .i64 (0), .bool false] := ze97
theorem ag98 : Ag Go.Proofs.Try.prog 98 7 := ag_of Go.Proofs.Try.underlying98 (by kernel_rfl)
instance : Ag Go.Proofs.Try.prog 98 7 := ag98
theorem fd98_0 : Fd Go.Proofs.Try.prog 98 0 0 3 true := fd_of Go.Proofs.Try.underlying98 (off := 0) (ft := 75) rfl Go.Proofs.Try.underlying75 (n := 3) (by kernel_rfl) rfl (by decide)
instance : Fd Go.Proofs.Try.prog 98 0 0 3 true := fd98_0
theorem fd98_1 : Fd Go.Proofs.Try.prog 98 1 3 3 true := fd_of Go.Proofs.Try.underlying98 (off := 3) (ft := 75) rfl Go.Proofs.Try.underlying75 (n := 3) (by kernel_rfl) rfl (by decide)
instance : Fd Go.Proofs.Try.prog 98 1 3 3 true := fd98_1
theorem fd98_2 : Fd Go.Proofs.Try.prog 98 2 6 1 false := fd_of Go.Proofs.Try.underlying98 (off := 6) (ft := 4) rfl Go.Proofs.Try.underlying4 (n := 1) (by kernel_rfl) rfl (by decide)
instance : Fd Go.Proofs.Try.prog 98 2 6 1 false := fd98_2
theorem pl98 : Pl Go.Proofs.Try.prog 98 [(0, 3), (3, 3), (6, 1)] := pl_of Go.Proofs.Try.underlying98 (by kernel_rfl)
instance : Pl Go.Proofs.Try.prog 98 [(0, 3), (3, 3), (6, 1)] := pl98
theorem ze98 : Ze Go.Proofs.Try.prog 98 [.int .i64 (0), .int .i64 (0), .int .i64 (0), .int .i64 (0), .int .i64 (0), .int .i64 (0), .bool false] := ze_of (z := .agg #[.int .i64 (0), .int .i64 (0), .int .i64 (0), .int .i64 (0), .int .i64 (0), .int .i64 (0), .bool false]) (by kernel_rfl) rfl
instance : Ze Go.Proofs.Try.prog 98 [.int .i64 (0), .int .i64 (0), .int .i64 (0), .int .i64 (0), .int .i64 (0), .int .i64 (0), .bool false] := ze98
theorem ag100 : Ag Go.Proofs.Try.prog 100 7 := ag_of Go.Proofs.Try.underlying100 (by kernel_rfl)
instance : Ag Go.Proofs.Try.prog 100 7 := ag100
theorem fd100_0 : Fd Go.Proofs.Try.prog 100 0 0 3 true := fd_of Go.Proofs.Try.underlying100 (off := 0) (ft := 77) rfl Go.Proofs.Try.underlying77 (n := 3) (by kernel_rfl) rfl (by decide)
instance : Fd Go.Proofs.Try.prog 100 0 0 3 true := fd100_0
theorem fd100_1 : Fd Go.Proofs.Try.prog 100 1 3 3 true := fd_of Go.Proofs.Try.underlying100 (off := 3) (ft := 77) rfl Go.Proofs.Try.underlying77 (n := 3) (by kernel_rfl) rfl (by decide)
instance : Fd Go.Proofs.Try.prog 100 1 3 3 true := fd100_1
theorem fd100_2 : Fd Go.Proofs.Try.prog 100 2 6 1 false := fd_of Go.Proofs.Try.underlying100 (off := 6) (ft := 4) rfl Go.Proofs.Try.underlying4 (n := 1) (by kernel_rfl) rfl (by decide)
instance : Fd Go.Proofs.Try.prog 100 2 6 1 false := fd100_2
theorem pl100 : Pl Go.Proofs.Try.prog 100 [(0, 3), (3, 3), (6, 1)] := pl_of Go.Proofs.Try.underlying100 (by kernel_rfl)
instance : Pl Go.Proofs.Try.prog 100 [(0, 3), (3, 3), (6, 1)] := pl100
theorem ze100 : Ze Go.Proofs.Try.prog 100 [.int .i64 (0), .int .i64 (0), .int .i64 (0), .int .i64 (0), .int .i64 (0), .int .i64 (0), .bool false] := ze_of (z := .agg #[.int .i64 (0), .int .i64 (0), .int .i64 (0), .int .i64 (0), .int .i64 (0), .int .i64 (0), .bool false]) (by kernel_rfl) rfl
instance : Ze Go.Proofs.Try.prog 100 [.int .i64 (0), .int .i64 (0), .int .i64 (0), .int .i64 (0), .int .i64 (0), .int .i64 (0), .bool false] := ze100
theorem ag101 : Ag Go.Proofs.Try.prog 101 7 := ag_of Go.Proofs.Try.underlying101 (by kernel_rfl)
instance : Ag Go.Proofs.Try.prog 101 7 := ag101
theorem fd101_0 : Fd Go.Proofs.Try.prog 101 0 0 3 true := fd_of Go.Proofs.Try.underlying101 (off := 0) (ft := 77) rfl Go.Proofs.Try.underlying77 (n := 3) (by kernel_rfl) rfl (by decide)
instance : Fd Go.Proofs.Try.prog 101 0 0 3 true := fd101_0
theorem fd101_1 : Fd Go.Proofs.Try.prog 101 1 3 3 true := fd_of Go.Proofs.Try.underlying101 (off := 3) (ft := 77) rfl Go.Proofs.Try.underlying77 (n := 3) (by kernel_rfl) rfl (by decide)
instance : Fd Go.Proofs.Try.prog 101 1 3 3 true := fd101_1
theorem fd101_2 : Fd Go.Proofs.Try.prog 101 2 6 1 false := fd_of Go.Proofs.Try.underlying101 (off := 6) (ft := 4) rfl Go.Proofs.Try.underlying4 (n := 1) (by kernel_rfl) rfl (by decide)
instance : Fd Go.Proofs.Try.prog 101 2 6 1 false := fd101_2
theorem pl101 : Pl Go.Proofs.Try.prog 101 [(0, 3), (3, 3), (6, 1)] := pl_of Go.Proofs.Try.underlying101 (by kernel_rfl)
instance : Pl Go.Proofs.Try.prog 101 [(0, 3), (3, 3), (6, 1)] := pl101
theorem ze101 : Ze Go.Proofs.Try.prog 101 [.int .i64 (0), .int .i64 (0), .int .i64 (0), .int .i64 (0), .int .i64 (0), .int .i64 (0), .bool false] := ze_of (z := .agg #[.int .i64 (0), .int .i64 (0), .int .i64 (0), .int .i64 (0), .int .i64 (0), .int .i64 (0), .bool false]) (by kernel_rfl) rfl
instance : Ze Go.Proofs.Try.prog 101 [.int .i64 (0), .int .i64 (0), .int .i64 (0), .int .i64 (0), .int .i64 (0), .int .i64 (0), .bool false] := ze101
theorem sc112 : Sc Go.Proofs.Try.prog 112 := sc_of Go.Proofs.Try.underlying112 rfl (by kernel_rfl)
instance : Sc Go.Proofs.Try.prog 112 := sc112
theorem ze112 : Ze Go.Proofs.Try.prog 112 [.slice none 0 0] := ze_of (z := .slice none 0 0) (by kernel_rfl) rfl
instance : Ze Go.Proofs.Try.prog 112 [.slice none 0 0] := ze112
theorem sl112 : Sl Go.Proofs.Try.prog 112 5 1 1 := sl_of (z := .int .u8 (0)) Go.Proofs.Try.underlying112 (by kernel_rfl) rfl (by decide)
instance : Sl Go.Proofs.Try.prog 112 5 1 1 := sl112
theorem sc113 : Sc Go.Proofs.Try.prog 113 := sc_of Go.Proofs.Try.underlying113 rfl (by kernel_rfl)
instance : Sc Go.Proofs.Try.prog 113 := sc113
theorem ze113 : Ze Go.Proofs.Try.prog 113 [.slice none 0 0] := ze_of (z := .slice none 0 0) (by kernel_rfl) rfl
instance : Ze Go.Proofs.Try.prog 113 [.slice none 0 0] := ze113
theorem sl113 : Sl Go.Proofs.Try.prog 113 3 1 8 := sl_of (z := .int .i64 (0)) Go.Proofs.Try.underlying113 (by kernel_rfl) rfl (by decide)
instance : Sl Go.Proofs.Try.prog 113 3 1 8 := sl113
theorem sc118 : Sc Go.Proofs.Try.prog 118 := sc_of Go.Proofs.Try.underlying118 rfl (by kernel_rfl)
instance : Sc Go.Proofs.Try.prog 118 := sc118
theorem ze118 : Ze Go.Proofs.Try.prog 118 [.int .u64 (0)] := ze_of (z := .int .u64 (0)) (by kernel_rfl) rfl
instance : Ze Go.Proofs.Try.prog 118 [.int .u64 (0)] := ze118
theorem ik118 : Ik Go.Proofs.Try.prog 118 .u64 := ⟨Go.Proofs.Try.underlying118⟩
instance : Ik Go.Proofs.Try.prog 118 .u64 := ik118
theorem sc126 : Sc Go.Proofs.Try.prog 126 := sc_of Go.Proofs.Try.underlying126 rfl (by kernel_rfl)
instance : Sc Go.Proofs.Try.prog 126 := sc126
theorem ze126 : Ze Go.Proofs.Try.prog 126 [.int .u32 (0)] := ze_of (z := .int .u32 (0)) (by kernel_rfl) rfl
instance : Ze Go.Proofs.Try.prog 126 [.int .u32 (0)] := ze126
theorem ik126 : Ik Go.Proofs.Try.prog 126 .u32 := ⟨Go.Proofs.Try.underlying126⟩
instance : Ik Go.Proofs.Try.prog 126 .u32 := ik126
theorem sc130 : Sc Go.Proofs.Try.prog 130 := sc_of Go.Proofs.Try.underlying130 rfl (by kernel_rfl)
instance : Sc Go.Proofs.Try.prog 130 := sc130
theorem ze130 : Ze Go.Proofs.Try.prog 130 [.pointer none] := ze_of (z := .pointer none) (by kernel_rfl) rfl
instance : Ze Go.Proofs.Try.prog 130 [.pointer none] := ze130
def tab : Tab where
  ag := [(13, 2), (58, 10), (59, 10), (64, 10), (65, 10), (74, 3), (75, 3), (77, 3), (80, 5), (81, 5), (83, 5), (90, 1), (91, 1), (92, 1), (93, 1), (97, 7), (98, 7), (100, 7), (101, 7)]
  sc := [2, 3, 4, 5, 9, 12, 21, 22, 25, 29, 32, 39, 42, 47, 50, 84, 112, 113, 118, 126, 130]
  fd := [((13, 0), (0, 1, false)), ((13, 1), (1, 1, false)), ((58, 0), (0, 1, false)), ((58, 1), (1, 1, false)), ((58, 2), (2, 1, false)), ((58, 3), (3, 1, false)), ((58, 4), (4, 1, false)), ((58, 5), (5, 1, false)), ((58, 6), (6, 1, false)), ((58, 7), (7, 1, false)), ((58, 8), (8, 1, false)), ((58, 9), (9, 1, false)), ((59, 0), (0, 1, false)), ((59, 1), (1, 1, false)), ((59, 2), (2, 1, false)), ((59, 3), (3, 1, false)), ((59, 4), (4, 1, false)), ((59, 5), (5, 1, false)), ((59, 6), (6, 1, false)), ((59, 7), (7, 1, false)), ((59, 8), (8, 1, false)), ((59, 9), (9, 1, false)), ((64, 0), (0, 1, false)), ((64, 1), (1, 1, false)), ((64, 2), (2, 1, false)), ((64, 3), (3, 1, false)), ((64, 4), (4, 1, false)), ((64, 5), (5, 1, false)), ((64, 6), (6, 1, false)), ((64, 7), (7, 1, false)), ((64, 8), (8, 1, false)), ((64, 9), (9, 1, false)), ((65, 0), (0, 1, false)), ((65, 1), (1, 1, false)), ((65, 2), (2, 1, false)), ((65, 3), (3, 1, false)), ((65, 4), (4, 1, false)), ((65, 5), (5, 1, false)), ((65, 6), (6, 1, false)), ((65, 7), (7, 1, false)), ((65, 8), (8, 1, false)), ((65, 9), (9, 1, false)), ((74, 0), (0, 1, false)), ((74, 1), (1, 1, false)), ((74, 2), (2, 1, false)), ((75, 0), (0, 1, false)), ((75, 1), (1, 1, false)), ((75, 2), (2, 1, false)), ((77, 0), (0, 1, false)), ((77, 1), (1, 1, false)), ((77, 2), (2, 1, false)), ((80, 0), (0, 1, false)), ((80, 1), (1, 1, false)), ((80, 2), (2, 1, false)), ((80, 3), (3, 1, false)), ((80, 4), (4, 1, false)), ((81, 0), (0, 1, false)), ((81, 1), (1, 1, false)), ((81, 2), (2, 1, false)), ((81, 3), (3, 1, false)), ((81, 4), (4, 1, false)), ((83, 0), (0, 1, false)), ((83, 1), (1, 1, false)), ((83, 2), (2, 1, false)), ((83, 3), (3, 1, false)), ((83, 4), (4, 1, false)), ((90, 0), (0, 1, false)), ((91, 0), (0, 1, false)), ((92, 0), (0, 1, false)), ((93, 0), (0, 1, false)), ((97, 0), (0, 3, true)), ((97, 1), (3, 3, true)), ((97, 2), (6, 1, false)), ((98, 0), (0, 3, true)), ((98, 1), (3, 3, true)), ((98, 2), (6, 1, false)), ((100, 0), (0, 3, true)), ((100, 1), (3, 3, true)), ((100, 2), (6, 1, false)), ((101, 0), (0, 3, true)), ((101, 1), (3, 3, true)), ((101, 2), (6, 1, false))]
  ze := [(2, [.int .i64 (0)]), (3, [.int .i64 (0)]), (4, [.bool false]), (5, [.int .u8 (0)]), (9, [.string .empty]), (12, [.int .u64 (0)]), (13, [.string .empty, .int .u64 (0)]), (21, [.int .i32 (0)]), (22, [.slice none 0 0]), (25, [.slice none 0 0]), (29, [.slice none 0 0]), (32, [.slice none 0 0]), (39, [.slice none 0 0]), (42, [.slice none 0 0]), (47, [.slice none 0 0]), (50, [.slice none 0 0]), (58, [.slice none 0 0, .int .i64 (0), .slice none 0 0, .slice none 0 0, .slice none 0 0, .slice none 0 0, .int .i64 (0), .int .i64 (0), .int .i64 (0), .int .i64 (0)]), (59, [.slice none 0 0, .int .i64 (0), .slice none 0 0, .slice none 0 0, .slice none 0 0, .slice none 0 0, .int .i64 (0), .int .i64 (0), .int .i64 (0), .int .i64 (0)]), (64, [.slice none 0 0, .int .i64 (0), .slice none 0 0, .slice none 0 0, .slice none 0 0, .slice none 0 0, .int .i64 (0), .int .i64 (0), .int .i64 (0), .int .i64 (0)]), (65, [.slice none 0 0, .int .i64 (0), .slice none 0 0, .slice none 0 0, .slice none 0 0, .slice none 0 0, .int .i64 (0), .int .i64 (0), .int .i64 (0), .int .i64 (0)]), (74, [.int .i64 (0), .int .i64 (0), .int .i64 (0)]), (75, [.int .i64 (0), .int .i64 (0), .int .i64 (0)]), (77, [.int .i64 (0), .int .i64 (0), .int .i64 (0)]), (80, [.int .i64 (0), .int .i64 (0), .int .i64 (0), .int .i64 (0), .int .i64 (0)]), (81, [.int .i64 (0), .int .i64 (0), .int .i64 (0), .int .i64 (0), .int .i64 (0)]), (83, [.int .i64 (0), .int .i64 (0), .int .i64 (0), .int .i64 (0), .int .i64 (0)]), (84, [.slice none 0 0]), (90, [.slice none 0 0]), (91, [.slice none 0 0]), (92, [.slice none 0 0]), (93, [.slice none 0 0]), (97, [.int .i64 (0), .int .i64 (0), .int .i64 (0), .int .i64 (0), .int .i64 (0), .int .i64 (0), .bool false]), (98, [.int .i64 (0), .int .i64 (0), .int .i64 (0), .int .i64 (0), .int .i64 (0), .int .i64 (0), .bool false]), (100, [.int .i64 (0), .int .i64 (0), .int .i64 (0), .int .i64 (0), .int .i64 (0), .int .i64 (0), .bool false]), (101, [.int .i64 (0), .int .i64 (0), .int .i64 (0), .int .i64 (0), .int .i64 (0), .int .i64 (0), .bool false]), (112, [.slice none 0 0]), (113, [.slice none 0 0]), (118, [.int .u64 (0)]), (126, [.int .u32 (0)]), (130, [.pointer none])]
  pl := [(13, [(0, 1), (1, 1)]), (58, [(0, 1), (1, 1), (2, 1), (3, 1), (4, 1), (5, 1), (6, 1), (7, 1), (8, 1), (9, 1)]), (59, [(0, 1), (1, 1), (2, 1), (3, 1), (4, 1), (5, 1), (6, 1), (7, 1), (8, 1), (9, 1)]), (64, [(0, 1), (1, 1), (2, 1), (3, 1), (4, 1), (5, 1), (6, 1), (7, 1), (8, 1), (9, 1)]), (65, [(0, 1), (1, 1), (2, 1), (3, 1), (4, 1), (5, 1), (6, 1), (7, 1), (8, 1), (9, 1)]), (74, [(0, 1), (1, 1), (2, 1)]), (75, [(0, 1), (1, 1), (2, 1)]), (77, [(0, 1), (1, 1), (2, 1)]), (80, [(0, 1), (1, 1), (2, 1), (3, 1), (4, 1)]), (81, [(0, 1), (1, 1), (2, 1), (3, 1), (4, 1)]), (83, [(0, 1), (1, 1), (2, 1), (3, 1), (4, 1)]), (90, [(0, 1)]), (91, [(0, 1)]), (92, [(0, 1)]), (93, [(0, 1)]), (97, [(0, 3), (3, 3), (6, 1)]), (98, [(0, 3), (3, 3), (6, 1)]), (100, [(0, 3), (3, 3), (6, 1)]), (101, [(0, 3), (3, 3), (6, 1)])]
  sl := [(22, (77, 3, 24)), (25, (75, 3, 24)), (29, (83, 5, 40)), (32, (81, 5, 40)), (39, (91, 1, 24)), (42, (93, 1, 24)), (47, (101, 7, 56)), (50, (98, 7, 56)), (84, (9, 1, 16)), (112, (5, 1, 1)), (113, (3, 1, 8))]
  ik := [(2, .i64), (3, .i64), (5, .u8), (12, .u64), (21, .i32), (118, .u64), (126, .u32)]
  str := [9]
  bl := [4]
instance : TabC Go.Proofs.Try.prog tab := ⟨{ ag := all_cons ag13 (all_cons ag58 (all_cons ag59 (all_cons ag64 (all_cons ag65 (all_cons ag74 (all_cons ag75 (all_cons ag77 (all_cons ag80 (all_cons ag81 (all_cons ag83 (all_cons ag90 (all_cons ag91 (all_cons ag92 (all_cons ag93 (all_cons ag97 (all_cons ag98 (all_cons ag100 (all_cons ag101 (all_nil))))))))))))))))))), sc := all_cons sc2 (all_cons sc3 (all_cons sc4 (all_cons sc5 (all_cons sc9 (all_cons sc12 (all_cons sc21 (all_cons sc22 (all_cons sc25 (all_cons sc29 (all_cons sc32 (all_cons sc39 (all_cons sc42 (all_cons sc47 (all_cons sc50 (all_cons sc84 (all_cons sc112 (all_cons sc113 (all_cons sc118 (all_cons sc126 (all_cons sc130 (all_nil))))))))))))))))))))), fd := all_cons fd13_0 (all_cons fd13_1 (all_cons fd58_0 (all_cons fd58_1 (all_cons fd58_2 (all_cons fd58_3 (all_cons fd58_4 (all_cons fd58_5 (all_cons fd58_6 (all_cons fd58_7 (all_cons fd58_8 (all_cons fd58_9 (all_cons fd59_0 (all_cons fd59_1 (all_cons fd59_2 (all_cons fd59_3 (all_cons fd59_4 (all_cons fd59_5 (all_cons fd59_6 (all_cons fd59_7 (all_cons fd59_8 (all_cons fd59_9 (all_cons fd64_0 (all_cons fd64_1 (all_cons fd64_2 (all_cons fd64_3 (all_cons fd64_4 (all_cons fd64_5 (all_cons fd64_6 (all_cons fd64_7 (all_cons fd64_8 (all_cons fd64_9 (all_cons fd65_0 (all_cons fd65_1 (all_cons fd65_2 (all_cons fd65_3 (all_cons fd65_4 (all_cons fd65_5 (all_cons fd65_6 (all_cons fd65_7 (all_cons fd65_8 (all_cons fd65_9 (all_cons fd74_0 (all_cons fd74_1 (all_cons fd74_2 (all_cons fd75_0 (all_cons fd75_1 (all_cons fd75_2 (all_cons fd77_0 (all_cons fd77_1 (all_cons fd77_2 (all_cons fd80_0 (all_cons fd80_1 (all_cons fd80_2 (all_cons fd80_3 (all_cons fd80_4 (all_cons fd81_0 (all_cons fd81_1 (all_cons fd81_2 (all_cons fd81_3 (all_cons fd81_4 (all_cons fd83_0 (all_cons fd83_1 (all_cons fd83_2 (all_cons fd83_3 (all_cons fd83_4 (all_cons fd90_0 (all_cons fd91_0 (all_cons fd92_0 (all_cons fd93_0 (all_cons fd97_0 (all_cons fd97_1 (all_cons fd97_2 (all_cons fd98_0 (all_cons fd98_1 (all_cons fd98_2 (all_cons fd100_0 (all_cons fd100_1 (all_cons fd100_2 (all_cons fd101_0 (all_cons fd101_1 (all_cons fd101_2 (all_nil)))))))))))))))))))))))))))))))))))))))))))))))))))))))))))))))))))))))))))))))))), ze := all_cons ze2 (all_cons ze3 (all_cons ze4 (all_cons ze5 (all_cons ze9 (all_cons ze12 (all_cons ze13 (all_cons ze21 (all_cons ze22 (all_cons ze25 (all_cons ze29 (all_cons ze32 (all_cons ze39 (all_cons ze42 (all_cons ze47 (all_cons ze50 (all_cons ze58 (all_cons ze59 (all_cons ze64 (all_cons ze65 (all_cons ze74 (all_cons ze75 (all_cons ze77 (all_cons ze80 (all_cons ze81 (all_cons ze83 (all_cons ze84 (all_cons ze90 (all_cons ze91 (all_cons ze92 (all_cons ze93 (all_cons ze97 (all_cons ze98 (all_cons ze100 (all_cons ze101 (all_cons ze112 (all_cons ze113 (all_cons ze118 (all_cons ze126 (all_cons ze130 (all_nil)))))))))))))))))))))))))))))))))))))))), pl := all_cons pl13 (all_cons pl58 (all_cons pl59 (all_cons pl64 (all_cons pl65 (all_cons pl74 (all_cons pl75 (all_cons pl77 (all_cons pl80 (all_cons pl81 (all_cons pl83 (all_cons pl90 (all_cons pl91 (all_cons pl92 (all_cons pl93 (all_cons pl97 (all_cons pl98 (all_cons pl100 (all_cons pl101 (all_nil))))))))))))))))))), sl := all_cons sl22 (all_cons sl25 (all_cons sl29 (all_cons sl32 (all_cons sl39 (all_cons sl42 (all_cons sl47 (all_cons sl50 (all_cons sl84 (all_cons sl112 (all_cons sl113 (all_nil))))))))))), ik := all_cons ik2 (all_cons ik3 (all_cons ik5 (all_cons ik12 (all_cons ik21 (all_cons ik118 (all_cons ik126 (all_nil))))))), str := all_cons str9 (all_nil), bl := all_cons bl4 (all_nil) }, by kernel_rfl⟩
instance : Ent Go.Proofs.Try.prog 3 := ent_of Go.Proofs.Try.func3 rfl (by decide)
instance : Ent Go.Proofs.Try.prog 4 := ent_of Go.Proofs.Try.func4 rfl (by decide)
instance : Ent Go.Proofs.Try.prog 5 := ent_of Go.Proofs.Try.func5 rfl (by decide)
instance : Ent Go.Proofs.Try.prog 6 := ent_of Go.Proofs.Try.func6 rfl (by decide)
instance : Ent Go.Proofs.Try.prog 7 := ent_of Go.Proofs.Try.func7 rfl (by decide)
instance : Ent Go.Proofs.Try.prog 8 := ent_of Go.Proofs.Try.func8 rfl (by decide)
instance : Ent Go.Proofs.Try.prog 9 := ent_of Go.Proofs.Try.func9 rfl (by decide)
instance : Ent Go.Proofs.Try.prog 10 := ent_of Go.Proofs.Try.func10 rfl (by decide)
instance : Ent Go.Proofs.Try.prog 11 := ent_of Go.Proofs.Try.func11 rfl (by decide)
instance : Ent Go.Proofs.Try.prog 12 := ent_of Go.Proofs.Try.func12 rfl (by decide)
instance : Ent Go.Proofs.Try.prog 13 := ent_of Go.Proofs.Try.func13 rfl (by decide)
instance : Ent Go.Proofs.Try.prog 14 := ent_of Go.Proofs.Try.func14 rfl (by decide)
instance : Ent Go.Proofs.Try.prog 15 := ent_of Go.Proofs.Try.func15 rfl (by decide)
instance : Ent Go.Proofs.Try.prog 16 := ent_of Go.Proofs.Try.func16 rfl (by decide)
instance : Ent Go.Proofs.Try.prog 17 := ent_of Go.Proofs.Try.func17 rfl (by decide)
instance : Ent Go.Proofs.Try.prog 18 := ent_of Go.Proofs.Try.func18 rfl (by decide)
instance : Ent Go.Proofs.Try.prog 19 := ent_of Go.Proofs.Try.func19 rfl (by decide)
instance : Ent Go.Proofs.Try.prog 20 := ent_of Go.Proofs.Try.func20 rfl (by decide)
instance : Ent Go.Proofs.Try.prog 21 := ent_of Go.Proofs.Try.func21 rfl (by decide)
instance : Ent Go.Proofs.Try.prog 22 := ent_of Go.Proofs.Try.func22 rfl (by decide)
instance : Ent Go.Proofs.Try.prog 23 := ent_of Go.Proofs.Try.func23 rfl (by decide)
instance : Ent Go.Proofs.Try.prog 24 := ent_of Go.Proofs.Try.func24 rfl (by decide)
instance : Ent Go.Proofs.Try.prog 25 := ent_of Go.Proofs.Try.func25 rfl (by decide)
instance : Ent Go.Proofs.Try.prog 26 := ent_of Go.Proofs.Try.func26 rfl (by decide)
instance : Ent Go.Proofs.Try.prog 27 := ent_of Go.Proofs.Try.func27 rfl (by decide)
instance : Ent Go.Proofs.Try.prog 28 := ent_of Go.Proofs.Try.func28 rfl (by decide)
instance : Ent Go.Proofs.Try.prog 29 := ent_of Go.Proofs.Try.func29 rfl (by decide)
instance : Ent Go.Proofs.Try.prog 30 := ent_of Go.Proofs.Try.func30 rfl (by decide)
instance : Ent Go.Proofs.Try.prog 31 := ent_of Go.Proofs.Try.func31 rfl (by decide)
instance : Ent Go.Proofs.Try.prog 32 := ent_of Go.Proofs.Try.func32 rfl (by decide)
instance : Ent Go.Proofs.Try.prog 33 := ent_of Go.Proofs.Try.func33 rfl (by decide)
instance : Ent Go.Proofs.Try.prog 34 := ent_of Go.Proofs.Try.func34 rfl (by decide)
instance : Ent Go.Proofs.Try.prog 35 := ent_of Go.Proofs.Try.func35 rfl (by decide)
instance : Ent Go.Proofs.Try.prog 36 := ent_of Go.Proofs.Try.func36 rfl (by decide)
instance : Ent Go.Proofs.Try.prog 37 := ent_of Go.Proofs.Try.func37 rfl (by decide)
instance : Ent Go.Proofs.Try.prog 38 := ent_of Go.Proofs.Try.func38 rfl (by decide)
instance : Ent Go.Proofs.Try.prog 39 := ent_of Go.Proofs.Try.func39 rfl (by decide)
instance : Ent Go.Proofs.Try.prog 40 := ent_of Go.Proofs.Try.func40 rfl (by decide)
instance : Ent Go.Proofs.Try.prog 41 := ent_of Go.Proofs.Try.func41 rfl (by decide)
instance : Ent Go.Proofs.Try.prog 42 := ent_of Go.Proofs.Try.func42 rfl (by decide)
instance : Ent Go.Proofs.Try.prog 43 := ent_of Go.Proofs.Try.func43 rfl (by decide)
instance : Ent Go.Proofs.Try.prog 44 := ent_of Go.Proofs.Try.func44 rfl (by decide)
instance : Ent Go.Proofs.Try.prog 45 := ent_of Go.Proofs.Try.func45 rfl (by decide)
instance : Ent Go.Proofs.Try.prog 46 := ent_of Go.Proofs.Try.func46 rfl (by decide)
instance : Ent Go.Proofs.Try.prog 47 := ent_of Go.Proofs.Try.func47 rfl (by decide)
instance : Ent Go.Proofs.Try.prog 48 := ent_of Go.Proofs.Try.func48 rfl (by decide)
instance : Ent Go.Proofs.Try.prog 49 := ent_of Go.Proofs.Try.func49 rfl (by decide)
instance : Ent Go.Proofs.Try.prog 50 := ent_of Go.Proofs.Try.func50 rfl (by decide)
instance : Ent Go.Proofs.Try.prog 51 := ent_of Go.Proofs.Try.func51 rfl (by decide)
instance : Ent Go.Proofs.Try.prog 52 := ent_of Go.Proofs.Try.func52 rfl (by decide)
instance : Ent Go.Proofs.Try.prog 53 := ent_of Go.Proofs.Try.func53 rfl (by decide)
instance : Ent Go.Proofs.Try.prog 54 := ent_of Go.Proofs.Try.func54 rfl (by decide)
instance : Ent Go.Proofs.Try.prog 55 := ent_of Go.Proofs.Try.func55 rfl (by decide)
instance : Ent Go.Proofs.Try.prog 56 := ent_of Go.Proofs.Try.func56 rfl (by decide)
instance : Ent Go.Proofs.Try.prog 57 := ent_of Go.Proofs.Try.func57 rfl (by decide)
instance : Ent Go.Proofs.Try.prog 58 := ent_of Go.Proofs.Try.func58 rfl (by decide)
instance : Ent Go.Proofs.Try.prog 59 := ent_of Go.Proofs.Try.func59 rfl (by decide)
instance : Ent Go.Proofs.Try.prog 60 := ent_of Go.Proofs.Try.func60 rfl (by decide)
instance : Ent Go.Proofs.Try.prog 61 := ent_of Go.Proofs.Try.func61 rfl (by decide)
instance : Ent Go.Proofs.Try.prog 62 := ent_of Go.Proofs.Try.func62 rfl (by decide)
instance : Ent Go.Proofs.Try.prog 63 := ent_of Go.Proofs.Try.func63 rfl (by decide)
instance : Ent Go.Proofs.Try.prog 64 := ent_of Go.Proofs.Try.func64 rfl (by decide)
instance : Ent Go.Proofs.Try.prog 65 := ent_of Go.Proofs.Try.func65 rfl (by decide)
instance : Ent Go.Proofs.Try.prog 66 := ent_of Go.Proofs.Try.func66 rfl (by decide)
instance : Ent Go.Proofs.Try.prog 67 := ent_of Go.Proofs.Try.func67 rfl (by decide)
instance : Ent Go.Proofs.Try.prog 68 := ent_of Go.Proofs.Try.func68 rfl (by decide)
instance : Ent Go.Proofs.Try.prog 69 := ent_of Go.Proofs.Try.func69 rfl (by decide)
instance : Ent Go.Proofs.Try.prog 70 := ent_of Go.Proofs.Try.func70 rfl (by decide)
instance : Ent Go.Proofs.Try.prog 71 := ent_of Go.Proofs.Try.func71 rfl (by decide)
instance : Ent Go.Proofs.Try.prog 72 := ent_of Go.Proofs.Try.func72 rfl (by decide)
instance : Ent Go.Proofs.Try.prog 73 := ent_of Go.Proofs.Try.func73 rfl (by decide)
instance : Ent Go.Proofs.Try.prog 74 := ent_of Go.Proofs.Try.func74 rfl (by decide)
instance : Ent Go.Proofs.Try.prog 75 := ent_of Go.Proofs.Try.func75 rfl (by decide)
instance : Ent Go.Proofs.Try.prog 76 := ent_of Go.Proofs.Try.func76 rfl (by decide)
instance : Ent Go.Proofs.Try.prog 77 := ent_of Go.Proofs.Try.func77 rfl (by decide)
instance : Ent Go.Proofs.Try.prog 78 := ent_of Go.Proofs.Try.func78 rfl (by decide)
instance : Ent Go.Proofs.Try.prog 79 := ent_of Go.Proofs.Try.func79 rfl (by decide)
instance : Ent Go.Proofs.Try.prog 80 := ent_of Go.Proofs.Try.func80 rfl (by decide)
instance : Ent Go.Proofs.Try.prog 81 := ent_of Go.Proofs.Try.func81 rfl (by decide)
instance : Ent Go.Proofs.Try.prog 82 := ent_of Go.Proofs.Try.func82 rfl (by decide)
instance : Ent Go.Proofs.Try.prog 83 := ent_of Go.Proofs.Try.func83 rfl (by decide)
instance : Ent Go.Proofs.Try.prog 84 := ent_of Go.Proofs.Try.func84 rfl (by decide)
instance : Ent Go.Proofs.Try.prog 85 := ent_of Go.Proofs.Try.func85 rfl (by decide)
instance : Ent Go.Proofs.Try.prog 86 := ent_of Go.Proofs.Try.func86 rfl (by decide)
instance : Ent Go.Proofs.Try.prog 87 := ent_of Go.Proofs.Try.func87 rfl (by decide)
instance : Ent Go.Proofs.Try.prog 88 := ent_of Go.Proofs.Try.func88 rfl (by decide)
instance : Ent Go.Proofs.Try.prog 89 := ent_of Go.Proofs.Try.func89 rfl (by decide)
instance : Ent Go.Proofs.Try.prog 90 := ent_of Go.Proofs.Try.func90 rfl (by decide)
instance : Ent Go.Proofs.Try.prog 91 := ent_of Go.Proofs.Try.func91 rfl (by decide)
instance : Ent Go.Proofs.Try.prog 92 := ent_of Go.Proofs.Try.func92 rfl (by decide)
instance : Ent Go.Proofs.Try.prog 93 := ent_of Go.Proofs.Try.func93 rfl (by decide)
instance : Ent Go.Proofs.Try.prog 94 := ent_of Go.Proofs.Try.func94 rfl (by decide)
instance : Ent Go.Proofs.Try.prog 95 := ent_of Go.Proofs.Try.func95 rfl (by decide)
instance : Ent Go.Proofs.Try.prog 96 := ent_of Go.Proofs.Try.func96 rfl (by decide)
instance : Ent Go.Proofs.Try.prog 97 := ent_of Go.Proofs.Try.func97 rfl (by decide)
instance : Ent Go.Proofs.Try.prog 98 := ent_of Go.Proofs.Try.func98 rfl (by decide)
instance : Ent Go.Proofs.Try.prog 99 := ent_of Go.Proofs.Try.func99 rfl (by decide)
instance : Ent Go.Proofs.Try.prog 100 := ent_of Go.Proofs.Try.func100 rfl (by decide)
instance : Ent Go.Proofs.Try.prog 101 := ent_of Go.Proofs.Try.func101 rfl (by decide)
instance : Ent Go.Proofs.Try.prog 102 := ent_of Go.Proofs.Try.func102 rfl (by decide)
instance : Ent Go.Proofs.Try.prog 103 := ent_of Go.Proofs.Try.func103 rfl (by decide)
instance : Ent Go.Proofs.Try.prog 104 := ent_of Go.Proofs.Try.func104 rfl (by decide)
instance : Ent Go.Proofs.Try.prog 105 := ent_of Go.Proofs.Try.func105 rfl (by decide)
instance : Ent Go.Proofs.Try.prog 106 := ent_of Go.Proofs.Try.func106 rfl (by decide)
instance : Ent Go.Proofs.Try.prog 107 := ent_of Go.Proofs.Try.func107 rfl (by decide)
instance : Ent Go.Proofs.Try.prog 108 := ent_of Go.Proofs.Try.func108 rfl (by decide)
end Go.Proofs.Ytngeppmincgebaa.Ab
