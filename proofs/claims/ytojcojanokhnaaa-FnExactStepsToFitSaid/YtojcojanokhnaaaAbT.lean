/-
  The seat's types and functions, as the abstract walk asks for them. Written by wip/tools/abtypes.py.
-/
import Derived.Test.YtojcojanokhnaaaProg
import Derived.Test.YtojcojanokhnaaaAbN
set_option maxRecDepth 100000
namespace Go.Proofs.Ytojcojanokhnaaa.Ab
theorem sc2 : Sc Go.Proofs.Try.prog 2 := sc_of Go.Proofs.Try.underlying2 rfl (by kernel_rfl)
instance : Sc Go.Proofs.Try.prog 2 := sc2
theorem ze2 : Ze Go.Proofs.Try.prog 2 [.int .i64 (0)] := ze_of (z := .int .i64 (0)) (by kernel_rfl) rfl
instance : Ze Go.Proofs.Try.prog 2 [.int .i64 (0)] := ze2
theorem ik2 : Ik Go.Proofs.Try.prog 2 .i64 := ⟨Go.Proofs.Try.underlying2⟩
instance : Ik Go.Proofs.Try.prog 2 .i64 := ik2
theorem sc3 : Sc Go.Proofs.Try.prog 3 := sc_of Go.Proofs.Try.underlying3 rfl (by kernel_rfl)
instance : Sc Go.Proofs.Try.prog 3 := sc3
theorem ze3 : Ze Go.Proofs.Try.prog 3 [.int .i64 (0)] := ze_of (z := .int .i64 (0)) (by kernel_rfl) rfl
instance : Ze Go.Proofs.Try.prog 3 [.int .i64 (0)] := ze3
theorem ik3 : Ik Go.Proofs.Try.prog 3 .i64 := ⟨Go.Proofs.Try.underlying3⟩
instance : Ik Go.Proofs.Try.prog 3 .i64 := ik3
theorem sc4 : Sc Go.Proofs.Try.prog 4 := sc_of Go.Proofs.Try.underlying4 rfl (by kernel_rfl)
instance : Sc Go.Proofs.Try.prog 4 := sc4
theorem ze4 : Ze Go.Proofs.Try.prog 4 [.bool false] := ze_of (z := .bool false) (by kernel_rfl) rfl
instance : Ze Go.Proofs.Try.prog 4 [.bool false] := ze4
theorem bl4 : Go.Proofs.Try.prog.underlying 4 = some .bool := Go.Proofs.Try.underlying4
theorem sc5 : Sc Go.Proofs.Try.prog 5 := sc_of Go.Proofs.Try.underlying5 rfl (by kernel_rfl)
instance : Sc Go.Proofs.Try.prog 5 := sc5
theorem ze5 : Ze Go.Proofs.Try.prog 5 [.int .u8 (0)] := ze_of (z := .int .u8 (0)) (by kernel_rfl) rfl
instance : Ze Go.Proofs.Try.prog 5 [.int .u8 (0)] := ze5
theorem ik5 : Ik Go.Proofs.Try.prog 5 .u8 := ⟨Go.Proofs.Try.underlying5⟩
instance : Ik Go.Proofs.Try.prog 5 .u8 := ik5
theorem sc9 : Sc Go.Proofs.Try.prog 9 := sc_of Go.Proofs.Try.underlying9 rfl (by kernel_rfl)
instance : Sc Go.Proofs.Try.prog 9 := sc9
theorem ze9 : Ze Go.Proofs.Try.prog 9 [.string .empty] := ze_of (z := .string .empty) (by kernel_rfl) rfl
instance : Ze Go.Proofs.Try.prog 9 [.string .empty] := ze9
theorem str9 : Str Go.Proofs.Try.prog 9 := ⟨Go.Proofs.Try.underlying9⟩
instance : Str Go.Proofs.Try.prog 9 := str9
theorem sc12 : Sc Go.Proofs.Try.prog 12 := sc_of Go.Proofs.Try.underlying12 rfl (by kernel_rfl)
instance : Sc Go.Proofs.Try.prog 12 := sc12
theorem ze12 : Ze Go.Proofs.Try.prog 12 [.int .u64 (0)] := ze_of (z := .int .u64 (0)) (by kernel_rfl) rfl
instance : Ze Go.Proofs.Try.prog 12 [.int .u64 (0)] := ze12
theorem ik12 : Ik Go.Proofs.Try.prog 12 .u64 := ⟨Go.Proofs.Try.underlying12⟩
instance : Ik Go.Proofs.Try.prog 12 .u64 := ik12
theorem ag13 : Ag Go.Proofs.Try.prog 13 2 := ag_of Go.Proofs.Try.underlying13 (by kernel_rfl)
instance : Ag Go.Proofs.Try.prog 13 2 := ag13
theorem fd13_0 : Fd Go.Proofs.Try.prog 13 0 0 1 false := fd_of Go.Proofs.Try.underlying13 (off := 0) (ft := 9) rfl Go.Proofs.Try.underlying9 (n := 1) (by kernel_rfl) rfl (by decide)
instance : Fd Go.Proofs.Try.prog 13 0 0 1 false := fd13_0
theorem fd13_1 : Fd Go.Proofs.Try.prog 13 1 1 1 false := fd_of Go.Proofs.Try.underlying13 (off := 1) (ft := 12) rfl Go.Proofs.Try.underlying12 (n := 1) (by kernel_rfl) rfl (by decide)
instance : Fd Go.Proofs.Try.prog 13 1 1 1 false := fd13_1
theorem pl13 : Pl Go.Proofs.Try.prog 13 [(0, 1), (1, 1)] := pl_of Go.Proofs.Try.underlying13 (by kernel_rfl)
instance : Pl Go.Proofs.Try.prog 13 [(0, 1), (1, 1)] := pl13
theorem ze13 : Ze Go.Proofs.Try.prog 13 [.string .empty, .int .u64 (0)] := ze_of (z := .agg #[.string .empty, .int .u64 (0)]) (by kernel_rfl) rfl
instance : Ze Go.Proofs.Try.prog 13 [.string .empty, .int .u64 (0)] := ze13
theorem sc21 : Sc Go.Proofs.Try.prog 21 := sc_of Go.Proofs.Try.underlying21 rfl (by kernel_rfl)
instance : Sc Go.Proofs.Try.prog 21 := sc21
theorem ze21 : Ze Go.Proofs.Try.prog 21 [.int .i32 (0)] := ze_of (z := .int .i32 (0)) (by kernel_rfl) rfl
instance : Ze Go.Proofs.Try.prog 21 [.int .i32 (0)] := ze21
theorem ik21 : Ik Go.Proofs.Try.prog 21 .i32 := ⟨Go.Proofs.Try.underlying21⟩
instance : Ik Go.Proofs.Try.prog 21 .i32 := ik21
theorem sc22 : Sc Go.Proofs.Try.prog 22 := sc_of Go.Proofs.Try.underlying22 rfl (by kernel_rfl)
instance : Sc Go.Proofs.Try.prog 22 := sc22
theorem ze22 : Ze Go.Proofs.Try.prog 22 [.slice none 0 0] := ze_of (z := .slice none 0 0) (by kernel_rfl) rfl
instance : Ze Go.Proofs.Try.prog 22 [.slice none 0 0] := ze22
theorem sl22 : Sl Go.Proofs.Try.prog 22 5 1 1 := sl_of (z := .int .u8 (0)) Go.Proofs.Try.underlying22 (by kernel_rfl) rfl (by decide)
instance : Sl Go.Proofs.Try.prog 22 5 1 1 := sl22
theorem sc24 : Sc Go.Proofs.Try.prog 24 := sc_of Go.Proofs.Try.underlying24 rfl (by kernel_rfl)
instance : Sc Go.Proofs.Try.prog 24 := sc24
theorem ze24 : Ze Go.Proofs.Try.prog 24 [.slice none 0 0] := ze_of (z := .slice none 0 0) (by kernel_rfl) rfl
instance : Ze Go.Proofs.Try.prog 24 [.slice none 0 0] := ze24
theorem sl24 : Sl Go.Proofs.Try.prog 24 78 3 24 := sl_of (z := .agg #[.int .i64 (0), .int .i64 (0), .int .i64 (0)]) Go.Proofs.Try.underlying24 (by kernel_rfl) rfl (by decide)
instance : Sl Go.Proofs.Try.prog 24 78 3 24 := sl24
theorem sc25 : Sc Go.Proofs.Try.prog 25 := sc_of Go.Proofs.Try.underlying25 rfl (by kernel_rfl)
instance : Sc Go.Proofs.Try.prog 25 := sc25
theorem ze25 : Ze Go.Proofs.Try.prog 25 [.slice none 0 0] := ze_of (z := .slice none 0 0) (by kernel_rfl) rfl
instance : Ze Go.Proofs.Try.prog 25 [.slice none 0 0] := ze25
theorem sl25 : Sl Go.Proofs.Try.prog 25 84 1 24 := sl_of (z := .agg #[.slice none 0 0]) Go.Proofs.Try.underlying25 (by kernel_rfl) rfl (by decide)
instance : Sl Go.Proofs.Try.prog 25 84 1 24 := sl25
theorem ag26 : Ag Go.Proofs.Try.prog 26 10 := ag_of Go.Proofs.Try.underlying26 (by kernel_rfl)
instance : Ag Go.Proofs.Try.prog 26 10 := ag26
theorem fd26_0 : Fd Go.Proofs.Try.prog 26 0 0 1 false := fd_of Go.Proofs.Try.underlying26 (off := 0) (ft := 24) rfl Go.Proofs.Try.underlying24 (n := 1) (by kernel_rfl) rfl (by decide)
instance : Fd Go.Proofs.Try.prog 26 0 0 1 false := fd26_0
theorem fd26_1 : Fd Go.Proofs.Try.prog 26 1 1 1 false := fd_of Go.Proofs.Try.underlying26 (off := 1) (ft := 3) rfl Go.Proofs.Try.underlying3 (n := 1) (by kernel_rfl) rfl (by decide)
instance : Fd Go.Proofs.Try.prog 26 1 1 1 false := fd26_1
theorem fd26_2 : Fd Go.Proofs.Try.prog 26 2 2 1 false := fd_of Go.Proofs.Try.underlying26 (off := 2) (ft := 24) rfl Go.Proofs.Try.underlying24 (n := 1) (by kernel_rfl) rfl (by decide)
instance : Fd Go.Proofs.Try.prog 26 2 2 1 false := fd26_2
theorem fd26_3 : Fd Go.Proofs.Try.prog 26 3 3 1 false := fd_of Go.Proofs.Try.underlying26 (off := 3) (ft := 24) rfl Go.Proofs.Try.underlying24 (n := 1) (by kernel_rfl) rfl (by decide)
instance : Fd Go.Proofs.Try.prog 26 3 3 1 false := fd26_3
theorem fd26_4 : Fd Go.Proofs.Try.prog 26 4 4 1 false := fd_of Go.Proofs.Try.underlying26 (off := 4) (ft := 24) rfl Go.Proofs.Try.underlying24 (n := 1) (by kernel_rfl) rfl (by decide)
instance : Fd Go.Proofs.Try.prog 26 4 4 1 false := fd26_4
theorem fd26_5 : Fd Go.Proofs.Try.prog 26 5 5 1 false := fd_of Go.Proofs.Try.underlying26 (off := 5) (ft := 25) rfl Go.Proofs.Try.underlying25 (n := 1) (by kernel_rfl) rfl (by decide)
instance : Fd Go.Proofs.Try.prog 26 5 5 1 false := fd26_5
theorem fd26_6 : Fd Go.Proofs.Try.prog 26 6 6 1 false := fd_of Go.Proofs.Try.underlying26 (off := 6) (ft := 3) rfl Go.Proofs.Try.underlying3 (n := 1) (by kernel_rfl) rfl (by decide)
instance : Fd Go.Proofs.Try.prog 26 6 6 1 false := fd26_6
theorem fd26_7 : Fd Go.Proofs.Try.prog 26 7 7 1 false := fd_of Go.Proofs.Try.underlying26 (off := 7) (ft := 3) rfl Go.Proofs.Try.underlying3 (n := 1) (by kernel_rfl) rfl (by decide)
instance : Fd Go.Proofs.Try.prog 26 7 7 1 false := fd26_7
theorem fd26_8 : Fd Go.Proofs.Try.prog 26 8 8 1 false := fd_of Go.Proofs.Try.underlying26 (off := 8) (ft := 3) rfl Go.Proofs.Try.underlying3 (n := 1) (by kernel_rfl) rfl (by decide)
instance : Fd Go.Proofs.Try.prog 26 8 8 1 false := fd26_8
theorem fd26_9 : Fd Go.Proofs.Try.prog 26 9 9 1 false := fd_of Go.Proofs.Try.underlying26 (off := 9) (ft := 3) rfl Go.Proofs.Try.underlying3 (n := 1) (by kernel_rfl) rfl (by decide)
instance : Fd Go.Proofs.Try.prog 26 9 9 1 false := fd26_9
theorem pl26 : Pl Go.Proofs.Try.prog 26 [(0, 1), (1, 1), (2, 1), (3, 1), (4, 1), (5, 1), (6, 1), (7, 1), (8, 1), (9, 1)] := pl_of Go.Proofs.Try.underlying26 (by kernel_rfl)
instance : Pl Go.Proofs.Try.prog 26 [(0, 1), (1, 1), (2, 1), (3, 1), (4, 1), (5, 1), (6, 1), (7, 1), (8, 1), (9, 1)] := pl26
theorem ze26 : Ze Go.Proofs.Try.prog 26 [.slice none 0 0, .int .i64 (0), .slice none 0 0, .slice none 0 0, .slice none 0 0, .slice none 0 0, .int .i64 (0), .int .i64 (0), .int .i64 (0), .int .i64 (0)] := ze_of (z := .agg #[.slice none 0 0, .int .i64 (0), .slice none 0 0, .slice none 0 0, .slice none 0 0, .slice none 0 0, .int .i64 (0), .int .i64 (0), .int .i64 (0), .int .i64 (0)]) (by kernel_rfl) rfl
instance : Ze Go.Proofs.Try.prog 26 [.slice none 0 0, .int .i64 (0), .slice none 0 0, .slice none 0 0, .slice none 0 0, .slice none 0 0, .int .i64 (0), .int .i64 (0), .int .i64 (0), .int .i64 (0)] := ze26
theorem ag27 : Ag Go.Proofs.Try.prog 27 10 := ag_of Go.Proofs.Try.underlying27 (by kernel_rfl)
instance : Ag Go.Proofs.Try.prog 27 10 := ag27
theorem fd27_0 : Fd Go.Proofs.Try.prog 27 0 0 1 false := fd_of Go.Proofs.Try.underlying27 (off := 0) (ft := 24) rfl Go.Proofs.Try.underlying24 (n := 1) (by kernel_rfl) rfl (by decide)
instance : Fd Go.Proofs.Try.prog 27 0 0 1 false := fd27_0
theorem fd27_1 : Fd Go.Proofs.Try.prog 27 1 1 1 false := fd_of Go.Proofs.Try.underlying27 (off := 1) (ft := 3) rfl Go.Proofs.Try.underlying3 (n := 1) (by kernel_rfl) rfl (by decide)
instance : Fd Go.Proofs.Try.prog 27 1 1 1 false := fd27_1
theorem fd27_2 : Fd Go.Proofs.Try.prog 27 2 2 1 false := fd_of Go.Proofs.Try.underlying27 (off := 2) (ft := 24) rfl Go.Proofs.Try.underlying24 (n := 1) (by kernel_rfl) rfl (by decide)
instance : Fd Go.Proofs.Try.prog 27 2 2 1 false := fd27_2
theorem fd27_3 : Fd Go.Proofs.Try.prog 27 3 3 1 false := fd_of Go.Proofs.Try.underlying27 (off := 3) (ft := 24) rfl Go.Proofs.Try.underlying24 (n := 1) (by kernel_rfl) rfl (by decide)
instance : Fd Go.Proofs.Try.prog 27 3 3 1 false := fd27_3
theorem fd27_4 : Fd Go.Proofs.Try.prog 27 4 4 1 false := fd_of Go.Proofs.Try.underlying27 (off := 4) (ft := 24) rfl Go.Proofs.Try.underlying24 (n := 1) (by kernel_rfl) rfl (by decide)
instance : Fd Go.Proofs.Try.prog 27 4 4 1 false := fd27_4
theorem fd27_5 : Fd Go.Proofs.Try.prog 27 5 5 1 false := fd_of Go.Proofs.Try.underlying27 (off := 5) (ft := 25) rfl Go.Proofs.Try.underlying25 (n := 1) (by kernel_rfl) rfl (by decide)
instance : Fd Go.Proofs.Try.prog 27 5 5 1 false := fd27_5
theorem fd27_6 : Fd Go.Proofs.Try.prog 27 6 6 1 false := fd_of Go.Proofs.Try.underlying27 (off := 6) (ft := 3) rfl Go.Proofs.Try.underlying3 (n := 1) (by kernel_rfl) rfl (by decide)
instance : Fd Go.Proofs.Try.prog 27 6 6 1 false := fd27_6
theorem fd27_7 : Fd Go.Proofs.Try.prog 27 7 7 1 false := fd_of Go.Proofs.Try.underlying27 (off := 7) (ft := 3) rfl Go.Proofs.Try.underlying3 (n := 1) (by kernel_rfl) rfl (by decide)
instance : Fd Go.Proofs.Try.prog 27 7 7 1 false := fd27_7
theorem fd27_8 : Fd Go.Proofs.Try.prog 27 8 8 1 false := fd_of Go.Proofs.Try.underlying27 (off := 8) (ft := 3) rfl Go.Proofs.Try.underlying3 (n := 1) (by kernel_rfl) rfl (by decide)
instance : Fd Go.Proofs.Try.prog 27 8 8 1 false := fd27_8
theorem fd27_9 : Fd Go.Proofs.Try.prog 27 9 9 1 false := fd_of Go.Proofs.Try.underlying27 (off := 9) (ft := 3) rfl Go.Proofs.Try.underlying3 (n := 1) (by kernel_rfl) rfl (by decide)
instance : Fd Go.Proofs.Try.prog 27 9 9 1 false := fd27_9
theorem pl27 : Pl Go.Proofs.Try.prog 27 [(0, 1), (1, 1), (2, 1), (3, 1), (4, 1), (5, 1), (6, 1), (7, 1), (8, 1), (9, 1)] := pl_of Go.Proofs.Try.underlying27 (by kernel_rfl)
instance : Pl Go.Proofs.Try.prog 27 [(0, 1), (1, 1), (2, 1), (3, 1), (4, 1), (5, 1), (6, 1), (7, 1), (8, 1), (9, 1)] := pl27
theorem ze27 : Ze Go.Proofs.Try.prog 27 [.slice none 0 0, .int .i64 (0), .slice none 0 0, .slice none 0 0, .slice none 0 0, .slice none 0 0, .int .i64 (0), .int .i64 (0), .int .i64 (0), .int .i64 (0)] := ze_of (z := .agg #[.slice none 0 0, .int .i64 (0), .slice none 0 0, .slice none 0 0, .slice none 0 0, .slice none 0 0, .int .i64 (0), .int .i64 (0), .int .i64 (0), .int .i64 (0)]) (by kernel_rfl) rfl
instance : Ze Go.Proofs.Try.prog 27 [.slice none 0 0, .int .i64 (0), .slice none 0 0, .slice none 0 0, .slice none 0 0, .slice none 0 0, .int .i64 (0), .int .i64 (0), .int .i64 (0), .int .i64 (0)] := ze27
theorem sc36 : Sc Go.Proofs.Try.prog 36 := sc_of Go.Proofs.Try.underlying36 rfl (by kernel_rfl)
instance : Sc Go.Proofs.Try.prog 36 := sc36
theorem ze36 : Ze Go.Proofs.Try.prog 36 [.slice none 0 0] := ze_of (z := .slice none 0 0) (by kernel_rfl) rfl
instance : Ze Go.Proofs.Try.prog 36 [.slice none 0 0] := ze36
theorem sl36 : Sl Go.Proofs.Try.prog 36 3 1 8 := sl_of (z := .int .i64 (0)) Go.Proofs.Try.underlying36 (by kernel_rfl) rfl (by decide)
instance : Sl Go.Proofs.Try.prog 36 3 1 8 := sl36
theorem ag39 : Ag Go.Proofs.Try.prog 39 4 := ag_of Go.Proofs.Try.underlying39 (by kernel_rfl)
instance : Ag Go.Proofs.Try.prog 39 4 := ag39
theorem fd39_0 : Fd Go.Proofs.Try.prog 39 0 0 1 false := fd_of Go.Proofs.Try.underlying39 (off := 0) (ft := 24) rfl Go.Proofs.Try.underlying24 (n := 1) (by kernel_rfl) rfl (by decide)
instance : Fd Go.Proofs.Try.prog 39 0 0 1 false := fd39_0
theorem fd39_1 : Fd Go.Proofs.Try.prog 39 1 1 1 false := fd_of Go.Proofs.Try.underlying39 (off := 1) (ft := 3) rfl Go.Proofs.Try.underlying3 (n := 1) (by kernel_rfl) rfl (by decide)
instance : Fd Go.Proofs.Try.prog 39 1 1 1 false := fd39_1
theorem fd39_2 : Fd Go.Proofs.Try.prog 39 2 2 1 false := fd_of Go.Proofs.Try.underlying39 (off := 2) (ft := 3) rfl Go.Proofs.Try.underlying3 (n := 1) (by kernel_rfl) rfl (by decide)
instance : Fd Go.Proofs.Try.prog 39 2 2 1 false := fd39_2
theorem fd39_3 : Fd Go.Proofs.Try.prog 39 3 3 1 false := fd_of Go.Proofs.Try.underlying39 (off := 3) (ft := 3) rfl Go.Proofs.Try.underlying3 (n := 1) (by kernel_rfl) rfl (by decide)
instance : Fd Go.Proofs.Try.prog 39 3 3 1 false := fd39_3
theorem pl39 : Pl Go.Proofs.Try.prog 39 [(0, 1), (1, 1), (2, 1), (3, 1)] := pl_of Go.Proofs.Try.underlying39 (by kernel_rfl)
instance : Pl Go.Proofs.Try.prog 39 [(0, 1), (1, 1), (2, 1), (3, 1)] := pl39
theorem ze39 : Ze Go.Proofs.Try.prog 39 [.slice none 0 0, .int .i64 (0), .int .i64 (0), .int .i64 (0)] := ze_of (z := .agg #[.slice none 0 0, .int .i64 (0), .int .i64 (0), .int .i64 (0)]) (by kernel_rfl) rfl
instance : Ze Go.Proofs.Try.prog 39 [.slice none 0 0, .int .i64 (0), .int .i64 (0), .int .i64 (0)] := ze39
theorem ag40 : Ag Go.Proofs.Try.prog 40 4 := ag_of Go.Proofs.Try.underlying40 (by kernel_rfl)
instance : Ag Go.Proofs.Try.prog 40 4 := ag40
theorem fd40_0 : Fd Go.Proofs.Try.prog 40 0 0 1 false := fd_of Go.Proofs.Try.underlying40 (off := 0) (ft := 24) rfl Go.Proofs.Try.underlying24 (n := 1) (by kernel_rfl) rfl (by decide)
instance : Fd Go.Proofs.Try.prog 40 0 0 1 false := fd40_0
theorem fd40_1 : Fd Go.Proofs.Try.prog 40 1 1 1 false := fd_of Go.Proofs.Try.underlying40 (off := 1) (ft := 3) rfl Go.Proofs.Try.underlying3 (n := 1) (by kernel_rfl) rfl (by decide)
instance : Fd Go.Proofs.Try.prog 40 1 1 1 false := fd40_1
theorem fd40_2 : Fd Go.Proofs.Try.prog 40 2 2 1 false := fd_of Go.Proofs.Try.underlying40 (off := 2) (ft := 3) rfl Go.Proofs.Try.underlying3 (n := 1) (by kernel_rfl) rfl (by decide)
instance : Fd Go.Proofs.Try.prog 40 2 2 1 false := fd40_2
theorem fd40_3 : Fd Go.Proofs.Try.prog 40 3 3 1 false := fd_of Go.Proofs.Try.underlying40 (off := 3) (ft := 3) rfl Go.Proofs.Try.underlying3 (n := 1) (by kernel_rfl) rfl (by decide)
instance : Fd Go.Proofs.Try.prog 40 3 3 1 false := fd40_3
theorem pl40 : Pl Go.Proofs.Try.prog 40 [(0, 1), (1, 1), (2, 1), (3, 1)] := pl_of Go.Proofs.Try.underlying40 (by kernel_rfl)
instance : Pl Go.Proofs.Try.prog 40 [(0, 1), (1, 1), (2, 1), (3, 1)] := pl40
theorem ze40 : Ze Go.Proofs.Try.prog 40 [.slice none 0 0, .int .i64 (0), .int .i64 (0), .int .i64 (0)] := ze_of (z := .agg #[.slice none 0 0, .int .i64 (0), .int .i64 (0), .int .i64 (0)]) (by kernel_rfl) rfl
instance : Ze Go.Proofs.Try.prog 40 [.slice none 0 0, .int .i64 (0), .int .i64 (0), .int .i64 (0)] := ze40
theorem sc50 : Sc Go.Proofs.Try.prog 50 := sc_of Go.Proofs.Try.underlying50 rfl (by kernel_rfl)
instance : Sc Go.Proofs.Try.prog 50 := sc50
theorem ze50 : Ze Go.Proofs.Try.prog 50 [.slice none 0 0] := ze_of (z := .slice none 0 0) (by kernel_rfl) rfl
instance : Ze Go.Proofs.Try.prog 50 [.slice none 0 0] := ze50
theorem sl50 : Sl Go.Proofs.Try.prog 50 105 3 24 := sl_of (z := .agg #[.int .i64 (0), .int .i64 (0), .int .i64 (0)]) Go.Proofs.Try.underlying50 (by kernel_rfl) rfl (by decide)
instance : Sl Go.Proofs.Try.prog 50 105 3 24 := sl50
theorem sc51 : Sc Go.Proofs.Try.prog 51 := sc_of Go.Proofs.Try.underlying51 rfl (by kernel_rfl)
instance : Sc Go.Proofs.Try.prog 51 := sc51
theorem ze51 : Ze Go.Proofs.Try.prog 51 [.slice none 0 0] := ze_of (z := .slice none 0 0) (by kernel_rfl) rfl
instance : Ze Go.Proofs.Try.prog 51 [.slice none 0 0] := ze51
theorem sl51 : Sl Go.Proofs.Try.prog 51 119 1 24 := sl_of (z := .agg #[.slice none 0 0]) Go.Proofs.Try.underlying51 (by kernel_rfl) rfl (by decide)
instance : Sl Go.Proofs.Try.prog 51 119 1 24 := sl51
theorem ag52 : Ag Go.Proofs.Try.prog 52 10 := ag_of Go.Proofs.Try.underlying52 (by kernel_rfl)
instance : Ag Go.Proofs.Try.prog 52 10 := ag52
theorem fd52_0 : Fd Go.Proofs.Try.prog 52 0 0 1 false := fd_of Go.Proofs.Try.underlying52 (off := 0) (ft := 50) rfl Go.Proofs.Try.underlying50 (n := 1) (by kernel_rfl) rfl (by decide)
instance : Fd Go.Proofs.Try.prog 52 0 0 1 false := fd52_0
theorem fd52_1 : Fd Go.Proofs.Try.prog 52 1 1 1 false := fd_of Go.Proofs.Try.underlying52 (off := 1) (ft := 3) rfl Go.Proofs.Try.underlying3 (n := 1) (by kernel_rfl) rfl (by decide)
instance : Fd Go.Proofs.Try.prog 52 1 1 1 false := fd52_1
theorem fd52_2 : Fd Go.Proofs.Try.prog 52 2 2 1 false := fd_of Go.Proofs.Try.underlying52 (off := 2) (ft := 50) rfl Go.Proofs.Try.underlying50 (n := 1) (by kernel_rfl) rfl (by decide)
instance : Fd Go.Proofs.Try.prog 52 2 2 1 false := fd52_2
theorem fd52_3 : Fd Go.Proofs.Try.prog 52 3 3 1 false := fd_of Go.Proofs.Try.underlying52 (off := 3) (ft := 50) rfl Go.Proofs.Try.underlying50 (n := 1) (by kernel_rfl) rfl (by decide)
instance : Fd Go.Proofs.Try.prog 52 3 3 1 false := fd52_3
theorem fd52_4 : Fd Go.Proofs.Try.prog 52 4 4 1 false := fd_of Go.Proofs.Try.underlying52 (off := 4) (ft := 50) rfl Go.Proofs.Try.underlying50 (n := 1) (by kernel_rfl) rfl (by decide)
instance : Fd Go.Proofs.Try.prog 52 4 4 1 false := fd52_4
theorem fd52_5 : Fd Go.Proofs.Try.prog 52 5 5 1 false := fd_of Go.Proofs.Try.underlying52 (off := 5) (ft := 51) rfl Go.Proofs.Try.underlying51 (n := 1) (by kernel_rfl) rfl (by decide)
instance : Fd Go.Proofs.Try.prog 52 5 5 1 false := fd52_5
theorem fd52_6 : Fd Go.Proofs.Try.prog 52 6 6 1 false := fd_of Go.Proofs.Try.underlying52 (off := 6) (ft := 3) rfl Go.Proofs.Try.underlying3 (n := 1) (by kernel_rfl) rfl (by decide)
instance : Fd Go.Proofs.Try.prog 52 6 6 1 false := fd52_6
theorem fd52_7 : Fd Go.Proofs.Try.prog 52 7 7 1 false := fd_of Go.Proofs.Try.underlying52 (off := 7) (ft := 3) rfl Go.Proofs.Try.underlying3 (n := 1) (by kernel_rfl) rfl (by decide)
instance : Fd Go.Proofs.Try.prog 52 7 7 1 false := fd52_7
theorem fd52_8 : Fd Go.Proofs.Try.prog 52 8 8 1 false := fd_of Go.Proofs.Try.underlying52 (off := 8) (ft := 3) rfl Go.Proofs.Try.underlying3 (n := 1) (by kernel_rfl) rfl (by decide)
instance : Fd Go.Proofs.Try.prog 52 8 8 1 false := fd52_8
theorem fd52_9 : Fd Go.Proofs.Try.prog 52 9 9 1 false := fd_of Go.Proofs.Try.underlying52 (off := 9) (ft := 3) rfl Go.Proofs.Try.underlying3 (n := 1) (by kernel_rfl) rfl (by decide)
instance : Fd Go.Proofs.Try.prog 52 9 9 1 false := fd52_9
theorem pl52 : Pl Go.Proofs.Try.prog 52 [(0, 1), (1, 1), (2, 1), (3, 1), (4, 1), (5, 1), (6, 1), (7, 1), (8, 1), (9, 1)] := pl_of Go.Proofs.Try.underlying52 (by kernel_rfl)
instance : Pl Go.Proofs.Try.prog 52 [(0, 1), (1, 1), (2, 1), (3, 1), (4, 1), (5, 1), (6, 1), (7, 1), (8, 1), (9, 1)] := pl52
theorem ze52 : Ze Go.Proofs.Try.prog 52 [.slice none 0 0, .int .i64 (0), .slice none 0 0, .slice none 0 0, .slice none 0 0, .slice none 0 0, .int .i64 (0), .int .i64 (0), .int .i64 (0), .int .i64 (0)] := ze_of (z := .agg #[.slice none 0 0, .int .i64 (0), .slice none 0 0, .slice none 0 0, .slice none 0 0, .slice none 0 0, .int .i64 (0), .int .i64 (0), .int .i64 (0), .int .i64 (0)]) (by kernel_rfl) rfl
instance : Ze Go.Proofs.Try.prog 52 [.slice none 0 0, .int .i64 (0), .slice none 0 0, .slice none 0 0, .slice none 0 0, .slice none 0 0, .int .i64 (0), .int .i64 (0), .int .i64 (0), .int .i64 (0)] := ze52
theorem ag53 : Ag Go.Proofs.Try.prog 53 10 := ag_of Go.Proofs.Try.underlying53 (by kernel_rfl)
instance : Ag Go.Proofs.Try.prog 53 10 := ag53
theorem fd53_0 : Fd Go.Proofs.Try.prog 53 0 0 1 false := fd_of Go.Proofs.Try.underlying53 (off := 0) (ft := 50) rfl Go.Proofs.Try.underlying50 (n := 1) (by kernel_rfl) rfl (by decide)
instance : Fd Go.Proofs.Try.prog 53 0 0 1 false := fd53_0
theorem fd53_1 : Fd Go.Proofs.Try.prog 53 1 1 1 false := fd_of Go.Proofs.Try.underlying53 (off := 1) (ft := 3) rfl Go.Proofs.Try.underlying3 (n := 1) (by kernel_rfl) rfl (by decide)
instance : Fd Go.Proofs.Try.prog 53 1 1 1 false := fd53_1
theorem fd53_2 : Fd Go.Proofs.Try.prog 53 2 2 1 false := fd_of Go.Proofs.Try.underlying53 (off := 2) (ft := 50) rfl Go.Proofs.Try.underlying50 (n := 1) (by kernel_rfl) rfl (by decide)
instance : Fd Go.Proofs.Try.prog 53 2 2 1 false := fd53_2
theorem fd53_3 : Fd Go.Proofs.Try.prog 53 3 3 1 false := fd_of Go.Proofs.Try.underlying53 (off := 3) (ft := 50) rfl Go.Proofs.Try.underlying50 (n := 1) (by kernel_rfl) rfl (by decide)
instance : Fd Go.Proofs.Try.prog 53 3 3 1 false := fd53_3
theorem fd53_4 : Fd Go.Proofs.Try.prog 53 4 4 1 false := fd_of Go.Proofs.Try.underlying53 (off := 4) (ft := 50) rfl Go.Proofs.Try.underlying50 (n := 1) (by kernel_rfl) rfl (by decide)
instance : Fd Go.Proofs.Try.prog 53 4 4 1 false := fd53_4
theorem fd53_5 : Fd Go.Proofs.Try.prog 53 5 5 1 false := fd_of Go.Proofs.Try.underlying53 (off := 5) (ft := 51) rfl Go.Proofs.Try.underlying51 (n := 1) (by kernel_rfl) rfl (by decide)
instance : Fd Go.Proofs.Try.prog 53 5 5 1 false := fd53_5
theorem fd53_6 : Fd Go.Proofs.Try.prog 53 6 6 1 false := fd_of Go.Proofs.Try.underlying53 (off := 6) (ft := 3) rfl Go.Proofs.Try.underlying3 (n := 1) (by kernel_rfl) rfl (by decide)
instance : Fd Go.Proofs.Try.prog 53 6 6 1 false := fd53_6
theorem fd53_7 : Fd Go.Proofs.Try.prog 53 7 7 1 false := fd_of Go.Proofs.Try.underlying53 (off := 7) (ft := 3) rfl Go.Proofs.Try.underlying3 (n := 1) (by kernel_rfl) rfl (by decide)
instance : Fd Go.Proofs.Try.prog 53 7 7 1 false := fd53_7
theorem fd53_8 : Fd Go.Proofs.Try.prog 53 8 8 1 false := fd_of Go.Proofs.Try.underlying53 (off := 8) (ft := 3) rfl Go.Proofs.Try.underlying3 (n := 1) (by kernel_rfl) rfl (by decide)
instance : Fd Go.Proofs.Try.prog 53 8 8 1 false := fd53_8
theorem fd53_9 : Fd Go.Proofs.Try.prog 53 9 9 1 false := fd_of Go.Proofs.Try.underlying53 (off := 9) (ft := 3) rfl Go.Proofs.Try.underlying3 (n := 1) (by kernel_rfl) rfl (by decide)
instance : Fd Go.Proofs.Try.prog 53 9 9 1 false := fd53_9
theorem pl53 : Pl Go.Proofs.Try.prog 53 [(0, 1), (1, 1), (2, 1), (3, 1), (4, 1), (5, 1), (6, 1), (7, 1), (8, 1), (9, 1)] := pl_of Go.Proofs.Try.underlying53 (by kernel_rfl)
instance : Pl Go.Proofs.Try.prog 53 [(0, 1), (1, 1), (2, 1), (3, 1), (4, 1), (5, 1), (6, 1), (7, 1), (8, 1), (9, 1)] := pl53
theorem ze53 : Ze Go.Proofs.Try.prog 53 [.slice none 0 0, .int .i64 (0), .slice none 0 0, .slice none 0 0, .slice none 0 0, .slice none 0 0, .int .i64 (0), .int .i64 (0), .int .i64 (0), .int .i64 (0)] := ze_of (z := .agg #[.slice none 0 0, .int .i64 (0), .slice none 0 0, .slice none 0 0, .slice none 0 0, .slice none 0 0, .int .i64 (0), .int .i64 (0), .int .i64 (0), .int .i64 (0)]) (by kernel_rfl) rfl
instance : Ze Go.Proofs.Try.prog 53 [.slice none 0 0, .int .i64 (0), .slice none 0 0, .slice none 0 0, .slice none 0 0, .slice none 0 0, .int .i64 (0), .int .i64 (0), .int .i64 (0), .int .i64 (0)] := ze53
theorem sc70 : Sc Go.Proofs.Try.prog 70 := sc_of Go.Proofs.Try.underlying70 rfl (by kernel_rfl)
instance : Sc Go.Proofs.Try.prog 70 := sc70
theorem ze70 : Ze Go.Proofs.Try.prog 70 [.pointer none] := ze_of (z := .pointer none) (by kernel_rfl) rfl
instance : Ze Go.Proofs.Try.prog 70 [.pointer none] := ze70
theorem ag77 : Ag Go.Proofs.Try.prog 77 3 := ag_of Go.Proofs.Try.underlying77 (by kernel_rfl)
instance : Ag Go.Proofs.Try.prog 77 3 := ag77
theorem fd77_0 : Fd Go.Proofs.Try.prog 77 0 0 1 false := fd_of Go.Proofs.Try.underlying77 (off := 0) (ft := 3) rfl Go.Proofs.Try.underlying3 (n := 1) (by kernel_rfl) rfl (by decide)
instance : Fd Go.Proofs.Try.prog 77 0 0 1 false := fd77_0
theorem fd77_1 : Fd Go.Proofs.Try.prog 77 1 1 1 false := fd_of Go.Proofs.Try.underlying77 (off := 1) (ft := 3) rfl Go.Proofs.Try.underlying3 (n := 1) (by kernel_rfl) rfl (by decide)
instance : Fd Go.Proofs.Try.prog 77 1 1 1 false := fd77_1
theorem fd77_2 : Fd Go.Proofs.Try.prog 77 2 2 1 false := fd_of Go.Proofs.Try.underlying77 (off := 2) (ft := 3) rfl Go.Proofs.Try.underlying3 (n := 1) (by kernel_rfl) rfl (by decide)
instance : Fd Go.Proofs.Try.prog 77 2 2 1 false := fd77_2
theorem pl77 : Pl Go.Proofs.Try.prog 77 [(0, 1), (1, 1), (2, 1)] := pl_of Go.Proofs.Try.underlying77 (by kernel_rfl)
instance : Pl Go.Proofs.Try.prog 77 [(0, 1), (1, 1), (2, 1)] := pl77
theorem ze77 : Ze Go.Proofs.Try.prog 77 [.int .i64 (0), .int .i64 (0), .int .i64 (0)] := ze_of (z := .agg #[.int .i64 (0), .int .i64 (0), .int .i64 (0)]) (by kernel_rfl) rfl
instance : Ze Go.Proofs.Try.prog 77 [.int .i64 (0), .int .i64 (0), .int .i64 (0)] := ze77
theorem ag78 : Ag Go.Proofs.Try.prog 78 3 := ag_of Go.Proofs.Try.underlying78 (by kernel_rfl)
instance : Ag Go.Proofs.Try.prog 78 3 := ag78
theorem fd78_0 : Fd Go.Proofs.Try.prog 78 0 0 1 false := fd_of Go.Proofs.Try.underlying78 (off := 0) (ft := 3) rfl Go.Proofs.Try.underlying3 (n := 1) (by kernel_rfl) rfl (by decide)
instance : Fd Go.Proofs.Try.prog 78 0 0 1 false := fd78_0
theorem fd78_1 : Fd Go.Proofs.Try.prog 78 1 1 1 false := fd_of Go.Proofs.Try.underlying78 (off := 1) (ft := 3) rfl Go.Proofs.Try.underlying3 (n := 1) (by kernel_rfl) rfl (by decide)
instance : Fd Go.Proofs.Try.prog 78 1 1 1 false := fd78_1
theorem fd78_2 : Fd Go.Proofs.Try.prog 78 2 2 1 false := fd_of Go.Proofs.Try.underlying78 (off := 2) (ft := 3) rfl Go.Proofs.Try.underlying3 (n := 1) (by kernel_rfl) rfl (by decide)
instance : Fd Go.Proofs.Try.prog 78 2 2 1 false := fd78_2
theorem pl78 : Pl Go.Proofs.Try.prog 78 [(0, 1), (1, 1), (2, 1)] := pl_of Go.Proofs.Try.underlying78 (by kernel_rfl)
instance : Pl Go.Proofs.Try.prog 78 [(0, 1), (1, 1), (2, 1)] := pl78
theorem ze78 : Ze Go.Proofs.Try.prog 78 [.int .i64 (0), .int .i64 (0), .int .i64 (0)] := ze_of (z := .agg #[.int .i64 (0), .int .i64 (0), .int .i64 (0)]) (by kernel_rfl) rfl
instance : Ze Go.Proofs.Try.prog 78 [.int .i64 (0), .int .i64 (0), .int .i64 (0)] := ze78
theorem sc81 : Sc Go.Proofs.Try.prog 81 := sc_of Go.Proofs.Try.underlying81 rfl (by kernel_rfl)
instance : Sc Go.Proofs.Try.prog 81 := sc81
theorem ze81 : Ze Go.Proofs.Try.prog 81 [.pointer none] := ze_of (z := .pointer none) (by kernel_rfl) rfl
instance : Ze Go.Proofs.Try.prog 81 [.pointer none] := ze81
theorem ag83 : Ag Go.Proofs.Try.prog 83 1 := ag_of Go.Proofs.Try.underlying83 (by kernel_rfl)
instance : Ag Go.Proofs.Try.prog 83 1 := ag83
theorem fd83_0 : Fd Go.Proofs.Try.prog 83 0 0 1 false := fd_of Go.Proofs.Try.underlying83 (off := 0) (ft := 24) rfl Go.Proofs.Try.underlying24 (n := 1) (by kernel_rfl) rfl (by decide)
instance : Fd Go.Proofs.Try.prog 83 0 0 1 false := fd83_0
theorem pl83 : Pl Go.Proofs.Try.prog 83 [(0, 1)] := pl_of Go.Proofs.Try.underlying83 (by kernel_rfl)
instance : Pl Go.Proofs.Try.prog 83 [(0, 1)] := pl83
theorem ze83 : Ze Go.Proofs.Try.prog 83 [.slice none 0 0] := ze_of (z := .agg #[.slice none 0 0]) (by kernel_rfl) rfl
instance : Ze Go.Proofs.Try.prog 83 [.slice none 0 0] := ze83
theorem ag84 : Ag Go.Proofs.Try.prog 84 1 := ag_of Go.Proofs.Try.underlying84 (by kernel_rfl)
instance : Ag Go.Proofs.Try.prog 84 1 := ag84
theorem fd84_0 : Fd Go.Proofs.Try.prog 84 0 0 1 false := fd_of Go.Proofs.Try.underlying84 (off := 0) (ft := 24) rfl Go.Proofs.Try.underlying24 (n := 1) (by kernel_rfl) rfl (by decide)
instance : Fd Go.Proofs.Try.prog 84 0 0 1 false := fd84_0
theorem pl84 : Pl Go.Proofs.Try.prog 84 [(0, 1)] := pl_of Go.Proofs.Try.underlying84 (by kernel_rfl)
instance : Pl Go.Proofs.Try.prog 84 [(0, 1)] := pl84
theorem ze84 : Ze Go.Proofs.Try.prog 84 [.slice none 0 0] := ze_of (z := .agg #[.slice none 0 0]) (by kernel_rfl) rfl
instance : Ze Go.Proofs.Try.prog 84 [.slice none 0 0] := ze84
theorem ag105 : Ag Go.Proofs.Try.prog 105 3 := ag_of Go.Proofs.Try.underlying105 (by kernel_rfl)
instance : Ag Go.Proofs.Try.prog 105 3 := ag105
theorem fd105_0 : Fd Go.Proofs.Try.prog 105 0 0 1 false := fd_of Go.Proofs.Try.underlying105 (off := 0) (ft := 3) rfl Go.Proofs.Try.underlying3 (n := 1) (by kernel_rfl) rfl (by decide)
instance : Fd Go.Proofs.Try.prog 105 0 0 1 false := fd105_0
theorem fd105_1 : Fd Go.Proofs.Try.prog 105 1 1 1 false := fd_of Go.Proofs.Try.underlying105 (off := 1) (ft := 3) rfl Go.Proofs.Try.underlying3 (n := 1) (by kernel_rfl) rfl (by decide)
instance : Fd Go.Proofs.Try.prog 105 1 1 1 false := fd105_1
theorem fd105_2 : Fd Go.Proofs.Try.prog 105 2 2 1 false := fd_of Go.Proofs.Try.underlying105 (off := 2) (ft := 3) rfl Go.Proofs.Try.underlying3 (n := 1) (by kernel_rfl) rfl (by decide)
instance : Fd Go.Proofs.Try.prog 105 2 2 1 false := fd105_2
theorem pl105 : Pl Go.Proofs.Try.prog 105 [(0, 1), (1, 1), (2, 1)] := pl_of Go.Proofs.Try.underlying105 (by kernel_rfl)
instance : Pl Go.Proofs.Try.prog 105 [(0, 1), (1, 1), (2, 1)] := pl105
theorem ze105 : Ze Go.Proofs.Try.prog 105 [.int .i64 (0), .int .i64 (0), .int .i64 (0)] := ze_of (z := .agg #[.int .i64 (0), .int .i64 (0), .int .i64 (0)]) (by kernel_rfl) rfl
instance : Ze Go.Proofs.Try.prog 105 [.int .i64 (0), .int .i64 (0), .int .i64 (0)] := ze105
theorem ag108 : Ag Go.Proofs.Try.prog 108 3 := ag_of Go.Proofs.Try.underlying108 (by kernel_rfl)
instance : Ag Go.Proofs.Try.prog 108 3 := ag108
theorem fd108_0 : Fd Go.Proofs.Try.prog 108 0 0 1 false := fd_of Go.Proofs.Try.underlying108 (off := 0) (ft := 22) rfl Go.Proofs.Try.underlying22 (n := 1) (by kernel_rfl) rfl (by decide)
instance : Fd Go.Proofs.Try.prog 108 0 0 1 false := fd108_0
theorem fd108_1 : Fd Go.Proofs.Try.prog 108 1 1 1 false := fd_of Go.Proofs.Try.underlying108 (off := 1) (ft := 3) rfl Go.Proofs.Try.underlying3 (n := 1) (by kernel_rfl) rfl (by decide)
instance : Fd Go.Proofs.Try.prog 108 1 1 1 false := fd108_1
theorem fd108_2 : Fd Go.Proofs.Try.prog 108 2 2 1 false := fd_of Go.Proofs.Try.underlying108 (off := 2) (ft := 3) rfl Go.Proofs.Try.underlying3 (n := 1) (by kernel_rfl) rfl (by decide)
instance : Fd Go.Proofs.Try.prog 108 2 2 1 false := fd108_2
theorem pl108 : Pl Go.Proofs.Try.prog 108 [(0, 1), (1, 1), (2, 1)] := pl_of Go.Proofs.Try.underlying108 (by kernel_rfl)
instance : Pl Go.Proofs.Try.prog 108 [(0, 1), (1, 1), (2, 1)] := pl108
theorem ze108 : Ze Go.Proofs.Try.prog 108 [.slice none 0 0, .int .i64 (0), .int .i64 (0)] := ze_of (z := .agg #[.slice none 0 0, .int .i64 (0), .int .i64 (0)]) (by kernel_rfl) rfl
instance : Ze Go.Proofs.Try.prog 108 [.slice none 0 0, .int .i64 (0), .int .i64 (0)] := ze108
theorem ag109 : Ag Go.Proofs.Try.prog 109 3 := ag_of Go.Proofs.Try.underlying109 (by kernel_rfl)
instance : Ag Go.Proofs.Try.prog 109 3 := ag109
theorem fd109_0 : Fd Go.Proofs.Try.prog 109 0 0 1 false := fd_of Go.Proofs.Try.underlying109 (off := 0) (ft := 22) rfl Go.Proofs.Try.underlying22 (n := 1) (by kernel_rfl) rfl (by decide)
instance : Fd Go.Proofs.Try.prog 109 0 0 1 false := fd109_0
theorem fd109_1 : Fd Go.Proofs.Try.prog 109 1 1 1 false := fd_of Go.Proofs.Try.underlying109 (off := 1) (ft := 3) rfl Go.Proofs.Try.underlying3 (n := 1) (by kernel_rfl) rfl (by decide)
instance : Fd Go.Proofs.Try.prog 109 1 1 1 false := fd109_1
theorem fd109_2 : Fd Go.Proofs.Try.prog 109 2 2 1 false := fd_of Go.Proofs.Try.underlying109 (off := 2) (ft := 3) rfl Go.Proofs.Try.underlying3 (n := 1) (by kernel_rfl) rfl (by decide)
instance : Fd Go.Proofs.Try.prog 109 2 2 1 false := fd109_2
theorem pl109 : Pl Go.Proofs.Try.prog 109 [(0, 1), (1, 1), (2, 1)] := pl_of Go.Proofs.Try.underlying109 (by kernel_rfl)
instance : Pl Go.Proofs.Try.prog 109 [(0, 1), (1, 1), (2, 1)] := pl109
theorem ze109 : Ze Go.Proofs.Try.prog 109 [.slice none 0 0, .int .i64 (0), .int .i64 (0)] := ze_of (z := .agg #[.slice none 0 0, .int .i64 (0), .int .i64 (0)]) (by kernel_rfl) rfl
instance : Ze Go.Proofs.Try.prog 109 [.slice none 0 0, .int .i64 (0), .int .i64 (0)] := ze109
theorem sc115 : Sc Go.Proofs.Try.prog 115 := sc_of Go.Proofs.Try.underlying115 rfl (by kernel_rfl)
instance : Sc Go.Proofs.Try.prog 115 := sc115
theorem ze115 : Ze Go.Proofs.Try.prog 115 [.slice none 0 0] := ze_of (z := .slice none 0 0) (by kernel_rfl) rfl
instance : Ze Go.Proofs.Try.prog 115 [.slice none 0 0] := ze115
theorem sl115 : Sl Go.Proofs.Try.prog 115 24 1 24 := sl_of (z := .slice none 0 0) Go.Proofs.Try.underlying115 (by kernel_rfl) rfl (by decide)
instance : Sl Go.Proofs.Try.prog 115 24 1 24 := sl115
theorem ag118 : Ag Go.Proofs.Try.prog 118 1 := ag_of Go.Proofs.Try.underlying118 (by kernel_rfl)
instance : Ag Go.Proofs.Try.prog 118 1 := ag118
theorem fd118_0 : Fd Go.Proofs.Try.prog 118 0 0 1 false := fd_of Go.Proofs.Try.underlying118 (off := 0) (ft := 50) rfl Go.Proofs.Try.underlying50 (n := 1) (by kernel_rfl) rfl (by decide)
instance : Fd Go.Proofs.Try.prog 118 0 0 1 false := fd118_0
theorem pl118 : Pl Go.Proofs.Try.prog 118 [(0, 1)] := pl_of Go.Proofs.Try.underlying118 (by kernel_rfl)
instance : Pl Go.Proofs.Try.prog 118 [(0, 1)] := pl118
theorem ze118 : Ze Go.Proofs.Try.prog 118 [.slice none 0 0] := ze_of (z := .agg #[.slice none 0 0]) (by kernel_rfl) rfl
instance : Ze Go.Proofs.Try.prog 118 [.slice none 0 0] := ze118
theorem ag119 : Ag Go.Proofs.Try.prog 119 1 := ag_of Go.Proofs.Try.underlying119 (by kernel_rfl)
instance : Ag Go.Proofs.Try.prog 119 1 := ag119
theorem fd119_0 : Fd Go.Proofs.Try.prog 119 0 0 1 false := fd_of Go.Proofs.Try.underlying119 (off := 0) (ft := 50) rfl Go.Proofs.Try.underlying50 (n := 1) (by kernel_rfl) rfl (by decide)
instance : Fd Go.Proofs.Try.prog 119 0 0 1 false := fd119_0
theorem pl119 : Pl Go.Proofs.Try.prog 119 [(0, 1)] := pl_of Go.Proofs.Try.underlying119 (by kernel_rfl)
instance : Pl Go.Proofs.Try.prog 119 [(0, 1)] := pl119
theorem ze119 : Ze Go.Proofs.Try.prog 119 [.slice none 0 0] := ze_of (z := .agg #[.slice none 0 0]) (by kernel_rfl) rfl
instance : Ze Go.Proofs.Try.prog 119 [.slice none 0 0] := ze119
theorem sc123 : Sc Go.Proofs.Try.prog 123 := sc_of Go.Proofs.Try.underlying123 rfl (by kernel_rfl)
instance : Sc Go.Proofs.Try.prog 123 := sc123
theorem ze123 : Ze Go.Proofs.Try.prog 123 [.int .u64 (0)] := ze_of (z := .int .u64 (0)) (by kernel_rfl) rfl
instance : Ze Go.Proofs.Try.prog 123 [.int .u64 (0)] := ze123
theorem ik123 : Ik Go.Proofs.Try.prog 123 .u64 := ⟨Go.Proofs.Try.underlying123⟩
instance : Ik Go.Proofs.Try.prog 123 .u64 := ik123
theorem sc134 : Sc Go.Proofs.Try.prog 134 := sc_of Go.Proofs.Try.underlying134 rfl (by kernel_rfl)
instance : Sc Go.Proofs.Try.prog 134 := sc134
theorem ze134 : Ze Go.Proofs.Try.prog 134 [.int .u32 (0)] := ze_of (z := .int .u32 (0)) (by kernel_rfl) rfl
instance : Ze Go.Proofs.Try.prog 134 [.int .u32 (0)] := ze134
theorem ik134 : Ik Go.Proofs.Try.prog 134 .u32 := ⟨Go.Proofs.Try.underlying134⟩
instance : Ik Go.Proofs.Try.prog 134 .u32 := ik134
theorem sc138 : Sc Go.Proofs.Try.prog 138 := sc_of Go.Proofs.Try.underlying138 rfl (by kernel_rfl)
instance : Sc Go.Proofs.Try.prog 138 := sc138
theorem ze138 : Ze Go.Proofs.Try.prog 138 [.pointer none] := ze_of (z := .pointer none) (by kernel_rfl) rfl
instance : Ze Go.Proofs.Try.prog 138 [.pointer none] := ze138
def tab : Tab where
  ag := [(13, 2), (26, 10), (27, 10), (39, 4), (40, 4), (52, 10), (53, 10), (77, 3), (78, 3), (83, 1), (84, 1), (105, 3), (108, 3), (109, 3), (118, 1), (119, 1)]
  sc := [2, 3, 4, 5, 9, 12, 21, 22, 24, 25, 36, 50, 51, 70, 81, 115, 123, 134, 138]
  fd := [((13, 0), (0, 1, false)), ((13, 1), (1, 1, false)), ((26, 0), (0, 1, false)), ((26, 1), (1, 1, false)), ((26, 2), (2, 1, false)), ((26, 3), (3, 1, false)), ((26, 4), (4, 1, false)), ((26, 5), (5, 1, false)), ((26, 6), (6, 1, false)), ((26, 7), (7, 1, false)), ((26, 8), (8, 1, false)), ((26, 9), (9, 1, false)), ((27, 0), (0, 1, false)), ((27, 1), (1, 1, false)), ((27, 2), (2, 1, false)), ((27, 3), (3, 1, false)), ((27, 4), (4, 1, false)), ((27, 5), (5, 1, false)), ((27, 6), (6, 1, false)), ((27, 7), (7, 1, false)), ((27, 8), (8, 1, false)), ((27, 9), (9, 1, false)), ((39, 0), (0, 1, false)), ((39, 1), (1, 1, false)), ((39, 2), (2, 1, false)), ((39, 3), (3, 1, false)), ((40, 0), (0, 1, false)), ((40, 1), (1, 1, false)), ((40, 2), (2, 1, false)), ((40, 3), (3, 1, false)), ((52, 0), (0, 1, false)), ((52, 1), (1, 1, false)), ((52, 2), (2, 1, false)), ((52, 3), (3, 1, false)), ((52, 4), (4, 1, false)), ((52, 5), (5, 1, false)), ((52, 6), (6, 1, false)), ((52, 7), (7, 1, false)), ((52, 8), (8, 1, false)), ((52, 9), (9, 1, false)), ((53, 0), (0, 1, false)), ((53, 1), (1, 1, false)), ((53, 2), (2, 1, false)), ((53, 3), (3, 1, false)), ((53, 4), (4, 1, false)), ((53, 5), (5, 1, false)), ((53, 6), (6, 1, false)), ((53, 7), (7, 1, false)), ((53, 8), (8, 1, false)), ((53, 9), (9, 1, false)), ((77, 0), (0, 1, false)), ((77, 1), (1, 1, false)), ((77, 2), (2, 1, false)), ((78, 0), (0, 1, false)), ((78, 1), (1, 1, false)), ((78, 2), (2, 1, false)), ((83, 0), (0, 1, false)), ((84, 0), (0, 1, false)), ((105, 0), (0, 1, false)), ((105, 1), (1, 1, false)), ((105, 2), (2, 1, false)), ((108, 0), (0, 1, false)), ((108, 1), (1, 1, false)), ((108, 2), (2, 1, false)), ((109, 0), (0, 1, false)), ((109, 1), (1, 1, false)), ((109, 2), (2, 1, false)), ((118, 0), (0, 1, false)), ((119, 0), (0, 1, false))]
  ze := [(2, [.int .i64 (0)]), (3, [.int .i64 (0)]), (4, [.bool false]), (5, [.int .u8 (0)]), (9, [.string .empty]), (12, [.int .u64 (0)]), (13, [.string .empty, .int .u64 (0)]), (21, [.int .i32 (0)]), (22, [.slice none 0 0]), (24, [.slice none 0 0]), (25, [.slice none 0 0]), (26, [.slice none 0 0, .int .i64 (0), .slice none 0 0, .slice none 0 0, .slice none 0 0, .slice none 0 0, .int .i64 (0), .int .i64 (0), .int .i64 (0), .int .i64 (0)]), (27, [.slice none 0 0, .int .i64 (0), .slice none 0 0, .slice none 0 0, .slice none 0 0, .slice none 0 0, .int .i64 (0), .int .i64 (0), .int .i64 (0), .int .i64 (0)]), (36, [.slice none 0 0]), (39, [.slice none 0 0, .int .i64 (0), .int .i64 (0), .int .i64 (0)]), (40, [.slice none 0 0, .int .i64 (0), .int .i64 (0), .int .i64 (0)]), (50, [.slice none 0 0]), (51, [.slice none 0 0]), (52, [.slice none 0 0, .int .i64 (0), .slice none 0 0, .slice none 0 0, .slice none 0 0, .slice none 0 0, .int .i64 (0), .int .i64 (0), .int .i64 (0), .int .i64 (0)]), (53, [.slice none 0 0, .int .i64 (0), .slice none 0 0, .slice none 0 0, .slice none 0 0, .slice none 0 0, .int .i64 (0), .int .i64 (0), .int .i64 (0), .int .i64 (0)]), (70, [.pointer none]), (77, [.int .i64 (0), .int .i64 (0), .int .i64 (0)]), (78, [.int .i64 (0), .int .i64 (0), .int .i64 (0)]), (81, [.pointer none]), (83, [.slice none 0 0]), (84, [.slice none 0 0]), (105, [.int .i64 (0), .int .i64 (0), .int .i64 (0)]), (108, [.slice none 0 0, .int .i64 (0), .int .i64 (0)]), (109, [.slice none 0 0, .int .i64 (0), .int .i64 (0)]), (115, [.slice none 0 0]), (118, [.slice none 0 0]), (119, [.slice none 0 0]), (123, [.int .u64 (0)]), (134, [.int .u32 (0)]), (138, [.pointer none])]
  pl := [(13, [(0, 1), (1, 1)]), (26, [(0, 1), (1, 1), (2, 1), (3, 1), (4, 1), (5, 1), (6, 1), (7, 1), (8, 1), (9, 1)]), (27, [(0, 1), (1, 1), (2, 1), (3, 1), (4, 1), (5, 1), (6, 1), (7, 1), (8, 1), (9, 1)]), (39, [(0, 1), (1, 1), (2, 1), (3, 1)]), (40, [(0, 1), (1, 1), (2, 1), (3, 1)]), (52, [(0, 1), (1, 1), (2, 1), (3, 1), (4, 1), (5, 1), (6, 1), (7, 1), (8, 1), (9, 1)]), (53, [(0, 1), (1, 1), (2, 1), (3, 1), (4, 1), (5, 1), (6, 1), (7, 1), (8, 1), (9, 1)]), (77, [(0, 1), (1, 1), (2, 1)]), (78, [(0, 1), (1, 1), (2, 1)]), (83, [(0, 1)]), (84, [(0, 1)]), (105, [(0, 1), (1, 1), (2, 1)]), (108, [(0, 1), (1, 1), (2, 1)]), (109, [(0, 1), (1, 1), (2, 1)]), (118, [(0, 1)]), (119, [(0, 1)])]
  sl := [(22, (5, 1, 1)), (24, (78, 3, 24)), (25, (84, 1, 24)), (36, (3, 1, 8)), (50, (105, 3, 24)), (51, (119, 1, 24)), (115, (24, 1, 24))]
  ik := [(2, .i64), (3, .i64), (5, .u8), (12, .u64), (21, .i32), (123, .u64), (134, .u32)]
  str := [9]
  bl := [4]
instance : TabC Go.Proofs.Try.prog tab := ⟨{ ag := all_cons ag13 (all_cons ag26 (all_cons ag27 (all_cons ag39 (all_cons ag40 (all_cons ag52 (all_cons ag53 (all_cons ag77 (all_cons ag78 (all_cons ag83 (all_cons ag84 (all_cons ag105 (all_cons ag108 (all_cons ag109 (all_cons ag118 (all_cons ag119 (all_nil)))))))))))))))), sc := all_cons sc2 (all_cons sc3 (all_cons sc4 (all_cons sc5 (all_cons sc9 (all_cons sc12 (all_cons sc21 (all_cons sc22 (all_cons sc24 (all_cons sc25 (all_cons sc36 (all_cons sc50 (all_cons sc51 (all_cons sc70 (all_cons sc81 (all_cons sc115 (all_cons sc123 (all_cons sc134 (all_cons sc138 (all_nil))))))))))))))))))), fd := all_cons fd13_0 (all_cons fd13_1 (all_cons fd26_0 (all_cons fd26_1 (all_cons fd26_2 (all_cons fd26_3 (all_cons fd26_4 (all_cons fd26_5 (all_cons fd26_6 (all_cons fd26_7 (all_cons fd26_8 (all_cons fd26_9 (all_cons fd27_0 (all_cons fd27_1 (all_cons fd27_2 (all_cons fd27_3 (all_cons fd27_4 (all_cons fd27_5 (all_cons fd27_6 (all_cons fd27_7 (all_cons fd27_8 (all_cons fd27_9 (all_cons fd39_0 (all_cons fd39_1 (all_cons fd39_2 (all_cons fd39_3 (all_cons fd40_0 (all_cons fd40_1 (all_cons fd40_2 (all_cons fd40_3 (all_cons fd52_0 (all_cons fd52_1 (all_cons fd52_2 (all_cons fd52_3 (all_cons fd52_4 (all_cons fd52_5 (all_cons fd52_6 (all_cons fd52_7 (all_cons fd52_8 (all_cons fd52_9 (all_cons fd53_0 (all_cons fd53_1 (all_cons fd53_2 (all_cons fd53_3 (all_cons fd53_4 (all_cons fd53_5 (all_cons fd53_6 (all_cons fd53_7 (all_cons fd53_8 (all_cons fd53_9 (all_cons fd77_0 (all_cons fd77_1 (all_cons fd77_2 (all_cons fd78_0 (all_cons fd78_1 (all_cons fd78_2 (all_cons fd83_0 (all_cons fd84_0 (all_cons fd105_0 (all_cons fd105_1 (all_cons fd105_2 (all_cons fd108_0 (all_cons fd108_1 (all_cons fd108_2 (all_cons fd109_0 (all_cons fd109_1 (all_cons fd109_2 (all_cons fd118_0 (all_cons fd119_0 (all_nil))))))))))))))))))))))))))))))))))))))))))))))))))))))))))))))))))))), ze := all_cons ze2 (all_cons ze3 (all_cons ze4 (all_cons ze5 (all_cons ze9 (all_cons ze12 (all_cons ze13 (all_cons ze21 (all_cons ze22 (all_cons ze24 (all_cons ze25 (all_cons ze26 (all_cons ze27 (all_cons ze36 (all_cons ze39 (all_cons ze40 (all_cons ze50 (all_cons ze51 (all_cons ze52 (all_cons ze53 (all_cons ze70 (all_cons ze77 (all_cons ze78 (all_cons ze81 (all_cons ze83 (all_cons ze84 (all_cons ze105 (all_cons ze108 (all_cons ze109 (all_cons ze115 (all_cons ze118 (all_cons ze119 (all_cons ze123 (all_cons ze134 (all_cons ze138 (all_nil))))))))))))))))))))))))))))))))))), pl := all_cons pl13 (all_cons pl26 (all_cons pl27 (all_cons pl39 (all_cons pl40 (all_cons pl52 (all_cons pl53 (all_cons pl77 (all_cons pl78 (all_cons pl83 (all_cons pl84 (all_cons pl105 (all_cons pl108 (all_cons pl109 (all_cons pl118 (all_cons pl119 (all_nil)))))))))))))))), sl := all_cons sl22 (all_cons sl24 (all_cons sl25 (all_cons sl36 (all_cons sl50 (all_cons sl51 (all_cons sl115 (all_nil))))))), ik := all_cons ik2 (all_cons ik3 (all_cons ik5 (all_cons ik12 (all_cons ik21 (all_cons ik123 (all_cons ik134 (all_nil))))))), str := all_cons str9 (all_nil), bl := all_cons bl4 (all_nil) }, by kernel_rfl⟩
instance : Ent Go.Proofs.Try.prog 3 := ent_of Go.Proofs.Try.func3 rfl (by decide)
instance : Ent Go.Proofs.Try.prog 4 := ent_of Go.Proofs.Try.func4 rfl (by decide)
instance : Ent Go.Proofs.Try.prog 5 := ent_of Go.Proofs.Try.func5 rfl (by decide)
instance : Ent Go.Proofs.Try.prog 6 := ent_of Go.Proofs.Try.func6 rfl (by decide)
instance : Ent Go.Proofs.Try.prog 7 := ent_of Go.Proofs.Try.func7 rfl (by decide)
instance : Ent Go.Proofs.Try.prog 8 := ent_of Go.Proofs.Try.func8 rfl (by decide)
instance : Ent Go.Proofs.Try.prog 9 := ent_of Go.Proofs.Try.func9 rfl (by decide)
instance : Ent Go.Proofs.Try.prog 10 := ent_of Go.Proofs.Try.func10 rfl (by decide)
instance : Ent Go.Proofs.Try.prog 11 := ent_of Go.Proofs.Try.func11 rfl (by decide)
instance : Ent Go.Proofs.Try.prog 12 := ent_of Go.Proofs.Try.func12 rfl (by decide)
instance : Ent Go.Proofs.Try.prog 13 := ent_of Go.Proofs.Try.func13 rfl (by decide)
instance : Ent Go.Proofs.Try.prog 14 := ent_of Go.Proofs.Try.func14 rfl (by decide)
instance : Ent Go.Proofs.Try.prog 15 := ent_of Go.Proofs.Try.func15 rfl (by decide)
instance : Ent Go.Proofs.Try.prog 16 := ent_of Go.Proofs.Try.func16 rfl (by decide)
instance : Ent Go.Proofs.Try.prog 17 := ent_of Go.Proofs.Try.func17 rfl (by decide)
instance : Ent Go.Proofs.Try.prog 18 := ent_of Go.Proofs.Try.func18 rfl (by decide)
instance : Ent Go.Proofs.Try.prog 19 := ent_of Go.Proofs.Try.func19 rfl (by decide)
instance : Ent Go.Proofs.Try.prog 20 := ent_of Go.Proofs.Try.func20 rfl (by decide)
instance : Ent Go.Proofs.Try.prog 21 := ent_of Go.Proofs.Try.func21 rfl (by decide)
instance : Ent Go.Proofs.Try.prog 22 := ent_of Go.Proofs.Try.func22 rfl (by decide)
instance : Ent Go.Proofs.Try.prog 23 := ent_of Go.Proofs.Try.func23 rfl (by decide)
instance : Ent Go.Proofs.Try.prog 24 := ent_of Go.Proofs.Try.func24 rfl (by decide)
instance : Ent Go.Proofs.Try.prog 25 := ent_of Go.Proofs.Try.func25 rfl (by decide)
instance : Ent Go.Proofs.Try.prog 26 := ent_of Go.Proofs.Try.func26 rfl (by decide)
instance : Ent Go.Proofs.Try.prog 27 := ent_of Go.Proofs.Try.func27 rfl (by decide)
instance : Ent Go.Proofs.Try.prog 28 := ent_of Go.Proofs.Try.func28 rfl (by decide)
instance : Ent Go.Proofs.Try.prog 29 := ent_of Go.Proofs.Try.func29 rfl (by decide)
instance : Ent Go.Proofs.Try.prog 30 := ent_of Go.Proofs.Try.func30 rfl (by decide)
instance : Ent Go.Proofs.Try.prog 31 := ent_of Go.Proofs.Try.func31 rfl (by decide)
instance : Ent Go.Proofs.Try.prog 32 := ent_of Go.Proofs.Try.func32 rfl (by decide)
instance : Ent Go.Proofs.Try.prog 33 := ent_of Go.Proofs.Try.func33 rfl (by decide)
instance : Ent Go.Proofs.Try.prog 34 := ent_of Go.Proofs.Try.func34 rfl (by decide)
instance : Ent Go.Proofs.Try.prog 35 := ent_of Go.Proofs.Try.func35 rfl (by decide)
instance : Ent Go.Proofs.Try.prog 36 := ent_of Go.Proofs.Try.func36 rfl (by decide)
instance : Ent Go.Proofs.Try.prog 37 := ent_of Go.Proofs.Try.func37 rfl (by decide)
instance : Ent Go.Proofs.Try.prog 38 := ent_of Go.Proofs.Try.func38 rfl (by decide)
instance : Ent Go.Proofs.Try.prog 39 := ent_of Go.Proofs.Try.func39 rfl (by decide)
instance : Ent Go.Proofs.Try.prog 40 := ent_of Go.Proofs.Try.func40 rfl (by decide)
instance : Ent Go.Proofs.Try.prog 41 := ent_of Go.Proofs.Try.func41 rfl (by decide)
instance : Ent Go.Proofs.Try.prog 42 := ent_of Go.Proofs.Try.func42 rfl (by decide)
instance : Ent Go.Proofs.Try.prog 43 := ent_of Go.Proofs.Try.func43 rfl (by decide)
instance : Ent Go.Proofs.Try.prog 44 := ent_of Go.Proofs.Try.func44 rfl (by decide)
instance : Ent Go.Proofs.Try.prog 45 := ent_of Go.Proofs.Try.func45 rfl (by decide)
instance : Ent Go.Proofs.Try.prog 46 := ent_of Go.Proofs.Try.func46 rfl (by decide)
instance : Ent Go.Proofs.Try.prog 47 := ent_of Go.Proofs.Try.func47 rfl (by decide)
instance : Ent Go.Proofs.Try.prog 48 := ent_of Go.Proofs.Try.func48 rfl (by decide)
instance : Ent Go.Proofs.Try.prog 49 := ent_of Go.Proofs.Try.func49 rfl (by decide)
instance : Ent Go.Proofs.Try.prog 50 := ent_of Go.Proofs.Try.func50 rfl (by decide)
instance : Ent Go.Proofs.Try.prog 51 := ent_of Go.Proofs.Try.func51 rfl (by decide)
instance : Ent Go.Proofs.Try.prog 52 := ent_of Go.Proofs.Try.func52 rfl (by decide)
instance : Ent Go.Proofs.Try.prog 53 := ent_of Go.Proofs.Try.func53 rfl (by decide)
instance : Ent Go.Proofs.Try.prog 54 := ent_of Go.Proofs.Try.func54 rfl (by decide)
instance : Ent Go.Proofs.Try.prog 55 := ent_of Go.Proofs.Try.func55 rfl (by decide)
instance : Ent Go.Proofs.Try.prog 56 := ent_of Go.Proofs.Try.func56 rfl (by decide)
instance : Ent Go.Proofs.Try.prog 57 := ent_of Go.Proofs.Try.func57 rfl (by decide)
instance : Ent Go.Proofs.Try.prog 58 := ent_of Go.Proofs.Try.func58 rfl (by decide)
instance : Ent Go.Proofs.Try.prog 59 := ent_of Go.Proofs.Try.func59 rfl (by decide)
instance : Ent Go.Proofs.Try.prog 60 := ent_of Go.Proofs.Try.func60 rfl (by decide)
instance : Ent Go.Proofs.Try.prog 61 := ent_of Go.Proofs.Try.func61 rfl (by decide)
instance : Ent Go.Proofs.Try.prog 62 := ent_of Go.Proofs.Try.func62 rfl (by decide)
instance : Ent Go.Proofs.Try.prog 63 := ent_of Go.Proofs.Try.func63 rfl (by decide)
instance : Ent Go.Proofs.Try.prog 64 := ent_of Go.Proofs.Try.func64 rfl (by decide)
instance : Ent Go.Proofs.Try.prog 65 := ent_of Go.Proofs.Try.func65 rfl (by decide)
instance : Ent Go.Proofs.Try.prog 66 := ent_of Go.Proofs.Try.func66 rfl (by decide)
instance : Ent Go.Proofs.Try.prog 67 := ent_of Go.Proofs.Try.func67 rfl (by decide)
instance : Ent Go.Proofs.Try.prog 68 := ent_of Go.Proofs.Try.func68 rfl (by decide)
instance : Ent Go.Proofs.Try.prog 69 := ent_of Go.Proofs.Try.func69 rfl (by decide)
instance : Ent Go.Proofs.Try.prog 70 := ent_of Go.Proofs.Try.func70 rfl (by decide)
instance : Ent Go.Proofs.Try.prog 71 := ent_of Go.Proofs.Try.func71 rfl (by decide)
instance : Ent Go.Proofs.Try.prog 72 := ent_of Go.Proofs.Try.func72 rfl (by decide)
instance : Ent Go.Proofs.Try.prog 73 := ent_of Go.Proofs.Try.func73 rfl (by decide)
instance : Ent Go.Proofs.Try.prog 74 := ent_of Go.Proofs.Try.func74 rfl (by decide)
instance : Ent Go.Proofs.Try.prog 75 := ent_of Go.Proofs.Try.func75 rfl (by decide)
instance : Ent Go.Proofs.Try.prog 76 := ent_of Go.Proofs.Try.func76 rfl (by decide)
instance : Ent Go.Proofs.Try.prog 77 := ent_of Go.Proofs.Try.func77 rfl (by decide)
instance : Ent Go.Proofs.Try.prog 78 := ent_of Go.Proofs.Try.func78 rfl (by decide)
instance : Ent Go.Proofs.Try.prog 79 := ent_of Go.Proofs.Try.func79 rfl (by decide)
instance : Ent Go.Proofs.Try.prog 80 := ent_of Go.Proofs.Try.func80 rfl (by decide)
instance : Ent Go.Proofs.Try.prog 81 := ent_of Go.Proofs.Try.func81 rfl (by decide)
instance : Ent Go.Proofs.Try.prog 82 := ent_of Go.Proofs.Try.func82 rfl (by decide)
instance : Ent Go.Proofs.Try.prog 83 := ent_of Go.Proofs.Try.func83 rfl (by decide)
instance : Ent Go.Proofs.Try.prog 84 := ent_of Go.Proofs.Try.func84 rfl (by decide)
instance : Ent Go.Proofs.Try.prog 85 := ent_of Go.Proofs.Try.func85 rfl (by decide)
instance : Ent Go.Proofs.Try.prog 86 := ent_of Go.Proofs.Try.func86 rfl (by decide)
instance : Ent Go.Proofs.Try.prog 87 := ent_of Go.Proofs.Try.func87 rfl (by decide)
instance : Ent Go.Proofs.Try.prog 88 := ent_of Go.Proofs.Try.func88 rfl (by decide)
instance : Ent Go.Proofs.Try.prog 89 := ent_of Go.Proofs.Try.func89 rfl (by decide)
instance : Ent Go.Proofs.Try.prog 90 := ent_of Go.Proofs.Try.func90 rfl (by decide)
instance : Ent Go.Proofs.Try.prog 91 := ent_of Go.Proofs.Try.func91 rfl (by decide)
instance : Ent Go.Proofs.Try.prog 92 := ent_of Go.Proofs.Try.func92 rfl (by decide)
instance : Ent Go.Proofs.Try.prog 93 := ent_of Go.Proofs.Try.func93 rfl (by decide)
instance : Ent Go.Proofs.Try.prog 94 := ent_of Go.Proofs.Try.func94 rfl (by decide)
instance : Ent Go.Proofs.Try.prog 95 := ent_of Go.Proofs.Try.func95 rfl (by decide)
instance : Ent Go.Proofs.Try.prog 96 := ent_of Go.Proofs.Try.func96 rfl (by decide)
instance : Ent Go.Proofs.Try.prog 97 := ent_of Go.Proofs.Try.func97 rfl (by decide)
instance : Ent Go.Proofs.Try.prog 98 := ent_of Go.Proofs.Try.func98 rfl (by decide)
instance : Ent Go.Proofs.Try.prog 99 := ent_of Go.Proofs.Try.func99 rfl (by decide)
instance : Ent Go.Proofs.Try.prog 100 := ent_of Go.Proofs.Try.func100 rfl (by decide)
instance : Ent Go.Proofs.Try.prog 101 := ent_of Go.Proofs.Try.func101 rfl (by decide)
instance : Ent Go.Proofs.Try.prog 102 := ent_of Go.Proofs.Try.func102 rfl (by decide)
instance : Ent Go.Proofs.Try.prog 103 := ent_of Go.Proofs.Try.func103 rfl (by decide)
instance : Ent Go.Proofs.Try.prog 104 := ent_of Go.Proofs.Try.func104 rfl (by decide)
instance : Ent Go.Proofs.Try.prog 105 := ent_of Go.Proofs.Try.func105 rfl (by decide)
instance : Ent Go.Proofs.Try.prog 106 := ent_of Go.Proofs.Try.func106 rfl (by decide)
instance : Ent Go.Proofs.Try.prog 107 := ent_of Go.Proofs.Try.func107 rfl (by decide)
instance : Ent Go.Proofs.Try.prog 108 := ent_of Go.Proofs.Try.func108 rfl (by decide)
instance : Ent Go.Proofs.Try.prog 109 := ent_of Go.Proofs.Try.func109 rfl (by decide)
instance : Ent Go.Proofs.Try.prog 110 := ent_of Go.Proofs.Try.func110 rfl (by decide)
instance : Ent Go.Proofs.Try.prog 111 := ent_of Go.Proofs.Try.func111 rfl (by decide)
instance : Ent Go.Proofs.Try.prog 112 := ent_of Go.Proofs.Try.func112 rfl (by decide)
instance : Ent Go.Proofs.Try.prog 113 := ent_of Go.Proofs.Try.func113 rfl (by decide)
instance : Ent Go.Proofs.Try.prog 114 := ent_of Go.Proofs.Try.func114 rfl (by decide)
instance : Ent Go.Proofs.Try.prog 115 := ent_of Go.Proofs.Try.func115 rfl (by decide)
instance : Ent Go.Proofs.Try.prog 116 := ent_of Go.Proofs.Try.func116 rfl (by decide)
instance : Ent Go.Proofs.Try.prog 117 := ent_of Go.Proofs.Try.func117 rfl (by decide)
instance : Ent Go.Proofs.Try.prog 118 := ent_of Go.Proofs.Try.func118 rfl (by decide)
instance : Ent Go.Proofs.Try.prog 119 := ent_of Go.Proofs.Try.func119 rfl (by decide)
instance : Ent Go.Proofs.Try.prog 120 := ent_of Go.Proofs.Try.func120 rfl (by decide)
instance : Ent Go.Proofs.Try.prog 121 := ent_of Go.Proofs.Try.func121 rfl (by decide)
instance : Ent Go.Proofs.Try.prog 122 := ent_of Go.Proofs.Try.func122 rfl (by decide)
instance : Ent Go.Proofs.Try.prog 123 := ent_of Go.Proofs.Try.func123 rfl (by decide)
instance : Ent Go.Proofs.Try.prog 124 := ent_of Go.Proofs.Try.func124 rfl (by decide)
instance : Ent Go.Proofs.Try.prog 125 := ent_of Go.Proofs.Try.func125 rfl (by decide)
instance : Ent Go.Proofs.Try.prog 126 := ent_of Go.Proofs.Try.func126 rfl (by decide)
instance : Ent Go.Proofs.Try.prog 127 := ent_of Go.Proofs.Try.func127 rfl (by decide)
instance : Ent Go.Proofs.Try.prog 128 := ent_of Go.Proofs.Try.func128 rfl (by decide)
instance : Ent Go.Proofs.Try.prog 129 := ent_of Go.Proofs.Try.func129 rfl (by decide)
instance : Ent Go.Proofs.Try.prog 130 := ent_of Go.Proofs.Try.func130 rfl (by decide)
instance : Ent Go.Proofs.Try.prog 131 := ent_of Go.Proofs.Try.func131 rfl (by decide)
instance : Ent Go.Proofs.Try.prog 132 := ent_of Go.Proofs.Try.func132 rfl (by decide)
instance : Ent Go.Proofs.Try.prog 133 := ent_of Go.Proofs.Try.func133 rfl (by decide)
end Go.Proofs.Ytojcojanokhnaaa.Ab
