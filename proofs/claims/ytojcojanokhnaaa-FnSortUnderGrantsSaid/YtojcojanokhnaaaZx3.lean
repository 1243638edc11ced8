/- What the row FnSortUnderGrants leans on, part 4: a walk over abstract values, and contracts proved with it. -/
import Derived.WalkKit
import Derived.Laws.Rows
import Derived.RowKit
import Derived.OrdersHeld
import Derived.Deep.RegionHeld3
import Derived.Deep.Draws
import Derived.BigCall
import Derived.KernelRfl
import Derived.Deep.Slices
import Derived.ChangeArms
import Derived.ChangeShapes
import Derived.WideShapes
import Derived.Laws.StructEq
import Derived.Lib.Overlaps
import Derived.Test.YtojcojanokhnaaaProg
import Derived.Test.YtojcojanokhnaaaZx2
set_option linter.unusedVariables false
set_option linter.unusedSimpArgs false
set_option maxRecDepth 20000
set_option maxHeartbeats 8000000
namespace Go.Proofs.Ytojcojanokhnaaa.Ab
open Go.RowKit
theorem bF (xs : List Rw) (hl : xs.length ≤ 1000000000) : zz Go.Proofs.Try.prog 61 [rwL xs] [] (I (mQ xs)) [] false := by
  refine zw [2] Go.Proofs.Try.func61 rfl rfl ?_
  simp only [Go.Proofs.Try.ntmps61, List.length_cons, List.length_nil, Nat.reduceAdd, Nat.reduceSub, List.replicate_succ, List.replicate_zero, List.cons_append, List.nil_append]
  repeat' first | refine zK ?_ | refine zA ?_ | refine zP [] ?_ | (refine isA ?_; refine zd rfl ?_) | (refine isL ?_; refine zU rfl (by kernel_rfl) rfl rfl ?_) | (refine zb rfl ?_; refine zT rfl (by kernel_rfl) rfl rfl ?_) | refine zD ?_ | refine zB _ rfl (by kernel_rfl) ?_ | refine zV rfl ?_ | refine zW rfl ?_ | refine zC ?_ | with_reducible refine zN ?_ | refine zH ?_ | refine zI ?_ | (with_reducible first | refine zL ?_ | refine zM ?_ | refine zE ?_ | refine zG ?_ | refine zF ?_) | refine zO ?_
  refine z9 (α := { i : Nat // i ≤ xs.length }) (fun i => ⟨[rwL xs, .any, .any, I (u5 xs i.1), .any, .any, rwL xs, I xs.length, I i.1, .any, .any, .any, .any, .any, .any, .any, .any, .any, .any, .any, .any, .any, .any, .any, .any, .any, .any], [], 0⟩) (fun i => xs.length - i.1) ⟨0, Nat.zero_le _⟩ ?_ ?_
  · exact ye [] rfl rfl (by decide) .nil (by repeat' first | exact zj | refine zZ ?_ ?_ | exact zp | exact le_refl rfl | exact zk rfl rfl | exact zx rfl)
  · rintro ⟨i, hi⟩
    repeat' first | refine zK ?_ | refine zA ?_ | refine zP [] ?_ | (refine isA ?_; refine zd rfl ?_) | (refine isL ?_; refine zU rfl (by kernel_rfl) rfl rfl ?_) | (refine zb rfl ?_; refine zT rfl (by kernel_rfl) rfl rfl ?_) | refine zD ?_ | refine zB _ rfl (by kernel_rfl) ?_ | refine zV rfl ?_ | refine zW rfl ?_ | refine zC ?_ | with_reducible refine zN ?_ | refine zH ?_ | refine zI ?_ | (with_reducible first | refine zL ?_ | refine zM ?_ | refine zE ?_ | refine zG ?_ | refine zF ?_) | refine zO ?_
    refine zh rfl (fun h => ?_) (fun h => ?_)
    · have hlt : i < xs.length := by simpa using h
      obtain ⟨x, hx⟩ : ∃ z, xs[i]? = some z := ⟨_, List.getElem?_eq_getElem hlt⟩
      rcases Nat.eq_zero_or_pos i with rfl | hpos
      · have e1 : u5 xs (0 + 1) = ((0 : Nat) : Int) := rfl
        repeat' first | refine zK ?_ | refine zA ?_ | refine zP [] ?_ | (refine isA ?_; refine zd rfl ?_) | (refine isL ?_; refine zU rfl (by kernel_rfl) rfl rfl ?_) | (refine zb rfl ?_; refine zT rfl (by kernel_rfl) rfl rfl ?_) | (refine yB (x := .tmp 6) ?_; refine zc rfl (z6 (t := rwT) (z := x) rfl rfl rfl rfl (Int.natCast_nonneg _) hx) rfl ?_) | (refine yA (x := .tmp 6) rfl ?_; refine zY rfl (by kernel_rfl) rfl (z6 (t := rwT) (z := x) rfl rfl rfl rfl (Int.natCast_nonneg _) hx) rfl ?_) | refine zD ?_ | refine zB _ rfl (by kernel_rfl) ?_ | refine zV rfl ?_ | refine zW rfl ?_ | refine zC ?_ | with_reducible refine zN ?_ | refine zH ?_ | refine zI ?_ | (with_reducible first | refine zL ?_ | refine zM ?_ | refine zE ?_ | refine zG ?_ | refine zF ?_) | refine zO ?_
        refine ⟨⟨0 + 1, hlt⟩, by simp only; omega, ?_⟩
        exact ye [] rfl rfl (by decide) .nil (by
          repeat' first | exact zj | refine zZ ?_ ?_ | exact zp | exact le_refl rfl | exact yC (congrArg _ e1) | exact xZ (by assumption) (by omega))
      · obtain ⟨k, y, m1, m2, m3, m4⟩ := sQ (xs := xs) (n := i) (by omega) hpos
        have e1 : u5 xs (i + 1) = cond (decide (yu x y < 0)) (i : Int) (k : Int) := by
          rw [u5, m1, decide_eq_false (show ¬ ((k : Nat) : Int) < 0 from by have := Int.natCast_nonneg k; omega), cond_false, Int.toNat_natCast, hx, m3]
        refine tA (T := ⟨[rwL xs, .any, .any, I ((k : Nat) : Int), .any, .any, rwL xs, I xs.length, I ((i : Nat) : Int), .any, .any, .any, .any, .any, .any, .any, .any, .any, .any, .any, .any, .any, .any, .any, .any, .any, .any], [], 0⟩) (ye [] rfl rfl (by decide) .nil (by
          repeat' first | exact zj | refine zZ ?_ ?_ | exact zp | exact le_refl rfl | exact yC (congrArg _ m1.symm))) ?_
        repeat' first | refine zK ?_ | refine zA ?_ | refine zP [] ?_ | (refine isA ?_; refine zd rfl ?_) | (refine isL ?_; refine zU rfl (by kernel_rfl) rfl rfl ?_) | (refine zb rfl ?_; refine zT rfl (by kernel_rfl) rfl rfl ?_) | (refine yB (x := .tmp 6) ?_; refine zc rfl (z6 (t := rwT) (z := x) rfl rfl rfl rfl (Int.natCast_nonneg _) hx) rfl ?_) | (refine yA (x := .tmp 6) rfl ?_; refine zY rfl (by kernel_rfl) rfl (z6 (t := rwT) (z := x) rfl rfl rfl rfl (Int.natCast_nonneg _) hx) rfl ?_) | refine zD ?_ | refine zB _ rfl (by kernel_rfl) ?_ | refine zV rfl ?_ | refine zW rfl ?_ | refine zC ?_ | with_reducible refine zN ?_ | refine zH ?_ | refine zI ?_ | (with_reducible first | refine zL ?_ | refine zM ?_ | refine zE ?_ | refine zG ?_ | refine zF ?_) | refine zO ?_
        refine yK rfl rfl rfl rfl (fun p => absurd (of_decide_eq_true p) (by omega)) (fun p => ?_)
        repeat' first | refine zK ?_ | refine zA ?_ | refine zP [] ?_ | (refine isA ?_; refine zd rfl ?_) | (refine isL ?_; refine zU rfl (by kernel_rfl) rfl rfl ?_) | (refine zb rfl ?_; refine zT rfl (by kernel_rfl) rfl rfl ?_) | (refine yB (x := .tmp 17) ?_; refine zc rfl (z6 (t := rwT) (z := y) rfl rfl rfl rfl (Int.natCast_nonneg _) m3) rfl ?_) | (refine yA (x := .tmp 17) rfl ?_; refine zY rfl (by kernel_rfl) rfl (z6 (t := rwT) (z := y) rfl rfl rfl rfl (Int.natCast_nonneg _) m3) rfl ?_) | (refine zu 64 ?_; refine zc rfl (zQ rfl (xP x y) (.cons (.same rfl) (.cons (.same rfl) .nil)) rfl) rfl ?_) | (refine zv 64 rfl ?_; refine zY rfl (by kernel_rfl) rfl (zQ rfl (xP x y) (.cons (.same rfl) (.cons (.same rfl) .nil)) rfl) rfl ?_) | refine zD ?_ | refine zB _ rfl (by kernel_rfl) ?_ | refine zV rfl ?_ | refine zW rfl ?_ | refine zC ?_ | with_reducible refine zN ?_ | refine zH ?_ | refine zI ?_ | (with_reducible first | refine zL ?_ | refine zM ?_ | refine zE ?_ | refine zG ?_ | refine zF ?_) | refine zO ?_
        refine zh rfl (fun p => ?_) (fun p => ?_)
        · rw [p, cond_true] at e1
          repeat' first | refine zK ?_ | refine zA ?_ | refine zP [] ?_ | (refine isA ?_; refine zd rfl ?_) | (refine isL ?_; refine zU rfl (by kernel_rfl) rfl rfl ?_) | (refine zb rfl ?_; refine zT rfl (by kernel_rfl) rfl rfl ?_) | refine zD ?_ | refine zB _ rfl (by kernel_rfl) ?_ | refine zV rfl ?_ | refine zW rfl ?_ | refine zC ?_ | with_reducible refine zN ?_ | refine zH ?_ | refine zI ?_ | (with_reducible first | refine zL ?_ | refine zM ?_ | refine zE ?_ | refine zG ?_ | refine zF ?_) | refine zO ?_
          refine ⟨⟨i + 1, hlt⟩, by simp only; omega, ?_⟩
          exact ye [] rfl rfl (by decide) .nil (by
            repeat' first | exact zj | refine zZ ?_ ?_ | exact zp | exact le_refl rfl | exact yC (congrArg _ e1) | exact xZ (by assumption) (by omega))
        · rw [p, cond_false] at e1
          repeat' first | refine zK ?_ | refine zA ?_ | refine zP [] ?_ | (refine isA ?_; refine zd rfl ?_) | (refine isL ?_; refine zU rfl (by kernel_rfl) rfl rfl ?_) | (refine zb rfl ?_; refine zT rfl (by kernel_rfl) rfl rfl ?_) | refine zD ?_ | refine zB _ rfl (by kernel_rfl) ?_ | refine zV rfl ?_ | refine zW rfl ?_ | refine zC ?_ | with_reducible refine zN ?_ | refine zH ?_ | refine zI ?_ | (with_reducible first | refine zL ?_ | refine zM ?_ | refine zE ?_ | refine zG ?_ | refine zF ?_) | refine zO ?_
          refine ⟨⟨i + 1, hlt⟩, by simp only; omega, ?_⟩
          exact ye [] rfl rfl (by decide) .nil (by
            repeat' first | exact zj | refine zZ ?_ ?_ | exact zp | exact le_refl rfl | exact yC (congrArg _ e1) | exact xZ (by assumption) (by omega))
    · have hge : i = xs.length := by
        have : ¬ ((i : Int) < xs.length) := by simpa using h
        omega
      subst hge
      repeat' first | refine zK ?_ | refine zA ?_ | refine zP [] ?_ | (refine isA ?_; refine zd rfl ?_) | (refine isL ?_; refine zU rfl (by kernel_rfl) rfl rfl ?_) | (refine zb rfl ?_; refine zT rfl (by kernel_rfl) rfl rfl ?_) | exact yG rfl rfl rfl | refine zD ?_ | refine zB _ rfl (by kernel_rfl) ?_ | refine zV rfl ?_ | refine zW rfl ?_ | refine zC ?_ | with_reducible refine zN ?_ | refine zH ?_ | refine zI ?_ | (with_reducible first | refine zL ?_ | refine zM ?_ | refine zE ?_ | refine zG ?_ | refine zF ?_) | refine zO ?_
theorem ct (xs : List Rw) (hl : xs.length ≤ 1000000000) : zz Go.Proofs.Try.prog 119 [rwL xs] [] (I (mQ xs)) [] false := by
  refine zw [2] Go.Proofs.Try.func119 rfl rfl ?_
  simp only [Go.Proofs.Try.ntmps119, List.length_cons, List.length_nil, Nat.reduceAdd, Nat.reduceSub, List.replicate_succ, List.replicate_zero, List.cons_append, List.nil_append]
  repeat' first | refine zK ?_ | refine zA ?_ | refine zP [] ?_ | (refine isA ?_; refine zd rfl ?_) | (refine isL ?_; refine zU rfl (by kernel_rfl) rfl rfl ?_) | (refine zb rfl ?_; refine zT rfl (by kernel_rfl) rfl rfl ?_) | refine zD ?_ | refine zB _ rfl (by kernel_rfl) ?_ | refine zV rfl ?_ | refine zW rfl ?_ | refine zC ?_ | with_reducible refine zN ?_ | refine zH ?_ | refine zI ?_ | (with_reducible first | refine zL ?_ | refine zM ?_ | refine zE ?_ | refine zG ?_ | refine zF ?_) | refine zO ?_
  refine z9 (α := { i : Nat // i ≤ xs.length }) (fun i => ⟨[rwL xs, .any, .any, I (u5 xs i.1), I i.1, .any, .any, .any, .any, .any, .any, .any, .any, .any, .any, .any, .any, .any, .any, .any, .any, .any, .any, .any, .any, .any, .any], [], 0⟩) (fun i => xs.length - i.1) ⟨0, Nat.zero_le _⟩ ?_ ?_
  · exact ye [] rfl rfl (by decide) .nil (by repeat' first | exact zj | refine zZ ?_ ?_ | exact zp | exact le_refl rfl | exact zk rfl rfl | exact zx rfl)
  · rintro ⟨i, hi⟩
    repeat' first | refine zK ?_ | refine zA ?_ | refine zP [] ?_ | (refine isA ?_; refine zd rfl ?_) | (refine isL ?_; refine zU rfl (by kernel_rfl) rfl rfl ?_) | (refine zb rfl ?_; refine zT rfl (by kernel_rfl) rfl rfl ?_) | refine zD ?_ | refine zB _ rfl (by kernel_rfl) ?_ | refine zV rfl ?_ | refine zW rfl ?_ | refine zC ?_ | with_reducible refine zN ?_ | refine zH ?_ | refine zI ?_ | (with_reducible first | refine zL ?_ | refine zM ?_ | refine zE ?_ | refine zG ?_ | refine zF ?_) | refine zO ?_
    refine zh rfl (fun h => ?_) (fun h => ?_)
    · have hlt : i < xs.length := by simpa using h
      obtain ⟨x, hx⟩ : ∃ z, xs[i]? = some z := ⟨_, List.getElem?_eq_getElem hlt⟩
      rcases Nat.eq_zero_or_pos i with rfl | hpos
      · have e1 : u5 xs (0 + 1) = ((0 : Nat) : Int) := rfl
        repeat' first | refine zK ?_ | refine zA ?_ | refine zP [] ?_ | (refine isA ?_; refine zd rfl ?_) | (refine isL ?_; refine zU rfl (by kernel_rfl) rfl rfl ?_) | (refine zb rfl ?_; refine zT rfl (by kernel_rfl) rfl rfl ?_) | refine zD ?_ | refine zB _ rfl (by kernel_rfl) ?_ | refine zV rfl ?_ | refine zW rfl ?_ | refine zC ?_ | with_reducible refine zN ?_ | refine zH ?_ | refine zI ?_ | (with_reducible first | refine zL ?_ | refine zM ?_ | refine zE ?_ | refine zG ?_ | refine zF ?_) | refine zO ?_
        refine ⟨⟨0 + 1, hlt⟩, by simp only; omega, ?_⟩
        exact ye [] rfl rfl (by decide) .nil (by
          repeat' first | exact zj | refine zZ ?_ ?_ | exact zp | exact le_refl rfl | exact yC (congrArg _ e1) | exact xZ (by assumption) (by omega))
      · obtain ⟨k, y, m1, m2, m3, m4⟩ := sQ (xs := xs) (n := i) (by omega) hpos
        have e1 : u5 xs (i + 1) = cond (decide (yu x y < 0)) (i : Int) (k : Int) := by
          rw [u5, m1, decide_eq_false (show ¬ ((k : Nat) : Int) < 0 from by have := Int.natCast_nonneg k; omega), cond_false, Int.toNat_natCast, hx, m3]
        refine tA (T := ⟨[rwL xs, .any, .any, I ((k : Nat) : Int), I ((i : Nat) : Int), .any, .any, .any, .any, .any, .any, .any, .any, .any, .any, .any, .any, .any, .any, .any, .any, .any, .any, .any, .any, .any, .any], [], 0⟩) (ye [] rfl rfl (by decide) .nil (by
          repeat' first | exact zj | refine zZ ?_ ?_ | exact zp | exact le_refl rfl | exact yC (congrArg _ m1.symm))) ?_
        repeat' first | refine zK ?_ | refine zA ?_ | refine zP [] ?_ | (refine isA ?_; refine zd rfl ?_) | (refine isL ?_; refine zU rfl (by kernel_rfl) rfl rfl ?_) | (refine zb rfl ?_; refine zT rfl (by kernel_rfl) rfl rfl ?_) | refine zD ?_ | refine zB _ rfl (by kernel_rfl) ?_ | refine zV rfl ?_ | refine zW rfl ?_ | refine zC ?_ | with_reducible refine zN ?_ | refine zH ?_ | refine zI ?_ | (with_reducible first | refine zL ?_ | refine zM ?_ | refine zE ?_ | refine zG ?_ | refine zF ?_) | refine zO ?_
        refine yK rfl rfl rfl rfl (fun p => absurd (of_decide_eq_true p) (by omega)) (fun p => ?_)
        repeat' first | refine zK ?_ | refine zA ?_ | refine zP [] ?_ | (refine isA ?_; refine zd rfl ?_) | (refine isL ?_; refine zU rfl (by kernel_rfl) rfl rfl ?_) | (refine zb rfl ?_; refine zT rfl (by kernel_rfl) rfl rfl ?_) | (refine yB (x := .tmp 14) ?_; refine zc rfl (z6 (t := rwT) (z := x) rfl rfl rfl rfl (Int.natCast_nonneg _) hx) rfl ?_) | (refine yA (x := .tmp 14) rfl ?_; refine zY rfl (by kernel_rfl) rfl (z6 (t := rwT) (z := x) rfl rfl rfl rfl (Int.natCast_nonneg _) hx) rfl ?_) | (refine yB (x := .tmp 18) ?_; refine zc rfl (z6 (t := rwT) (z := y) rfl rfl rfl rfl (Int.natCast_nonneg _) m3) rfl ?_) | (refine yA (x := .tmp 18) rfl ?_; refine zY rfl (by kernel_rfl) rfl (z6 (t := rwT) (z := y) rfl rfl rfl rfl (Int.natCast_nonneg _) m3) rfl ?_) | (refine zu 68 ?_; refine zc rfl (zQ rfl (xz x y) (.cons (.same rfl) (.cons (.same rfl) .nil)) rfl) rfl ?_) | (refine zv 68 rfl ?_; refine zY rfl (by kernel_rfl) rfl (zQ rfl (xz x y) (.cons (.same rfl) (.cons (.same rfl) .nil)) rfl) rfl ?_) | refine zD ?_ | refine zB _ rfl (by kernel_rfl) ?_ | refine zV rfl ?_ | refine zW rfl ?_ | refine zC ?_ | with_reducible refine zN ?_ | refine zH ?_ | refine zI ?_ | (with_reducible first | refine zL ?_ | refine zM ?_ | refine zE ?_ | refine zG ?_ | refine zF ?_) | refine zO ?_
        refine zh rfl (fun p => ?_) (fun p => ?_)
        · rw [p, cond_true] at e1
          repeat' first | refine zK ?_ | refine zA ?_ | refine zP [] ?_ | (refine isA ?_; refine zd rfl ?_) | (refine isL ?_; refine zU rfl (by kernel_rfl) rfl rfl ?_) | (refine zb rfl ?_; refine zT rfl (by kernel_rfl) rfl rfl ?_) | refine zD ?_ | refine zB _ rfl (by kernel_rfl) ?_ | refine zV rfl ?_ | refine zW rfl ?_ | refine zC ?_ | with_reducible refine zN ?_ | refine zH ?_ | refine zI ?_ | (with_reducible first | refine zL ?_ | refine zM ?_ | refine zE ?_ | refine zG ?_ | refine zF ?_) | refine zO ?_
          refine ⟨⟨i + 1, hlt⟩, by simp only; omega, ?_⟩
          exact ye [] rfl rfl (by decide) .nil (by
            repeat' first | exact zj | refine zZ ?_ ?_ | exact zp | exact le_refl rfl | exact yC (congrArg _ e1) | exact xZ (by assumption) (by omega))
        · rw [p, cond_false] at e1
          repeat' first | refine zK ?_ | refine zA ?_ | refine zP [] ?_ | (refine isA ?_; refine zd rfl ?_) | (refine isL ?_; refine zU rfl (by kernel_rfl) rfl rfl ?_) | (refine zb rfl ?_; refine zT rfl (by kernel_rfl) rfl rfl ?_) | refine zD ?_ | refine zB _ rfl (by kernel_rfl) ?_ | refine zV rfl ?_ | refine zW rfl ?_ | refine zC ?_ | with_reducible refine zN ?_ | refine zH ?_ | refine zI ?_ | (with_reducible first | refine zL ?_ | refine zM ?_ | refine zE ?_ | refine zG ?_ | refine zF ?_) | refine zO ?_
          refine ⟨⟨i + 1, hlt⟩, by simp only; omega, ?_⟩
          exact ye [] rfl rfl (by decide) .nil (by
            repeat' first | exact zj | refine zZ ?_ ?_ | exact zp | exact le_refl rfl | exact yC (congrArg _ e1) | exact xZ (by assumption) (by omega))
    · have hge : i = xs.length := by
        have : ¬ ((i : Int) < xs.length) := by simpa using h
        omega
      subst hge
      repeat' first | refine zK ?_ | refine zA ?_ | refine zP [] ?_ | (refine isA ?_; refine zd rfl ?_) | (refine isL ?_; refine zU rfl (by kernel_rfl) rfl rfl ?_) | (refine zb rfl ?_; refine zT rfl (by kernel_rfl) rfl rfl ?_) | exact yG rfl rfl rfl | refine zD ?_ | refine zB _ rfl (by kernel_rfl) ?_ | refine zV rfl ?_ | refine zW rfl ?_ | refine zC ?_ | with_reducible refine zN ?_ | refine zH ?_ | refine zI ?_ | (with_reducible first | refine zL ?_ | refine zM ?_ | refine zE ?_ | refine zG ?_ | refine zF ?_) | refine zO ?_
theorem ld (xs : List Rw) (k : Nat) (hk : k < xs.length) (hl : xs.length ≤ 100000000) : zz Go.Proofs.Try.prog 62 [rwL xs, I k] [] (.sl 0 0 (xs.take k ++ xs.drop (k + 1)).length) [rwR (xs.take k ++ xs.drop (k + 1))] false := by
  have ew : IntKind.i64.wrap ((k : Int) + 1) = ((k + 1 : Nat) : Int) := by rw [IntKind.wrap_i64]; omega
  refine zw [4] Go.Proofs.Try.func62 rfl rfl ?_
  simp only [Go.Proofs.Try.ntmps62, List.length_cons, List.length_nil, Nat.reduceAdd, Nat.reduceSub, List.replicate_succ, List.replicate_zero, List.cons_append, List.nil_append]
  repeat' first | refine zK ?_ | refine zA ?_ | refine zP [] ?_ | (refine isA ?_; refine zd rfl ?_) | (refine isL ?_; refine zU rfl (by kernel_rfl) rfl rfl ?_) | (refine zb rfl ?_; refine zT rfl (by kernel_rfl) rfl rfl ?_) | (refine uN (x := .tmp 6) ?_; refine zc rfl (yj rfl rfl rfl (by omega)) rfl ?_) | (refine uM (x := .tmp 6) rfl ?_; refine zY rfl (by kernel_rfl) rfl (yj rfl rfl rfl (by omega)) rfl ?_) | (refine uN (x := .tmp 11) ?_; refine zc rfl (xl (k := k + 1) rfl rfl rfl ew (by omega)) rfl ?_) | (refine uM (x := .tmp 11) rfl ?_; refine zY rfl (by kernel_rfl) rfl (xl (k := k + 1) rfl rfl rfl ew (by omega)) rfl ?_) | (refine zu 114 ?_; refine zc rfl (yX rfl (wE (xs.take k) (by simp; omega)) (.cons (.same rfl) .nil) (fun q hq => by simp at hq; subst hq; exact zJ _ _) rfl rfl) rfl ?_) | (refine zv 114 rfl ?_; refine zY rfl (by kernel_rfl) rfl (yX rfl (wE (xs.take k) (by simp; omega)) (.cons (.same rfl) .nil) (fun q hq => by simp at hq; subst hq; exact zJ _ _) rfl rfl) rfl ?_) | (refine xR ?_; refine zc rfl (yV (t := rwT) (xs := xs.take k) (ys := xs.drop (k + 1)) rfl rfl rfl rfl (.lst _ _) (by simp; omega) rfl) rfl ?_) | (refine xC rfl ?_; refine zY rfl (by kernel_rfl) rfl (yV (t := rwT) (xs := xs.take k) (ys := xs.drop (k + 1)) rfl rfl rfl rfl (.lst _ _) (by simp; omega) rfl) rfl ?_) | exact hM [1] rfl (wX (by decide) (.cons rfl rfl rfl rfl (zX (zJ _ _)) .nil)) (zk rfl rfl) (Or.inr ⟨rfl, fun q hq => by simp at hq; subst hq; exact ⟨Nat.zero_ne_one, fun _ => (xt _).flatS⟩⟩) | refine zD ?_ | refine zB _ rfl (by kernel_rfl) ?_ | refine zV rfl ?_ | refine zW rfl ?_ | refine zC ?_ | with_reducible refine zN ?_ | refine zH ?_ | refine zI ?_ | (with_reducible first | refine zL ?_ | refine zM ?_ | refine zE ?_ | refine zG ?_ | refine zF ?_) | refine zO ?_
theorem fj (xs : List Rw) (k : Nat) (hk : k < xs.length) (hl : xs.length ≤ 100000000) : zz Go.Proofs.Try.prog 120 [rwL xs, I k] [] (.sl 0 0 (xs.take k ++ xs.drop (k + 1)).length) [rwR (xs.take k ++ xs.drop (k + 1))] false := by
  have ew : IntKind.i64.wrap ((k : Int) + 1) = ((k + 1 : Nat) : Int) := by rw [IntKind.wrap_i64]; omega
  refine zw [4] Go.Proofs.Try.func120 rfl rfl ?_
  simp only [Go.Proofs.Try.ntmps120, List.length_cons, List.length_nil, Nat.reduceAdd, Nat.reduceSub, List.replicate_succ, List.replicate_zero, List.cons_append, List.nil_append]
  repeat' first | refine zK ?_ | refine zA ?_ | (refine isA ?_; refine zd rfl ?_) | (refine isL ?_; refine zU rfl (by kernel_rfl) rfl rfl ?_) | (refine zb rfl ?_; refine zT rfl (by kernel_rfl) rfl rfl ?_) | refine zD ?_ | refine zB _ rfl (by kernel_rfl) ?_ | refine zV rfl ?_ | refine zW rfl ?_ | refine zC ?_ | with_reducible refine zN ?_ | refine zH ?_ | refine zI ?_ | (with_reducible first | refine zL ?_ | refine zM ?_ | refine zE ?_ | refine zG ?_ | refine zF ?_) | refine zO ?_
  refine ta (fun _ => True) 11 rfl ?_
  refine yZ 1 trivial rfl (by kernel_rfl) rfl (fun _ => rfl) rfl ?_
  refine yZ 2 trivial rfl (by kernel_rfl) rfl (fun _ => rfl) rfl ?_
  refine xE 3 trivial rfl (by kernel_rfl) rfl (fun _ _ => yj rfl rfl rfl (by omega)) rfl ?_
  refine yZ 5 trivial rfl (by kernel_rfl) rfl (fun _ => rfl) rfl ?_
  refine yZ 6 trivial rfl (by kernel_rfl) rfl (fun _ => rfl) rfl ?_
  refine yZ 7 trivial rfl (by kernel_rfl) rfl (fun _ => rfl) rfl ?_
  refine xE 8 trivial rfl (by kernel_rfl) rfl (fun _ _ => xl (k := k + 1) rfl rfl rfl ew (by omega)) rfl ?_
  refine we 0 (by kernel_rfl) ?_
  refine fv rfl rfl rfl trivial rfl ?_
  refine we 4 (by kernel_rfl) ?_
  refine qN rfl rfl (yV (t := rwT) (xs := []) (ys := xs.take k) rfl rfl rfl rfl (.lst _ _) (by simp; omega) rfl) trivial rfl ?_
  refine we 9 (by kernel_rfl) ?_
  refine qN rfl rfl (yV (t := rwT) (xs := [] ++ xs.take k) (ys := xs.drop (k + 1)) rfl rfl rfl rfl (.lst _ _) (by simp; omega) rfl) trivial rfl ?_
  refine yZ 10 trivial rfl (by kernel_rfl) rfl (fun _ => rfl) rfl ?_
  refine vI (by kernel_rfl) ?_
  repeat' first | refine zK ?_ | refine zA ?_ | refine zP [] ?_ | (refine isA ?_; refine zd rfl ?_) | (refine isL ?_; refine zU rfl (by kernel_rfl) rfl rfl ?_) | (refine zb rfl ?_; refine zT rfl (by kernel_rfl) rfl rfl ?_) | exact hM [2] rfl (wX (by decide) (.cons rfl rfl rfl rfl (zX (zJ _ _)) .nil)) (zk rfl rfl) (Or.inr ⟨rfl, fun q hq => by simp at hq; subst hq; exact ⟨Nat.zero_ne_one, fun _ => (xt _).flatS⟩⟩) | refine zD ?_ | refine zB _ rfl (by kernel_rfl) ?_ | refine zV rfl ?_ | refine zW rfl ?_ | refine zC ?_ | with_reducible refine zN ?_ | refine zH ?_ | refine zI ?_ | (with_reducible first | refine zL ?_ | refine zM ?_ | refine zE ?_ | refine zG ?_ | refine zF ?_) | refine zO ?_
end Go.Proofs.Ytojcojanokhnaaa.Ab
namespace Go.Proofs.Ytojcojanokhnaaa.Ab
open Go.RowKit
theorem vj (rs : List Rn) : rs.flatten.length = tot rs := by rw [List.length_flatten]; rfl
theorem vJ {rs : List Rn} {i : Nat} {z : Rn} (hz : rs[i]? = some z) : (rs.take (i + 1)).flatten = (rs.take i).flatten ++ z := by
  rw [yw hz]; simp
theorem lh (rs : List Rn) (hok : sK rs) (ht : tot rs ≤ 100000000) : zz Go.Proofs.Try.prog 85 [rnL rs] [] (.sl 0 0 rs.flatten.length) [rwR rs.flatten] false := by
  have hl := hok.1
  refine zw [2] Go.Proofs.Try.func85 rfl rfl ?_
  simp only [Go.Proofs.Try.ntmps85, List.length_cons, List.length_nil, Nat.reduceAdd, Nat.reduceSub, List.replicate_succ, List.replicate_zero, List.cons_append, List.nil_append]
  repeat' first | refine zK ?_ | refine zA ?_ | refine zP [] ?_ | (refine isA ?_; refine zd rfl ?_) | (refine isL ?_; refine zU rfl (by kernel_rfl) rfl rfl ?_) | (refine zb rfl ?_; refine zT rfl (by kernel_rfl) rfl rfl ?_) | refine zD ?_ | refine zB _ rfl (by kernel_rfl) ?_ | refine zV rfl ?_ | refine zW rfl ?_ | refine zC ?_ | with_reducible refine zN ?_ | refine zH ?_ | refine zI ?_ | (with_reducible first | refine zL ?_ | refine zM ?_ | refine zE ?_ | refine zG ?_ | refine zF ?_) | refine zO ?_
  refine z9 (α := { i : Nat // i ≤ rs.length }) (fun i => ⟨[rnL rs, .any, .any, .sl 0 0 (rs.take i.1).flatten.length, I i.1, .any, .any, .any, .any, .any, .any, .any, .any, .any, .any, .any, .any, .any, .any, .any], [rwR (rs.take i.1).flatten], 0⟩) (fun i => rs.length - i.1) ⟨0, Nat.zero_le _⟩ ?_ ?_
  · exact yp rfl (by repeat' first | exact EqS.nil | refine EqS.any ?_ | refine EqS.same rfl ?_)
  · rintro ⟨i, hi⟩
    repeat' first | refine zK ?_ | refine zA ?_ | refine zP [] ?_ | (refine isA ?_; refine zd rfl ?_) | (refine isL ?_; refine zU rfl (by kernel_rfl) rfl rfl ?_) | (refine zb rfl ?_; refine zT rfl (by kernel_rfl) rfl rfl ?_) | refine zD ?_ | refine zB _ rfl (by kernel_rfl) ?_ | refine zV rfl ?_ | refine zW rfl ?_ | refine zC ?_ | with_reducible refine zN ?_ | refine zH ?_ | refine zI ?_ | (with_reducible first | refine zL ?_ | refine zM ?_ | refine zE ?_ | refine zG ?_ | refine zF ?_) | refine zO ?_
    refine zh rfl (fun h => ?_) (fun h => ?_)
    · have hlt : i < rs.length := by simpa using h
      obtain ⟨z, hz⟩ : ∃ z, rs[i]? = some z := ⟨_, List.getElem?_eq_getElem hlt⟩
      have h1 := n9 rs (i + 1)
      rw [sf hz] at h1
      have h2 := vj (rs.take i)
      repeat' first | refine zK ?_ | refine zA ?_ | refine zP [] ?_ | (refine isA ?_; refine zd rfl ?_) | (refine isL ?_; refine zU rfl (by kernel_rfl) rfl rfl ?_) | (refine zb rfl ?_; refine zT rfl (by kernel_rfl) rfl rfl ?_) | (refine yB ?_; refine zc rfl (z6 (t := rnT) (z := z) rfl rfl rfl rfl (Int.natCast_nonneg i) hz) rfl ?_) | (refine yA rfl ?_; refine zY rfl (by kernel_rfl) rfl (z6 (t := rnT) (z := z) rfl rfl rfl rfl (Int.natCast_nonneg i) hz) rfl ?_) | (refine xR ?_; refine zc rfl (yV (t := rwT) (xs := (rs.take i).flatten) (ys := z) rfl rfl rfl rfl (.lst _ _) (by omega) rfl) rfl ?_) | (refine xC rfl ?_; refine zY rfl (by kernel_rfl) rfl (yV (t := rwT) (xs := (rs.take i).flatten) (ys := z) rfl rfl rfl rfl (.lst _ _) (by omega) rfl) rfl ?_) | refine zD ?_ | refine zB _ rfl (by kernel_rfl) ?_ | refine zV rfl ?_ | refine zW rfl ?_ | refine zC ?_ | with_reducible refine zN ?_ | refine zH ?_ | refine zI ?_ | (with_reducible first | refine zL ?_ | refine zM ?_ | refine zE ?_ | refine zG ?_ | refine zF ?_) | refine zO ?_
      refine ⟨⟨i + 1, hlt⟩, by simp only; omega, ?_⟩
      exact ye [1] rfl rfl (by decide) (.cons rfl rfl rfl rfl (ym (by rw [vJ hz]) (zJ _ _)) .nil) (by
        repeat' first | exact zj | refine zZ ?_ ?_ | exact zp | exact le_refl rfl | exact zk rfl rfl | exact zk rfl (by rw [vJ hz, List.length_append]) | exact xZ (by assumption) (by omega))
    · have hge : i = rs.length := by
        have : ¬ ((i : Int) < rs.length) := by simpa using h
        omega
      subst hge
      repeat' first | refine zK ?_ | refine zA ?_ | refine zP [] ?_ | (refine isA ?_; refine zd rfl ?_) | (refine isL ?_; refine zU rfl (by kernel_rfl) rfl rfl ?_) | (refine zb rfl ?_; refine zT rfl (by kernel_rfl) rfl rfl ?_) | exact kT (ty := rwT) rfl rfl rfl rfl (by simp) (by simp) (xt _) | refine zD ?_ | refine zB _ rfl (by kernel_rfl) ?_ | refine zV rfl ?_ | refine zW rfl ?_ | refine zC ?_ | with_reducible refine zN ?_ | refine zH ?_ | refine zI ?_ | (with_reducible first | refine zL ?_ | refine zM ?_ | refine zE ?_ | refine zG ?_ | refine zF ?_) | refine zO ?_
theorem dJ (rs : List Rn) (hok : sK rs) (ht : tot rs ≤ 100000000) : zz Go.Proofs.Try.prog 78 [rnL rs] [] (.sl 0 0 rs.flatten.length) [rwR rs.flatten] false := by
  have hl := hok.1
  refine zw [2] Go.Proofs.Try.func78 rfl rfl ?_
  simp only [Go.Proofs.Try.ntmps78, List.length_cons, List.length_nil, Nat.reduceAdd, Nat.reduceSub, List.replicate_succ, List.replicate_zero, List.cons_append, List.nil_append]
  repeat' first | refine zK ?_ | refine zA ?_ | refine zP [] ?_ | (refine isA ?_; refine zd rfl ?_) | (refine isL ?_; refine zU rfl (by kernel_rfl) rfl rfl ?_) | (refine zb rfl ?_; refine zT rfl (by kernel_rfl) rfl rfl ?_) | refine zD ?_ | refine zB _ rfl (by kernel_rfl) ?_ | refine zV rfl ?_ | refine zW rfl ?_ | refine zC ?_ | with_reducible refine zN ?_ | refine zH ?_ | refine zI ?_ | (with_reducible first | refine zL ?_ | refine zM ?_ | refine zE ?_ | refine zG ?_ | refine zF ?_) | refine zO ?_
  refine z9 (α := { i : Nat // i ≤ rs.length }) (fun i => ⟨[rnL rs, .any, .any, .sl 0 0 (rs.take i.1).flatten.length, .any, .any, .any, rnL rs, I rs.length, I i.1, .any, .any, .any, .any, .any, .any, .any, .any, .any], [rwR (rs.take i.1).flatten], 0⟩) (fun i => rs.length - i.1) ⟨0, Nat.zero_le _⟩ ?_ ?_
  · exact yp rfl (by repeat' first | exact EqS.nil | refine EqS.any ?_ | refine EqS.same rfl ?_)
  · rintro ⟨i, hi⟩
    repeat' first | refine zK ?_ | refine zA ?_ | refine zP [] ?_ | (refine isA ?_; refine zd rfl ?_) | (refine isL ?_; refine zU rfl (by kernel_rfl) rfl rfl ?_) | (refine zb rfl ?_; refine zT rfl (by kernel_rfl) rfl rfl ?_) | refine zD ?_ | refine zB _ rfl (by kernel_rfl) ?_ | refine zV rfl ?_ | refine zW rfl ?_ | refine zC ?_ | with_reducible refine zN ?_ | refine zH ?_ | refine zI ?_ | (with_reducible first | refine zL ?_ | refine zM ?_ | refine zE ?_ | refine zG ?_ | refine zF ?_) | refine zO ?_
    refine zh rfl (fun h => ?_) (fun h => ?_)
    · have hlt : i < rs.length := by simpa using h
      obtain ⟨z, hz⟩ : ∃ z, rs[i]? = some z := ⟨_, List.getElem?_eq_getElem hlt⟩
      have h1 := n9 rs (i + 1)
      rw [sf hz] at h1
      have h2 := vj (rs.take i)
      repeat' first | refine zK ?_ | refine zA ?_ | refine zP [] ?_ | (refine isA ?_; refine zd rfl ?_) | (refine isL ?_; refine zU rfl (by kernel_rfl) rfl rfl ?_) | (refine zb rfl ?_; refine zT rfl (by kernel_rfl) rfl rfl ?_) | (refine yB ?_; refine zc rfl (z6 (t := rnT) (z := z) rfl rfl rfl rfl (Int.natCast_nonneg i) hz) rfl ?_) | (refine yA rfl ?_; refine zY rfl (by kernel_rfl) rfl (z6 (t := rnT) (z := z) rfl rfl rfl rfl (Int.natCast_nonneg i) hz) rfl ?_) | (refine xR ?_; refine zc rfl (yV (t := rwT) (xs := (rs.take i).flatten) (ys := z) rfl rfl rfl rfl (.lst _ _) (by omega) rfl) rfl ?_) | (refine xC rfl ?_; refine zY rfl (by kernel_rfl) rfl (yV (t := rwT) (xs := (rs.take i).flatten) (ys := z) rfl rfl rfl rfl (.lst _ _) (by omega) rfl) rfl ?_) | refine zD ?_ | refine zB _ rfl (by kernel_rfl) ?_ | refine zV rfl ?_ | refine zW rfl ?_ | refine zC ?_ | with_reducible refine zN ?_ | refine zH ?_ | refine zI ?_ | (with_reducible first | refine zL ?_ | refine zM ?_ | refine zE ?_ | refine zG ?_ | refine zF ?_) | refine zO ?_
      refine ⟨⟨i + 1, hlt⟩, by simp only; omega, ?_⟩
      exact ye [2] rfl rfl (by decide) (.cons rfl rfl rfl rfl (ym (by rw [vJ hz]) (zJ _ _)) .nil) (by
        repeat' first | exact zj | refine zZ ?_ ?_ | exact zp | exact le_refl rfl | exact zk rfl rfl | exact zk rfl (by rw [vJ hz, List.length_append]) | exact xZ (by assumption) (by omega))
    · have hge : i = rs.length := by
        have : ¬ ((i : Int) < rs.length) := by simpa using h
        omega
      subst hge
      repeat' first | refine zK ?_ | refine zA ?_ | refine zP [] ?_ | (refine isA ?_; refine zd rfl ?_) | (refine isL ?_; refine zU rfl (by kernel_rfl) rfl rfl ?_) | (refine zb rfl ?_; refine zT rfl (by kernel_rfl) rfl rfl ?_) | exact kT (ty := rwT) rfl rfl rfl rfl (by simp) (by simp) (xt _) | refine zD ?_ | refine zB _ rfl (by kernel_rfl) ?_ | refine zV rfl ?_ | refine zW rfl ?_ | refine zC ?_ | with_reducible refine zN ?_ | refine zH ?_ | refine zI ?_ | (with_reducible first | refine zL ?_ | refine zM ?_ | refine zE ?_ | refine zG ?_ | refine zF ?_) | refine zO ?_
end Go.Proofs.Ytojcojanokhnaaa.Ab
namespace Go.Proofs.Ytojcojanokhnaaa.Ab
open Go.RowKit
theorem jb {rs : List Rn} {k : Nat} {p : Int} (h : p < 0) : rcV rs k p = 0 := by unfold rcV; rw [decide_eq_true h, cond_true]
theorem cS {rs : List Rn} {k : Nat} {p : Int} (h : rs.length ≤ k) : rcV rs k p = 0 := by
  unfold rcV
  rw [List.getD_eq_getElem?_getD, List.getElem?_eq_none h]
  cases decide (p < 0) <;> rfl
theorem cT {rs : List Rn} {k p : Nat} {z : Rn} (hz : rs[k]? = some z) (h : z.length ≤ p) : rcV rs k p = 0 := by
  unfold rcV
  rw [List.getD_eq_getElem?_getD, hz, Option.getD_some, Int.toNat_natCast, List.getElem?_eq_none h]
  cases decide ((p : Int) < 0) <;> rfl
theorem rc_at {rs : List Rn} {k p : Nat} {z : Rn} {x : Rw} (hz : rs[k]? = some z) (hx : z[p]? = some x) : rcV rs k p = y4 x := by
  unfold rcV
  rw [List.getD_eq_getElem?_getD, hz, Option.getD_some, Int.toNat_natCast, hx, decide_eq_false (by omega), cond_false]
  show y4 x + 0 = y4 x
  omega
theorem qo (s : So) (k : Nat) (p : Int) (hok : sK s.runs) (hk : k ≤ 1) : zz Go.Proofs.Try.prog 89 [.agg (soE s), I k, I p] [] (I (rcV s.runs k p)) [] false := by
  have hl := hok.1
  rcases Nat.lt_or_ge k s.runs.length with h1 | h1
  · obtain ⟨z, hz⟩ : ∃ z, s.runs[k]? = some z := ⟨_, List.getElem?_eq_getElem h1⟩
    have zl := hok.at hz
    rcases Int.lt_or_le p 0 with h2 | h2
    · have e := jb (rs := s.runs) (k := k) h2
      refine zw [6] Go.Proofs.Try.func89 rfl rfl ?_
      simp only [Go.Proofs.Try.ntmps89, List.length_cons, List.length_nil, Nat.reduceAdd, Nat.reduceSub, List.replicate_succ, List.replicate_zero, List.cons_append, List.nil_append]
      repeat' first | refine zK ?_ | refine zA ?_ | refine zP [] ?_ | (refine isA ?_; refine zd rfl ?_) | (refine isL ?_; refine zU rfl (by kernel_rfl) rfl rfl ?_) | (refine zb rfl ?_; refine zT rfl (by kernel_rfl) rfl rfl ?_) | refine zD ?_ | refine zB _ rfl (by kernel_rfl) ?_ | refine zV rfl ?_ | refine zW rfl ?_ | refine zC ?_ | with_reducible refine zN ?_ | refine zH ?_ | refine zI ?_ | (with_reducible first | refine zL ?_ | refine zM ?_ | refine zE ?_ | refine zG ?_ | refine zF ?_) | refine zO ?_
      refine yW rfl rfl (fun h => absurd (of_decide_eq_true h) (by omega)) (fun h => ?_)
      repeat' first | refine zK ?_ | refine zA ?_ | refine zP [] ?_ | (refine isA ?_; refine zd rfl ?_) | (refine isL ?_; refine zU rfl (by kernel_rfl) rfl rfl ?_) | (refine zb rfl ?_; refine zT rfl (by kernel_rfl) rfl rfl ?_) | refine zD ?_ | refine zB _ rfl (by kernel_rfl) ?_ | refine zV rfl ?_ | refine zW rfl ?_ | refine zC ?_ | with_reducible refine zN ?_ | refine zH ?_ | refine zI ?_ | (with_reducible first | refine zL ?_ | refine zM ?_ | refine zE ?_ | refine zG ?_ | refine zF ?_) | refine zO ?_
      refine yW rfl rfl (fun h => ?_) (fun h => absurd h2 (of_decide_eq_false h))
      repeat' first | refine zK ?_ | refine zA ?_ | refine zP [] ?_ | (refine isA ?_; refine zd rfl ?_) | (refine isL ?_; refine zU rfl (by kernel_rfl) rfl rfl ?_) | (refine zb rfl ?_; refine zT rfl (by kernel_rfl) rfl rfl ?_) | exact yG rfl rfl (by rw [e]) | refine zD ?_ | refine zB _ rfl (by kernel_rfl) ?_ | refine zV rfl ?_ | refine zW rfl ?_ | refine zC ?_ | with_reducible refine zN ?_ | refine zH ?_ | refine zI ?_ | (with_reducible first | refine zL ?_ | refine zM ?_ | refine zE ?_ | refine zG ?_ | refine zF ?_) | refine zO ?_
    · obtain ⟨q, rfl⟩ := Int.eq_ofNat_of_zero_le h2
      rcases Nat.lt_or_ge q z.length with h3 | h3
      · obtain ⟨x, hx⟩ : ∃ y, z[q]? = some y := ⟨_, List.getElem?_eq_getElem h3⟩
        have e := rc_at hz hx
        refine zw [6] Go.Proofs.Try.func89 rfl rfl ?_
        simp only [Go.Proofs.Try.ntmps89, List.length_cons, List.length_nil, Nat.reduceAdd, Nat.reduceSub, List.replicate_succ, List.replicate_zero, List.cons_append, List.nil_append]
        repeat' first | refine zK ?_ | refine zA ?_ | refine zP [] ?_ | (refine isA ?_; refine zd rfl ?_) | (refine isL ?_; refine zU rfl (by kernel_rfl) rfl rfl ?_) | (refine zb rfl ?_; refine zT rfl (by kernel_rfl) rfl rfl ?_) | refine zD ?_ | refine zB _ rfl (by kernel_rfl) ?_ | refine zV rfl ?_ | refine zW rfl ?_ | refine zC ?_ | with_reducible refine zN ?_ | refine zH ?_ | refine zI ?_ | (with_reducible first | refine zL ?_ | refine zM ?_ | refine zE ?_ | refine zG ?_ | refine zF ?_) | refine zO ?_
        refine yW rfl rfl (fun h => absurd (of_decide_eq_true h) (by omega)) (fun h => ?_)
        repeat' first | refine zK ?_ | refine zA ?_ | refine zP [] ?_ | (refine isA ?_; refine zd rfl ?_) | (refine isL ?_; refine zU rfl (by kernel_rfl) rfl rfl ?_) | (refine zb rfl ?_; refine zT rfl (by kernel_rfl) rfl rfl ?_) | refine zD ?_ | refine zB _ rfl (by kernel_rfl) ?_ | refine zV rfl ?_ | refine zW rfl ?_ | refine zC ?_ | with_reducible refine zN ?_ | refine zH ?_ | refine zI ?_ | (with_reducible first | refine zL ?_ | refine zM ?_ | refine zE ?_ | refine zG ?_ | refine zF ?_) | refine zO ?_
        refine yW rfl rfl (fun h => absurd (of_decide_eq_true h) (by omega)) (fun h => ?_)
        repeat' first | refine zK ?_ | refine zA ?_ | refine zP [] ?_ | (refine isA ?_; refine zd rfl ?_) | (refine isL ?_; refine zU rfl (by kernel_rfl) rfl rfl ?_) | (refine zb rfl ?_; refine zT rfl (by kernel_rfl) rfl rfl ?_) | (refine yB (x := .tmp 19) ?_; refine zc rfl (z6 (t := rnT) (z := z) rfl rfl rfl rfl (Int.natCast_nonneg k) hz) rfl ?_) | (refine yA (x := .tmp 19) rfl ?_; refine zY rfl (by kernel_rfl) rfl (z6 (t := rnT) (z := z) rfl rfl rfl rfl (Int.natCast_nonneg k) hz) rfl ?_) | (refine yB (x := .tmp 28) ?_; refine zc rfl (z6 (t := rnT) (z := z) rfl rfl rfl rfl (Int.natCast_nonneg k) hz) rfl ?_) | (refine yA (x := .tmp 28) rfl ?_; refine zY rfl (by kernel_rfl) rfl (z6 (t := rnT) (z := z) rfl rfl rfl rfl (Int.natCast_nonneg k) hz) rfl ?_) | (refine yB (x := .tmp 32) ?_; refine zc rfl (z6 (t := rwT) (z := x) rfl rfl rfl rfl (Int.natCast_nonneg q) hx) rfl ?_) | (refine yA (x := .tmp 32) rfl ?_; refine zY rfl (by kernel_rfl) rfl (z6 (t := rwT) (z := x) rfl rfl rfl rfl (Int.natCast_nonneg q) hx) rfl ?_) | (refine zu 58 ?_; refine zc rfl (zQ rfl (vA x) (.cons (.same rfl) .nil) rfl) rfl ?_) | (refine zv 58 rfl ?_; refine zY rfl (by kernel_rfl) rfl (zQ rfl (vA x) (.cons (.same rfl) .nil) rfl) rfl ?_) | refine zD ?_ | refine zB _ rfl (by kernel_rfl) ?_ | refine zV rfl ?_ | refine zW rfl ?_ | refine zC ?_ | with_reducible refine zN ?_ | refine zH ?_ | refine zI ?_ | (with_reducible first | refine zL ?_ | refine zM ?_ | refine zE ?_ | refine zG ?_ | refine zF ?_) | refine zO ?_
        refine zh rfl (fun h => absurd (of_decide_eq_true h) (by omega)) (fun h => ?_)
        repeat' first | refine zK ?_ | refine zA ?_ | refine zP [] ?_ | (refine isA ?_; refine zd rfl ?_) | (refine isL ?_; refine zU rfl (by kernel_rfl) rfl rfl ?_) | (refine zb rfl ?_; refine zT rfl (by kernel_rfl) rfl rfl ?_) | (refine yB (x := .tmp 19) ?_; refine zc rfl (z6 (t := rnT) (z := z) rfl rfl rfl rfl (Int.natCast_nonneg k) hz) rfl ?_) | (refine yA (x := .tmp 19) rfl ?_; refine zY rfl (by kernel_rfl) rfl (z6 (t := rnT) (z := z) rfl rfl rfl rfl (Int.natCast_nonneg k) hz) rfl ?_) | (refine yB (x := .tmp 28) ?_; refine zc rfl (z6 (t := rnT) (z := z) rfl rfl rfl rfl (Int.natCast_nonneg k) hz) rfl ?_) | (refine yA (x := .tmp 28) rfl ?_; refine zY rfl (by kernel_rfl) rfl (z6 (t := rnT) (z := z) rfl rfl rfl rfl (Int.natCast_nonneg k) hz) rfl ?_) | (refine yB (x := .tmp 32) ?_; refine zc rfl (z6 (t := rwT) (z := x) rfl rfl rfl rfl (Int.natCast_nonneg q) hx) rfl ?_) | (refine yA (x := .tmp 32) rfl ?_; refine zY rfl (by kernel_rfl) rfl (z6 (t := rwT) (z := x) rfl rfl rfl rfl (Int.natCast_nonneg q) hx) rfl ?_) | (refine zu 58 ?_; refine zc rfl (zQ rfl (vA x) (.cons (.same rfl) .nil) rfl) rfl ?_) | (refine zv 58 rfl ?_; refine zY rfl (by kernel_rfl) rfl (zQ rfl (vA x) (.cons (.same rfl) .nil) rfl) rfl ?_) | exact yG rfl rfl (by rw [e]) | refine zD ?_ | refine zB _ rfl (by kernel_rfl) ?_ | refine zV rfl ?_ | refine zW rfl ?_ | refine zC ?_ | with_reducible refine zN ?_ | refine zH ?_ | refine zI ?_ | (with_reducible first | refine zL ?_ | refine zM ?_ | refine zE ?_ | refine zG ?_ | refine zF ?_) | refine zO ?_
      · have e := cT hz h3
        refine zw [6] Go.Proofs.Try.func89 rfl rfl ?_
        simp only [Go.Proofs.Try.ntmps89, List.length_cons, List.length_nil, Nat.reduceAdd, Nat.reduceSub, List.replicate_succ, List.replicate_zero, List.cons_append, List.nil_append]
        repeat' first | refine zK ?_ | refine zA ?_ | refine zP [] ?_ | (refine isA ?_; refine zd rfl ?_) | (refine isL ?_; refine zU rfl (by kernel_rfl) rfl rfl ?_) | (refine zb rfl ?_; refine zT rfl (by kernel_rfl) rfl rfl ?_) | refine zD ?_ | refine zB _ rfl (by kernel_rfl) ?_ | refine zV rfl ?_ | refine zW rfl ?_ | refine zC ?_ | with_reducible refine zN ?_ | refine zH ?_ | refine zI ?_ | (with_reducible first | refine zL ?_ | refine zM ?_ | refine zE ?_ | refine zG ?_ | refine zF ?_) | refine zO ?_
        refine yW rfl rfl (fun h => absurd (of_decide_eq_true h) (by omega)) (fun h => ?_)
        repeat' first | refine zK ?_ | refine zA ?_ | refine zP [] ?_ | (refine isA ?_; refine zd rfl ?_) | (refine isL ?_; refine zU rfl (by kernel_rfl) rfl rfl ?_) | (refine zb rfl ?_; refine zT rfl (by kernel_rfl) rfl rfl ?_) | refine zD ?_ | refine zB _ rfl (by kernel_rfl) ?_ | refine zV rfl ?_ | refine zW rfl ?_ | refine zC ?_ | with_reducible refine zN ?_ | refine zH ?_ | refine zI ?_ | (with_reducible first | refine zL ?_ | refine zM ?_ | refine zE ?_ | refine zG ?_ | refine zF ?_) | refine zO ?_
        refine yW rfl rfl (fun h => absurd (of_decide_eq_true h) (by omega)) (fun h => ?_)
        repeat' first | refine zK ?_ | refine zA ?_ | refine zP [] ?_ | (refine isA ?_; refine zd rfl ?_) | (refine isL ?_; refine zU rfl (by kernel_rfl) rfl rfl ?_) | (refine zb rfl ?_; refine zT rfl (by kernel_rfl) rfl rfl ?_) | (refine yB (x := .tmp 19) ?_; refine zc rfl (z6 (t := rnT) (z := z) rfl rfl rfl rfl (Int.natCast_nonneg k) hz) rfl ?_) | (refine yA (x := .tmp 19) rfl ?_; refine zY rfl (by kernel_rfl) rfl (z6 (t := rnT) (z := z) rfl rfl rfl rfl (Int.natCast_nonneg k) hz) rfl ?_) | refine zD ?_ | refine zB _ rfl (by kernel_rfl) ?_ | refine zV rfl ?_ | refine zW rfl ?_ | refine zC ?_ | with_reducible refine zN ?_ | refine zH ?_ | refine zI ?_ | (with_reducible first | refine zL ?_ | refine zM ?_ | refine zE ?_ | refine zG ?_ | refine zF ?_) | refine zO ?_
        refine zh rfl (fun h => ?_) (fun h => absurd (of_decide_eq_false h) (by omega))
        repeat' first | refine zK ?_ | refine zA ?_ | refine zP [] ?_ | (refine isA ?_; refine zd rfl ?_) | (refine isL ?_; refine zU rfl (by kernel_rfl) rfl rfl ?_) | (refine zb rfl ?_; refine zT rfl (by kernel_rfl) rfl rfl ?_) | exact yG rfl rfl (by rw [e]) | refine zD ?_ | refine zB _ rfl (by kernel_rfl) ?_ | refine zV rfl ?_ | refine zW rfl ?_ | refine zC ?_ | with_reducible refine zN ?_ | refine zH ?_ | refine zI ?_ | (with_reducible first | refine zL ?_ | refine zM ?_ | refine zE ?_ | refine zG ?_ | refine zF ?_) | refine zO ?_
  · have e := cS (p := p) h1
    refine zw [6] Go.Proofs.Try.func89 rfl rfl ?_
    simp only [Go.Proofs.Try.ntmps89, List.length_cons, List.length_nil, Nat.reduceAdd, Nat.reduceSub, List.replicate_succ, List.replicate_zero, List.cons_append, List.nil_append]
    repeat' first | refine zK ?_ | refine zA ?_ | refine zP [] ?_ | (refine isA ?_; refine zd rfl ?_) | (refine isL ?_; refine zU rfl (by kernel_rfl) rfl rfl ?_) | (refine zb rfl ?_; refine zT rfl (by kernel_rfl) rfl rfl ?_) | refine zD ?_ | refine zB _ rfl (by kernel_rfl) ?_ | refine zV rfl ?_ | refine zW rfl ?_ | refine zC ?_ | with_reducible refine zN ?_ | refine zH ?_ | refine zI ?_ | (with_reducible first | refine zL ?_ | refine zM ?_ | refine zE ?_ | refine zG ?_ | refine zF ?_) | refine zO ?_
    refine yW rfl rfl (fun h => ?_) (fun h => absurd (of_decide_eq_false h) (by omega))
    repeat' first | refine zK ?_ | refine zA ?_ | refine zP [] ?_ | (refine isA ?_; refine zd rfl ?_) | (refine isL ?_; refine zU rfl (by kernel_rfl) rfl rfl ?_) | (refine zb rfl ?_; refine zT rfl (by kernel_rfl) rfl rfl ?_) | exact yG rfl rfl (by rw [e]) | refine zD ?_ | refine zB _ rfl (by kernel_rfl) ?_ | refine zV rfl ?_ | refine zW rfl ?_ | refine zC ?_ | with_reducible refine zN ?_ | refine zH ?_ | refine zI ?_ | (with_reducible first | refine zL ?_ | refine zM ?_ | refine zE ?_ | refine zG ?_ | refine zF ?_) | refine zO ?_
def wd (rs : List Rn) (k p : Nat) : List Rw := ((rs.getD k [])[p]?).toList
theorem pI (rs : List Rn) (k p : Nat) : (wd rs k p).length ≤ 1 := by
  unfold wd; cases (rs.getD k [])[p]? <;> simp
theorem mM (rs : List Rn) (k p : Nat) : rcV rs k p = yO (wd rs k p) := by
  unfold rcV wd
  rw [decide_eq_false (by omega), cond_false, Int.toNat_natCast]
theorem wa (rs : List Rn) (k p : Nat) (hok : sK rs) (hk : k ≤ 1) : zz Go.Proofs.Try.prog 71 [rnL rs, I k, I p] [] (rwL (wd rs k p)) [] true := by
  have hl := hok.1
  rcases Nat.lt_or_ge k rs.length with h1 | h1
  · obtain ⟨z, hz⟩ : ∃ z, rs[k]? = some z := ⟨_, List.getElem?_eq_getElem h1⟩
    have zl := hok.at hz
    rcases Nat.lt_or_ge p z.length with h3 | h3
    · obtain ⟨x, hx⟩ : ∃ y, z[p]? = some y := ⟨_, List.getElem?_eq_getElem h3⟩
      have e : wd rs k p = [x] := by unfold wd; rw [List.getD_eq_getElem?_getD, hz, Option.getD_some, hx]; rfl
      rw [e]
      refine zw [6] Go.Proofs.Try.func71 rfl rfl ?_
      simp only [Go.Proofs.Try.ntmps71, List.length_cons, List.length_nil, Nat.reduceAdd, Nat.reduceSub, List.replicate_succ, List.replicate_zero, List.cons_append, List.nil_append]
      repeat' first | refine zK ?_ | refine zA ?_ | refine zP [] ?_ | (refine isA ?_; refine zd rfl ?_) | (refine isL ?_; refine zU rfl (by kernel_rfl) rfl rfl ?_) | (refine zb rfl ?_; refine zT rfl (by kernel_rfl) rfl rfl ?_) | refine zD ?_ | refine zB _ rfl (by kernel_rfl) ?_ | refine zV rfl ?_ | refine zW rfl ?_ | refine zC ?_ | with_reducible refine zN ?_ | refine zH ?_ | refine zI ?_ | (with_reducible first | refine zL ?_ | refine zM ?_ | refine zE ?_ | refine zG ?_ | refine zF ?_) | refine zO ?_
      refine yW rfl rfl (fun h => ?_) (fun h => absurd (of_decide_eq_false h) (by omega))
      repeat' first | refine zK ?_ | refine zA ?_ | refine zP [] ?_ | (refine isA ?_; refine zd rfl ?_) | (refine isL ?_; refine zU rfl (by kernel_rfl) rfl rfl ?_) | (refine zb rfl ?_; refine zT rfl (by kernel_rfl) rfl rfl ?_) | (refine yB (x := .tmp 13) ?_; refine zc rfl (z6 (t := rnT) (z := z) rfl rfl rfl rfl (Int.natCast_nonneg k) hz) rfl ?_) | (refine yA (x := .tmp 13) rfl ?_; refine zY rfl (by kernel_rfl) rfl (z6 (t := rnT) (z := z) rfl rfl rfl rfl (Int.natCast_nonneg k) hz) rfl ?_) | refine zD ?_ | refine zB _ rfl (by kernel_rfl) ?_ | refine zV rfl ?_ | refine zW rfl ?_ | refine zC ?_ | with_reducible refine zN ?_ | refine zH ?_ | refine zI ?_ | (with_reducible first | refine zL ?_ | refine zM ?_ | refine zE ?_ | refine zG ?_ | refine zF ?_) | refine zO ?_
      refine zh rfl (fun h => ?_) (fun h => absurd (of_decide_eq_false h) (by omega))
      repeat' first | (refine isA ?_; refine zc rfl (yS rfl rfl rfl rfl rfl) rfl ?_) | refine zK ?_ | refine zA ?_ | refine zP [] ?_ | (refine isA ?_; refine zd rfl ?_) | (refine isL ?_; refine zU rfl (by kernel_rfl) rfl rfl ?_) | (refine zb rfl ?_; refine zT rfl (by kernel_rfl) rfl rfl ?_) | (refine yB (x := .tmp 21) ?_; refine zc rfl (z6 (t := rnT) (z := z) rfl rfl rfl rfl (Int.natCast_nonneg k) hz) rfl ?_) | (refine yA (x := .tmp 21) rfl ?_; refine zY rfl (by kernel_rfl) rfl (z6 (t := rnT) (z := z) rfl rfl rfl rfl (Int.natCast_nonneg k) hz) rfl ?_) | (refine yB (x := .tmp 25) ?_; refine zc rfl (z6 (t := rwT) (z := x) rfl rfl rfl rfl (Int.natCast_nonneg p) hx) rfl ?_) | (refine yA (x := .tmp 25) rfl ?_; refine zY rfl (by kernel_rfl) rfl (z6 (t := rwT) (z := x) rfl rfl rfl rfl (Int.natCast_nonneg p) hx) rfl ?_) | exact ce rfl (.same rfl) | refine zD ?_ | refine zB _ rfl (by kernel_rfl) ?_ | refine zV rfl ?_ | refine zW rfl ?_ | refine zC ?_ | with_reducible refine zN ?_ | refine zH ?_ | refine zI ?_ | (with_reducible first | refine zL ?_ | refine zM ?_ | refine zE ?_ | refine zG ?_ | refine zF ?_) | refine zO ?_
    · have e : wd rs k p = [] := by unfold wd; rw [List.getD_eq_getElem?_getD, hz, Option.getD_some, List.getElem?_eq_none h3]; rfl
      rw [e]
      refine zw [6] Go.Proofs.Try.func71 rfl rfl ?_
      simp only [Go.Proofs.Try.ntmps71, List.length_cons, List.length_nil, Nat.reduceAdd, Nat.reduceSub, List.replicate_succ, List.replicate_zero, List.cons_append, List.nil_append]
      repeat' first | refine zK ?_ | refine zA ?_ | refine zP [] ?_ | (refine isA ?_; refine zd rfl ?_) | (refine isL ?_; refine zU rfl (by kernel_rfl) rfl rfl ?_) | (refine zb rfl ?_; refine zT rfl (by kernel_rfl) rfl rfl ?_) | refine zD ?_ | refine zB _ rfl (by kernel_rfl) ?_ | refine zV rfl ?_ | refine zW rfl ?_ | refine zC ?_ | with_reducible refine zN ?_ | refine zH ?_ | refine zI ?_ | (with_reducible first | refine zL ?_ | refine zM ?_ | refine zE ?_ | refine zG ?_ | refine zF ?_) | refine zO ?_
      refine yW rfl rfl (fun h => ?_) (fun h => absurd (of_decide_eq_false h) (by omega))
      repeat' first | refine zK ?_ | refine zA ?_ | refine zP [] ?_ | (refine isA ?_; refine zd rfl ?_) | (refine isL ?_; refine zU rfl (by kernel_rfl) rfl rfl ?_) | (refine zb rfl ?_; refine zT rfl (by kernel_rfl) rfl rfl ?_) | (refine yB (x := .tmp 13) ?_; refine zc rfl (z6 (t := rnT) (z := z) rfl rfl rfl rfl (Int.natCast_nonneg k) hz) rfl ?_) | (refine yA (x := .tmp 13) rfl ?_; refine zY rfl (by kernel_rfl) rfl (z6 (t := rnT) (z := z) rfl rfl rfl rfl (Int.natCast_nonneg k) hz) rfl ?_) | refine zD ?_ | refine zB _ rfl (by kernel_rfl) ?_ | refine zV rfl ?_ | refine zW rfl ?_ | refine zC ?_ | with_reducible refine zN ?_ | refine zH ?_ | refine zI ?_ | (with_reducible first | refine zL ?_ | refine zM ?_ | refine zE ?_ | refine zG ?_ | refine zF ?_) | refine zO ?_
      refine zh rfl (fun h => absurd (of_decide_eq_true h) (by omega)) (fun h => ?_)
      repeat' first | (refine isA ?_; refine zc rfl (yS rfl rfl rfl rfl rfl) rfl ?_) | refine zK ?_ | refine zA ?_ | refine zP [] ?_ | (refine isA ?_; refine zd rfl ?_) | (refine isL ?_; refine zU rfl (by kernel_rfl) rfl rfl ?_) | (refine zb rfl ?_; refine zT rfl (by kernel_rfl) rfl rfl ?_) | exact ce rfl (.same rfl) | refine zD ?_ | refine zB _ rfl (by kernel_rfl) ?_ | refine zV rfl ?_ | refine zW rfl ?_ | refine zC ?_ | with_reducible refine zN ?_ | refine zH ?_ | refine zI ?_ | (with_reducible first | refine zL ?_ | refine zM ?_ | refine zE ?_ | refine zG ?_ | refine zF ?_) | refine zO ?_
  · have e : wd rs k p = [] := by unfold wd; rw [List.getD_eq_getElem?_getD, List.getElem?_eq_none h1]; rfl
    rw [e]
    refine zw [6] Go.Proofs.Try.func71 rfl rfl ?_
    simp only [Go.Proofs.Try.ntmps71, List.length_cons, List.length_nil, Nat.reduceAdd, Nat.reduceSub, List.replicate_succ, List.replicate_zero, List.cons_append, List.nil_append]
    repeat' first | refine zK ?_ | refine zA ?_ | refine zP [] ?_ | (refine isA ?_; refine zd rfl ?_) | (refine isL ?_; refine zU rfl (by kernel_rfl) rfl rfl ?_) | (refine zb rfl ?_; refine zT rfl (by kernel_rfl) rfl rfl ?_) | refine zD ?_ | refine zB _ rfl (by kernel_rfl) ?_ | refine zV rfl ?_ | refine zW rfl ?_ | refine zC ?_ | with_reducible refine zN ?_ | refine zH ?_ | refine zI ?_ | (with_reducible first | refine zL ?_ | refine zM ?_ | refine zE ?_ | refine zG ?_ | refine zF ?_) | refine zO ?_
    refine yW rfl rfl (fun h => absurd (of_decide_eq_true h) (by omega)) (fun h => ?_)
    repeat' first | (refine isA ?_; refine zc rfl (yS rfl rfl rfl rfl rfl) rfl ?_) | refine zK ?_ | refine zA ?_ | refine zP [] ?_ | (refine isA ?_; refine zd rfl ?_) | (refine isL ?_; refine zU rfl (by kernel_rfl) rfl rfl ?_) | (refine zb rfl ?_; refine zT rfl (by kernel_rfl) rfl rfl ?_) | exact ce rfl (.same rfl) | refine zD ?_ | refine zB _ rfl (by kernel_rfl) ?_ | refine zV rfl ?_ | refine zW rfl ?_ | refine zC ?_ | with_reducible refine zN ?_ | refine zH ?_ | refine zI ?_ | (with_reducible first | refine zL ?_ | refine zM ?_ | refine zE ?_ | refine zG ?_ | refine zF ?_) | refine zO ?_
theorem du {s : So} (h : s.ph = 2) : yi s = cond (decide (s.lp < 0) || decide (s.rp < 0)) 0 (rcV s.runs 0 s.lp + rcV s.runs 1 s.rp) := by
  unfold yi; rw [decide_eq_false (by rw [h]; decide), cond_false, decide_eq_true h, cond_true]
theorem dt {s : So} (h : s.ph = 3) : yi s = rcV s.runs 0 s.lp := by
  unfold yi; rw [decide_eq_false (by rw [h]; decide), cond_false, decide_eq_false (by rw [h]; decide), cond_false, decide_eq_true h, cond_true]
theorem dv {s : So} (h1 : s.ph ≠ 1) (h2 : s.ph ≠ 2) (h3 : s.ph ≠ 3) : yi s = 0 := by
  unfold yi; rw [decide_eq_false h1, cond_false, decide_eq_false h2, cond_false, decide_eq_false h3, cond_false]
theorem tD {a b : Int} (h : 0 ≤ a ∧ a ≤ 4000000000) (k : 0 ≤ b ∧ b ≤ 4000000000) : IntKind.i64.wrap (a + b) = a + b := by rw [IntKind.wrap_i64]; omega
theorem qL (s : So) (hok : okSo s) : zz Go.Proofs.Try.prog 19 [.agg (soE s)] [] (I (yi s)) [] false := by
  have g2 := hok.heap
  have g3 := hok.dfr
  have t2 := uk s.heap
  have t3 := uk s.dfr
  have r0 := kH s.runs 0 s.lp
  have r1 := kH s.runs 1 s.rp
  have c0 := qo s 0 s.lp hok.rn (by omega)
  have c1 := qo s 1 s.rp hok.rn (by omega)
  refine zw [2] Go.Proofs.Try.func19 rfl rfl ?_
  simp only [Go.Proofs.Try.ntmps19, List.length_cons, List.length_nil, Nat.reduceAdd, Nat.reduceSub, List.replicate_succ, List.replicate_zero, List.cons_append, List.nil_append]
  repeat' first | refine zK ?_ | refine zA ?_ | refine zP [] ?_ | (refine isA ?_; refine zd rfl ?_) | (refine isL ?_; refine zU rfl (by kernel_rfl) rfl rfl ?_) | (refine zb rfl ?_; refine zT rfl (by kernel_rfl) rfl rfl ?_) | refine zD ?_ | refine zB _ rfl (by kernel_rfl) ?_ | refine zV rfl ?_ | refine zW rfl ?_ | refine zC ?_ | with_reducible refine zN ?_ | refine zH ?_ | refine zI ?_ | (with_reducible first | refine zL ?_ | refine zM ?_ | refine zE ?_ | refine zG ?_ | refine zF ?_) | refine zO ?_
  refine zh rfl (fun h => ?_) (fun h => ?_)
  · have e := vO (of_decide_eq_true h)
    repeat' first | refine zK ?_ | refine zA ?_ | refine zP [] ?_ | (refine isA ?_; refine zd rfl ?_) | (refine isL ?_; refine zU rfl (by kernel_rfl) rfl rfl ?_) | (refine zb rfl ?_; refine zT rfl (by kernel_rfl) rfl rfl ?_) | (refine zu 88 (x := #[.tmp 8]) ?_; refine zc rfl (zQ rfl (qK s.heap (by omega)) (.cons (.same rfl) .nil) rfl) rfl ?_) | (refine zv 88 (x := #[.tmp 8]) rfl ?_; refine zY rfl (by kernel_rfl) rfl (zQ rfl (qK s.heap (by omega)) (.cons (.same rfl) .nil) rfl) rfl ?_) | (refine zu 88 (x := #[.tmp 11]) ?_; refine zc rfl (zQ rfl (qK s.dfr (by omega)) (.cons (.same rfl) .nil) rfl) rfl ?_) | (refine zv 88 (x := #[.tmp 11]) rfl ?_; refine zY rfl (by kernel_rfl) rfl (zQ rfl (qK s.dfr (by omega)) (.cons (.same rfl) .nil) rfl) rfl ?_) | exact yG rfl rfl (by rw [e, tD (by omega) (by omega)]) | refine zD ?_ | refine zB _ rfl (by kernel_rfl) ?_ | refine zV rfl ?_ | refine zW rfl ?_ | refine zC ?_ | with_reducible refine zN ?_ | refine zH ?_ | refine zI ?_ | (with_reducible first | refine zL ?_ | refine zM ?_ | refine zE ?_ | refine zG ?_ | refine zF ?_) | refine zO ?_
  have h1 := of_decide_eq_false h
  repeat' first | refine zK ?_ | refine zA ?_ | refine zP [] ?_ | (refine isA ?_; refine zd rfl ?_) | (refine isL ?_; refine zU rfl (by kernel_rfl) rfl rfl ?_) | (refine zb rfl ?_; refine zT rfl (by kernel_rfl) rfl rfl ?_) | refine zD ?_ | refine zB _ rfl (by kernel_rfl) ?_ | refine zV rfl ?_ | refine zW rfl ?_ | refine zC ?_ | with_reducible refine zN ?_ | refine zH ?_ | refine zI ?_ | (with_reducible first | refine zL ?_ | refine zM ?_ | refine zE ?_ | refine zG ?_ | refine zF ?_) | refine zO ?_
  refine zh rfl (fun h => ?_) (fun h => ?_)
  · have e := du (of_decide_eq_true h)
    repeat' first | refine zK ?_ | refine zA ?_ | refine zP [] ?_ | (refine isA ?_; refine zd rfl ?_) | (refine isL ?_; refine zU rfl (by kernel_rfl) rfl rfl ?_) | (refine zb rfl ?_; refine zT rfl (by kernel_rfl) rfl rfl ?_) | (refine zu 89 ?_; refine zc rfl (zQ rfl c0 (.cons (.same rfl) (.cons (.same rfl) (.cons (.same rfl) .nil))) rfl) rfl ?_) | (refine zv 89 rfl ?_; refine zY rfl (by kernel_rfl) rfl (zQ rfl c0 (.cons (.same rfl) (.cons (.same rfl) (.cons (.same rfl) .nil))) rfl) rfl ?_) | (refine zu 89 ?_; refine zc rfl (zQ rfl c1 (.cons (.same rfl) (.cons (.same rfl) (.cons (.same rfl) .nil))) rfl) rfl ?_) | (refine zv 89 rfl ?_; refine zY rfl (by kernel_rfl) rfl (zQ rfl c1 (.cons (.same rfl) (.cons (.same rfl) (.cons (.same rfl) .nil))) rfl) rfl ?_) | refine zD ?_ | refine zB _ rfl (by kernel_rfl) ?_ | refine zV rfl ?_ | refine zW rfl ?_ | refine zC ?_ | with_reducible refine zN ?_ | refine zH ?_ | refine zI ?_ | (with_reducible first | refine zL ?_ | refine zM ?_ | refine zE ?_ | refine zG ?_ | refine zF ?_) | refine zO ?_ | refine zh rfl (fun hbr => ?_) (fun hbr => ?_) | (refine wg ?_; refine yW rfl rfl (fun hbr => ?_) (fun hbr => ?_) <;> (fail_if_success (with_reducible (have hx : true = true := hbr))) <;> (fail_if_success (with_reducible (have hx : false = false := hbr)))) | (refine zb rfl ?_; refine yK rfl rfl rfl rfl (fun hbr => ?_) (fun hbr => ?_) <;> (fail_if_success (with_reducible (have hx : true = true := hbr))) <;> (fail_if_success (with_reducible (have hx : false = false := hbr))))
    all_goals exact yG rfl rfl (by simp_all; try exact tD (by omega) (by omega))
  have h2 := of_decide_eq_false h
  repeat' first | refine zK ?_ | refine zA ?_ | refine zP [] ?_ | (refine isA ?_; refine zd rfl ?_) | (refine isL ?_; refine zU rfl (by kernel_rfl) rfl rfl ?_) | (refine zb rfl ?_; refine zT rfl (by kernel_rfl) rfl rfl ?_) | refine zD ?_ | refine zB _ rfl (by kernel_rfl) ?_ | refine zV rfl ?_ | refine zW rfl ?_ | refine zC ?_ | with_reducible refine zN ?_ | refine zH ?_ | refine zI ?_ | (with_reducible first | refine zL ?_ | refine zM ?_ | refine zE ?_ | refine zG ?_ | refine zF ?_) | refine zO ?_
  refine zh rfl (fun h => ?_) (fun h => ?_)
  · have e := dt (of_decide_eq_true h)
    repeat' first | refine zK ?_ | refine zA ?_ | refine zP [] ?_ | (refine isA ?_; refine zd rfl ?_) | (refine isL ?_; refine zU rfl (by kernel_rfl) rfl rfl ?_) | (refine zb rfl ?_; refine zT rfl (by kernel_rfl) rfl rfl ?_) | (refine zu 89 ?_; refine zc rfl (zQ rfl c0 (.cons (.same rfl) (.cons (.same rfl) (.cons (.same rfl) .nil))) rfl) rfl ?_) | (refine zv 89 rfl ?_; refine zY rfl (by kernel_rfl) rfl (zQ rfl c0 (.cons (.same rfl) (.cons (.same rfl) (.cons (.same rfl) .nil))) rfl) rfl ?_) | exact yG rfl rfl (by rw [e]) | refine zD ?_ | refine zB _ rfl (by kernel_rfl) ?_ | refine zV rfl ?_ | refine zW rfl ?_ | refine zC ?_ | with_reducible refine zN ?_ | refine zH ?_ | refine zI ?_ | (with_reducible first | refine zL ?_ | refine zM ?_ | refine zE ?_ | refine zG ?_ | refine zF ?_) | refine zO ?_
  · have e := dv h1 h2 (of_decide_eq_false h)
    repeat' first | refine zK ?_ | refine zA ?_ | refine zP [] ?_ | (refine isA ?_; refine zd rfl ?_) | (refine isL ?_; refine zU rfl (by kernel_rfl) rfl rfl ?_) | (refine zb rfl ?_; refine zT rfl (by kernel_rfl) rfl rfl ?_) | exact yG rfl rfl (by rw [e]) | refine zD ?_ | refine zB _ rfl (by kernel_rfl) ?_ | refine zV rfl ?_ | refine zW rfl ?_ | refine zC ?_ | with_reducible refine zN ?_ | refine zH ?_ | refine zI ?_ | (with_reducible first | refine zL ?_ | refine zM ?_ | refine zE ?_ | refine zG ?_ | refine zF ?_) | refine zO ?_
theorem pd (s : So) (hok : okSo s) : zz Go.Proofs.Try.prog 20 [.agg (soE s)] [] (I (yi s)) [] false := by
  have g2 := hok.heap
  have g3 := hok.dfr
  have t2 := uk s.heap
  have t3 := uk s.dfr
  have r0 := kH s.runs 0 s.lp
  have r1 := kH s.runs 1 s.rp
  refine zw [2] Go.Proofs.Try.func20 rfl rfl ?_
  simp only [Go.Proofs.Try.ntmps20, List.length_cons, List.length_nil, Nat.reduceAdd, Nat.reduceSub, List.replicate_succ, List.replicate_zero, List.cons_append, List.nil_append]
  repeat' first | refine zK ?_ | refine zA ?_ | refine zP [] ?_ | (refine isA ?_; refine zd rfl ?_) | (refine isL ?_; refine zU rfl (by kernel_rfl) rfl rfl ?_) | (refine zb rfl ?_; refine zT rfl (by kernel_rfl) rfl rfl ?_) | refine zD ?_ | refine zB _ rfl (by kernel_rfl) ?_ | refine zV rfl ?_ | refine zW rfl ?_ | refine zC ?_ | with_reducible refine zN ?_ | refine zH ?_ | refine zI ?_ | (with_reducible first | refine zL ?_ | refine zM ?_ | refine zE ?_ | refine zG ?_ | refine zF ?_) | refine zO ?_
  refine zh rfl (fun h => ?_) (fun h => ?_)
  · have e := vO (of_decide_eq_true h)
    repeat' first | refine zK ?_ | refine zA ?_ | refine zP [] ?_ | (refine isA ?_; refine zd rfl ?_) | (refine isL ?_; refine zU rfl (by kernel_rfl) rfl rfl ?_) | (refine zb rfl ?_; refine zT rfl (by kernel_rfl) rfl rfl ?_) | (refine zu 90 (x := #[.tmp 8]) ?_; refine zc rfl (zQ rfl (vc s.heap (by omega)) (.cons (.same rfl) .nil) rfl) rfl ?_) | (refine zv 90 (x := #[.tmp 8]) rfl ?_; refine zY rfl (by kernel_rfl) rfl (zQ rfl (vc s.heap (by omega)) (.cons (.same rfl) .nil) rfl) rfl ?_) | (refine zu 90 (x := #[.tmp 11]) ?_; refine zc rfl (zQ rfl (vc s.dfr (by omega)) (.cons (.same rfl) .nil) rfl) rfl ?_) | (refine zv 90 (x := #[.tmp 11]) rfl ?_; refine zY rfl (by kernel_rfl) rfl (zQ rfl (vc s.dfr (by omega)) (.cons (.same rfl) .nil) rfl) rfl ?_) | exact yG rfl rfl (by rw [e, tD (by omega) (by omega)]) | refine zD ?_ | refine zB _ rfl (by kernel_rfl) ?_ | refine zV rfl ?_ | refine zW rfl ?_ | refine zC ?_ | with_reducible refine zN ?_ | refine zH ?_ | refine zI ?_ | (with_reducible first | refine zL ?_ | refine zM ?_ | refine zE ?_ | refine zG ?_ | refine zF ?_) | refine zO ?_
  have h1 := of_decide_eq_false h
  repeat' first | refine zK ?_ | refine zA ?_ | refine zP [] ?_ | (refine isA ?_; refine zd rfl ?_) | (refine isL ?_; refine zU rfl (by kernel_rfl) rfl rfl ?_) | (refine zb rfl ?_; refine zT rfl (by kernel_rfl) rfl rfl ?_) | refine zD ?_ | refine zB _ rfl (by kernel_rfl) ?_ | refine zV rfl ?_ | refine zW rfl ?_ | refine zC ?_ | with_reducible refine zN ?_ | refine zH ?_ | refine zI ?_ | (with_reducible first | refine zL ?_ | refine zM ?_ | refine zE ?_ | refine zG ?_ | refine zF ?_) | refine zO ?_
  refine zh rfl (fun h => ?_) (fun h => ?_)
  · have e := du (of_decide_eq_true h)
    repeat' first | refine zK ?_ | refine zA ?_ | refine zP [] ?_ | (refine isA ?_; refine zd rfl ?_) | (refine isL ?_; refine zU rfl (by kernel_rfl) rfl rfl ?_) | (refine zb rfl ?_; refine zT rfl (by kernel_rfl) rfl rfl ?_) | refine zD ?_ | refine zB _ rfl (by kernel_rfl) ?_ | refine zV rfl ?_ | refine zW rfl ?_ | refine zC ?_ | with_reducible refine zN ?_ | refine zH ?_ | refine zI ?_ | (with_reducible first | refine zL ?_ | refine zM ?_ | refine zE ?_ | refine zG ?_ | refine zF ?_) | refine zO ?_
    refine yW rfl rfl (fun p => ?_) (fun p => ?_)
    · repeat' first | refine zK ?_ | refine zA ?_ | refine zP [] ?_ | (refine isA ?_; refine zd rfl ?_) | (refine isL ?_; refine zU rfl (by kernel_rfl) rfl rfl ?_) | (refine zb rfl ?_; refine zT rfl (by kernel_rfl) rfl rfl ?_) | exact yG rfl rfl (by rw [e, p]; rfl) | refine zD ?_ | refine zB _ rfl (by kernel_rfl) ?_ | refine zV rfl ?_ | refine zW rfl ?_ | refine zC ?_ | with_reducible refine zN ?_ | refine zH ?_ | refine zI ?_ | (with_reducible first | refine zL ?_ | refine zM ?_ | refine zE ?_ | refine zG ?_ | refine zF ?_) | refine zO ?_
    · repeat' first | refine zK ?_ | refine zA ?_ | refine zP [] ?_ | (refine isA ?_; refine zd rfl ?_) | (refine isL ?_; refine zU rfl (by kernel_rfl) rfl rfl ?_) | (refine zb rfl ?_; refine zT rfl (by kernel_rfl) rfl rfl ?_) | refine zD ?_ | refine zB _ rfl (by kernel_rfl) ?_ | refine zV rfl ?_ | refine zW rfl ?_ | refine zC ?_ | with_reducible refine zN ?_ | refine zH ?_ | refine zI ?_ | (with_reducible first | refine zL ?_ | refine zM ?_ | refine zE ?_ | refine zG ?_ | refine zF ?_) | refine zO ?_
      refine zh rfl (fun q => ?_) (fun q => ?_)
      · repeat' first | refine zK ?_ | refine zA ?_ | refine zP [] ?_ | (refine isA ?_; refine zd rfl ?_) | (refine isL ?_; refine zU rfl (by kernel_rfl) rfl rfl ?_) | (refine zb rfl ?_; refine zT rfl (by kernel_rfl) rfl rfl ?_) | exact yG rfl rfl (by rw [e, p, q]; rfl) | refine zD ?_ | refine zB _ rfl (by kernel_rfl) ?_ | refine zV rfl ?_ | refine zW rfl ?_ | refine zC ?_ | with_reducible refine zN ?_ | refine zH ?_ | refine zI ?_ | (with_reducible first | refine zL ?_ | refine zM ?_ | refine zE ?_ | refine zG ?_ | refine zF ?_) | refine zO ?_
      · obtain ⟨i, hi⟩ := Int.eq_ofNat_of_zero_le (show 0 ≤ s.lp from Int.not_lt.1 (of_decide_eq_false p))
        obtain ⟨j, hj⟩ := Int.eq_ofNat_of_zero_le (show 0 ≤ s.rp from Int.not_lt.1 (of_decide_eq_false q))
        have e' : yi s = yO (wd s.runs 0 i) + yO (wd s.runs 1 j) := by rw [e, p, q, hi, hj]; rw [← mM, ← mM]; try rfl
        have c0 := wa s.runs 0 i hok.rn (by omega)
        have c1 := wa s.runs 1 j hok.rn (by omega)
        rw [← hi] at c0
        rw [← hj] at c1
        have b0 := pI s.runs 0 i
        have b1 := pI s.runs 1 j
        have u0 := uk (wd s.runs 0 i)
        have u1 := uk (wd s.runs 1 j)
        generalize wd s.runs 0 i = x0 at *
        generalize wd s.runs 1 j = x1 at *
        repeat' first | refine zK ?_ | refine zA ?_ | refine zP [] ?_ | (refine isA ?_; refine zd rfl ?_) | (refine isL ?_; refine zU rfl (by kernel_rfl) rfl rfl ?_) | (refine zb rfl ?_; refine zT rfl (by kernel_rfl) rfl rfl ?_) | (refine zu 71 ?_; refine zc rfl (zQ rfl c0 (.cons (.same rfl) (.cons (.same rfl) (.cons (.same rfl) .nil))) rfl) rfl ?_) | (refine zv 71 rfl ?_; refine zY rfl (by kernel_rfl) rfl (zQ rfl c0 (.cons (.same rfl) (.cons (.same rfl) (.cons (.same rfl) .nil))) rfl) rfl ?_) | (refine zu 71 ?_; refine zc rfl (zQ rfl c1 (.cons (.same rfl) (.cons (.same rfl) (.cons (.same rfl) .nil))) rfl) rfl ?_) | (refine zv 71 rfl ?_; refine zY rfl (by kernel_rfl) rfl (zQ rfl c1 (.cons (.same rfl) (.cons (.same rfl) (.cons (.same rfl) .nil))) rfl) rfl ?_) | (refine zu 90 (x := #[.tmp 28]) ?_; refine zc rfl (zQ rfl (vc x0 (by omega)) (.cons (.same rfl) .nil) rfl) rfl ?_) | (refine zv 90 (x := #[.tmp 28]) rfl ?_; refine zY rfl (by kernel_rfl) rfl (zQ rfl (vc x0 (by omega)) (.cons (.same rfl) .nil) rfl) rfl ?_) | (refine zu 90 (x := #[.tmp 34]) ?_; refine zc rfl (zQ rfl (vc x1 (by omega)) (.cons (.same rfl) .nil) rfl) rfl ?_) | (refine zv 90 (x := #[.tmp 34]) rfl ?_; refine zY rfl (by kernel_rfl) rfl (zQ rfl (vc x1 (by omega)) (.cons (.same rfl) .nil) rfl) rfl ?_) | exact yG rfl rfl (by rw [e', tD (by omega) (by omega)]) | refine zD ?_ | refine zB _ rfl (by kernel_rfl) ?_ | refine zV rfl ?_ | refine zW rfl ?_ | refine zC ?_ | with_reducible refine zN ?_ | refine zH ?_ | refine zI ?_ | (with_reducible first | refine zL ?_ | refine zM ?_ | refine zE ?_ | refine zG ?_ | refine zF ?_) | refine zO ?_
  have h2 := of_decide_eq_false h
  repeat' first | refine zK ?_ | refine zA ?_ | refine zP [] ?_ | (refine isA ?_; refine zd rfl ?_) | (refine isL ?_; refine zU rfl (by kernel_rfl) rfl rfl ?_) | (refine zb rfl ?_; refine zT rfl (by kernel_rfl) rfl rfl ?_) | refine zD ?_ | refine zB _ rfl (by kernel_rfl) ?_ | refine zV rfl ?_ | refine zW rfl ?_ | refine zC ?_ | with_reducible refine zN ?_ | refine zH ?_ | refine zI ?_ | (with_reducible first | refine zL ?_ | refine zM ?_ | refine zE ?_ | refine zG ?_ | refine zF ?_) | refine zO ?_
  refine zh rfl (fun h => ?_) (fun h => ?_)
  · have e := dt (of_decide_eq_true h)
    repeat' first | refine zK ?_ | refine zA ?_ | refine zP [] ?_ | (refine isA ?_; refine zd rfl ?_) | (refine isL ?_; refine zU rfl (by kernel_rfl) rfl rfl ?_) | (refine zb rfl ?_; refine zT rfl (by kernel_rfl) rfl rfl ?_) | refine zD ?_ | refine zB _ rfl (by kernel_rfl) ?_ | refine zV rfl ?_ | refine zW rfl ?_ | refine zC ?_ | with_reducible refine zN ?_ | refine zH ?_ | refine zI ?_ | (with_reducible first | refine zL ?_ | refine zM ?_ | refine zE ?_ | refine zG ?_ | refine zF ?_) | refine zO ?_
    refine zh rfl (fun q => ?_) (fun q => ?_)
    · have e' := jb (rs := s.runs) (k := 0) (of_decide_eq_true q)
      repeat' first | refine zK ?_ | refine zA ?_ | refine zP [] ?_ | (refine isA ?_; refine zd rfl ?_) | (refine isL ?_; refine zU rfl (by kernel_rfl) rfl rfl ?_) | (refine zb rfl ?_; refine zT rfl (by kernel_rfl) rfl rfl ?_) | exact yG rfl rfl (by rw [e, e']) | refine zD ?_ | refine zB _ rfl (by kernel_rfl) ?_ | refine zV rfl ?_ | refine zW rfl ?_ | refine zC ?_ | with_reducible refine zN ?_ | refine zH ?_ | refine zI ?_ | (with_reducible first | refine zL ?_ | refine zM ?_ | refine zE ?_ | refine zG ?_ | refine zF ?_) | refine zO ?_
    · obtain ⟨i, hi⟩ := Int.eq_ofNat_of_zero_le (show 0 ≤ s.lp from Int.not_lt.1 (of_decide_eq_false q))
      have e' : yi s = yO (wd s.runs 0 i) := by rw [e, hi]; rw [← mM]; try rfl
      have c0 := wa s.runs 0 i hok.rn (by omega)
      rw [← hi] at c0
      have b0 := pI s.runs 0 i
      generalize wd s.runs 0 i = x0 at *
      repeat' first | refine zK ?_ | refine zA ?_ | refine zP [] ?_ | (refine isA ?_; refine zd rfl ?_) | (refine isL ?_; refine zU rfl (by kernel_rfl) rfl rfl ?_) | (refine zb rfl ?_; refine zT rfl (by kernel_rfl) rfl rfl ?_) | (refine zu 71 ?_; refine zc rfl (zQ rfl c0 (.cons (.same rfl) (.cons (.same rfl) (.cons (.same rfl) .nil))) rfl) rfl ?_) | (refine zv 71 rfl ?_; refine zY rfl (by kernel_rfl) rfl (zQ rfl c0 (.cons (.same rfl) (.cons (.same rfl) (.cons (.same rfl) .nil))) rfl) rfl ?_) | (refine zu 90 ?_; refine zc rfl (zQ rfl (vc x0 (by omega)) (.cons (.same rfl) .nil) rfl) rfl ?_) | (refine zv 90 rfl ?_; refine zY rfl (by kernel_rfl) rfl (zQ rfl (vc x0 (by omega)) (.cons (.same rfl) .nil) rfl) rfl ?_) | exact yG rfl rfl (by rw [e']) | refine zD ?_ | refine zB _ rfl (by kernel_rfl) ?_ | refine zV rfl ?_ | refine zW rfl ?_ | refine zC ?_ | with_reducible refine zN ?_ | refine zH ?_ | refine zI ?_ | (with_reducible first | refine zL ?_ | refine zM ?_ | refine zE ?_ | refine zG ?_ | refine zF ?_) | refine zO ?_
  · have e := dv h1 h2 (of_decide_eq_false h)
    repeat' first | refine zK ?_ | refine zA ?_ | refine zP [] ?_ | (refine isA ?_; refine zd rfl ?_) | (refine isL ?_; refine zU rfl (by kernel_rfl) rfl rfl ?_) | (refine zb rfl ?_; refine zT rfl (by kernel_rfl) rfl rfl ?_) | exact yG rfl rfl (by rw [e]) | refine zD ?_ | refine zB _ rfl (by kernel_rfl) ?_ | refine zV rfl ?_ | refine zW rfl ?_ | refine zC ?_ | with_reducible refine zN ?_ | refine zH ?_ | refine zI ?_ | (with_reducible first | refine zL ?_ | refine zM ?_ | refine zE ?_ | refine zG ?_ | refine zF ?_) | refine zO ?_
theorem mY (rs : List Rn) (hok : sK rs) (ht : tot rs ≤ 100000000) : zz Go.Proofs.Try.prog 80 [rnL rs] [] (.sl 0 0 rs.flatten.length) [rwR rs.flatten] false := by
  have hl := hok.1
  refine zw [2] Go.Proofs.Try.func80 rfl rfl ?_
  simp only [Go.Proofs.Try.ntmps80, List.length_cons, List.length_nil, Nat.reduceAdd, Nat.reduceSub, List.replicate_succ, List.replicate_zero, List.cons_append, List.nil_append]
  repeat' first | refine zK ?_ | refine zA ?_ | refine zP [] ?_ | (refine isA ?_; refine zd rfl ?_) | (refine isL ?_; refine zU rfl (by kernel_rfl) rfl rfl ?_) | (refine zb rfl ?_; refine zT rfl (by kernel_rfl) rfl rfl ?_) | refine zD ?_ | refine zB _ rfl (by kernel_rfl) ?_ | refine zV rfl ?_ | refine zW rfl ?_ | refine zC ?_ | with_reducible refine zN ?_ | refine zH ?_ | refine zI ?_ | (with_reducible first | refine zL ?_ | refine zM ?_ | refine zE ?_ | refine zG ?_ | refine zF ?_) | refine zO ?_
  refine z9 (α := { i : Nat // i ≤ rs.length }) (fun i => ⟨[.any, .any, .any, .sl 0 0 (rs.take i.1).flatten.length, .any, .any, .any, rnL rs, I rs.length, I i.1, .any, .any, .any, .any, .any, .any, .any, .any], [rwR (rs.take i.1).flatten], 0⟩) (fun i => rs.length - i.1) ⟨0, Nat.zero_le _⟩ ?_ ?_
  · exact yp rfl (by repeat' first | exact EqS.nil | refine EqS.any ?_ | refine EqS.same rfl ?_)
  · rintro ⟨i, hi⟩
    repeat' first | refine zK ?_ | refine zA ?_ | refine zP [] ?_ | (refine isA ?_; refine zd rfl ?_) | (refine isL ?_; refine zU rfl (by kernel_rfl) rfl rfl ?_) | (refine zb rfl ?_; refine zT rfl (by kernel_rfl) rfl rfl ?_) | refine zD ?_ | refine zB _ rfl (by kernel_rfl) ?_ | refine zV rfl ?_ | refine zW rfl ?_ | refine zC ?_ | with_reducible refine zN ?_ | refine zH ?_ | refine zI ?_ | (with_reducible first | refine zL ?_ | refine zM ?_ | refine zE ?_ | refine zG ?_ | refine zF ?_) | refine zO ?_
    refine zh rfl (fun h => ?_) (fun h => ?_)
    · have hlt : i < rs.length := by simpa using h
      obtain ⟨z, hz⟩ : ∃ z, rs[i]? = some z := ⟨_, List.getElem?_eq_getElem hlt⟩
      have h1 := n9 rs (i + 1)
      rw [sf hz] at h1
      have h2 := vj (rs.take i)
      repeat' first | refine zK ?_ | refine zA ?_ | refine zP [] ?_ | (refine isA ?_; refine zd rfl ?_) | (refine isL ?_; refine zU rfl (by kernel_rfl) rfl rfl ?_) | (refine zb rfl ?_; refine zT rfl (by kernel_rfl) rfl rfl ?_) | (refine yB ?_; refine zc rfl (z6 (t := rnT) (z := z) rfl rfl rfl rfl (Int.natCast_nonneg i) hz) rfl ?_) | (refine yA rfl ?_; refine zY rfl (by kernel_rfl) rfl (z6 (t := rnT) (z := z) rfl rfl rfl rfl (Int.natCast_nonneg i) hz) rfl ?_) | (refine xR ?_; refine zc rfl (yV (t := rwT) (xs := (rs.take i).flatten) (ys := z) rfl rfl rfl rfl (.lst _ _) (by omega) rfl) rfl ?_) | (refine xC rfl ?_; refine zY rfl (by kernel_rfl) rfl (yV (t := rwT) (xs := (rs.take i).flatten) (ys := z) rfl rfl rfl rfl (.lst _ _) (by omega) rfl) rfl ?_) | refine zD ?_ | refine zB _ rfl (by kernel_rfl) ?_ | refine zV rfl ?_ | refine zW rfl ?_ | refine zC ?_ | with_reducible refine zN ?_ | refine zH ?_ | refine zI ?_ | (with_reducible first | refine zL ?_ | refine zM ?_ | refine zE ?_ | refine zG ?_ | refine zF ?_) | refine zO ?_
      refine ⟨⟨i + 1, hlt⟩, by simp only; omega, ?_⟩
      exact ye [1] rfl rfl (by decide) (.cons rfl rfl rfl rfl (ym (by rw [vJ hz]) (zJ _ _)) .nil) (by
        repeat' first | exact zj | refine zZ ?_ ?_ | exact zp | exact le_refl rfl | exact zk rfl rfl | exact zk rfl (by rw [vJ hz, List.length_append]) | exact xZ (by assumption) (by omega))
    · have hge : i = rs.length := by
        have : ¬ ((i : Int) < rs.length) := by simpa using h
        omega
      subst hge
      repeat' first | refine zK ?_ | refine zA ?_ | refine zP [] ?_ | (refine isA ?_; refine zd rfl ?_) | (refine isL ?_; refine zU rfl (by kernel_rfl) rfl rfl ?_) | (refine zb rfl ?_; refine zT rfl (by kernel_rfl) rfl rfl ?_) | exact kT (ty := rwT) rfl rfl rfl rfl (by simp) (by simp) (xt _) | refine zD ?_ | refine zB _ rfl (by kernel_rfl) ?_ | refine zV rfl ?_ | refine zW rfl ?_ | refine zC ?_ | with_reducible refine zN ?_ | refine zH ?_ | refine zI ?_ | (with_reducible first | refine zL ?_ | refine zM ?_ | refine zE ?_ | refine zG ?_ | refine zF ?_) | refine zO ?_
end Go.Proofs.Ytojcojanokhnaaa.Ab
namespace Go.Proofs.Ytojcojanokhnaaa.Ab
open Go.RowKit
theorem qu (s : So) : uA s = (avR s.input && (inV s.pos 0 s.input.length && (avS s.runs && (!decide (s.wr < 0) && (v8 s.out && s.heap.all fun r => !bel r s.out))))) := by
  unfold uA
  congr 4
  rw [Bool.eq_iff_iff]
  simp
theorem mg {s : So} (h : uA s = false) : vS s = false := by unfold vS; rw [h, Bool.false_and]
theorem db {s : So} (h : uA s = true) (k : decide (s.ph = 1) = true) : vS s = se s := by unfold vS; rw [h, Bool.true_and, k, cond_true]
theorem da {s : So} (h : uA s = true) (k : decide (s.ph = 1) = false) : vS s = (ve s && cond (decide (s.ph = 2)) (vX s) (cond (decide (s.ph = 3)) (ui s) (cond (decide (s.ph = 4)) (uj s) false))) := by unfold vS; rw [h, Bool.true_and, k, cond_false]
theorem lL {s : So} {i : Nat} {z : Rw} (hz : s.heap[i]? = some z) (h : bel z s.out = true) : uA s = false := by
  have e : (s.heap.all fun r => !bel r s.out) = false := by
    rw [List.all_eq_false]
    exact ⟨z, List.mem_of_getElem? hz, by simp [h]⟩
  rw [qu, e]
  simp
theorem ne {s : So} (hb : (avR s.input && (inV s.pos 0 s.input.length && (avS s.runs && (!decide (s.wr < 0) && v8 s.out)))) = true) (h : ∀ j z, j < s.heap.length → s.heap[j]? = some z → bel z s.out = false) : uA s = true := by
  have e : (s.heap.all fun r => !bel r s.out) = true := List.all_eq_true.2 fun z hz => by
    obtain ⟨j, hj⟩ := List.getElem?_of_mem hz
    simp [h j z (List.getElem?_eq_some_iff.1 hj).1 hj]
  rw [qu, e]
  simp only [Bool.and_eq_true] at hb ⊢
  obtain ⟨a, b, c, d, e⟩ := hb
  exact ⟨a, b, c, d, e, trivial⟩
theorem to {xs out : List Rw} {i : Nat} {z : Rw} (hb : ∀ j z, j < i → xs[j]? = some z → bel z out = false) (hz : xs[i]? = some z) (h : bel z out = false) : ∀ j z, j < i + 1 → xs[j]? = some z → bel z out = false := fun j y hj hy => by
  rcases Nat.lt_or_ge j i with hlt | hge
  · exact hb j y hlt hy
  · obtain rfl : j = i := by omega
    rw [hz] at hy
    cases hy
    exact h
theorem mi (s : So) : se s = (decide (s.lp = 0) && (decide (s.rp = 0) && ((decide ((0 : Int) < (s.out.length : Int)) || decide ((s.dfr.length : Int) = 0)) && (decide (yi s ≤ 60) && eqB (s.runs.flatten ++ s.out ++ s.heap ++ s.dfr) (s.input.take s.pos.toNat))))) := by
  unfold se
  rw [show decide (0 < s.out.length) = decide ((0 : Int) < (s.out.length : Int)) from decide_eq_decide.2 (by omega), show decide (s.dfr.length = 0) = decide ((s.dfr.length : Int) = 0) from decide_eq_decide.2 (by omega)]
theorem eA (s : So) : ve s = (decide (s.pos = s.input.length) && (decide ((s.heap.length : Int) = 0) && (decide ((s.dfr.length : Int) = 0) && eqB s.runs.flatten s.input))) := by
  unfold ve
  rw [show decide (s.heap.length = 0) = decide ((s.heap.length : Int) = 0) from decide_eq_decide.2 (by omega), show decide (s.dfr.length = 0) = decide ((s.dfr.length : Int) = 0) from decide_eq_decide.2 (by omega)]
theorem mj (s : So) : uA s = (!(!avR s.input || (!inV s.pos 0 s.input.length || (!avS s.runs || (decide (s.wr < 0) || !v8 s.out)))) && s.heap.all fun r => !bel r s.out) := by
  rw [qu]
  cases avR s.input <;> cases inV s.pos 0 s.input.length <;> cases avS s.runs <;> cases decide (s.wr < 0) <;> cases v8 s.out <;> rfl
theorem mh (s : So) : ve s = !(!decide (s.pos = s.input.length) || (decide ((0 : Int) < (s.heap.length : Int)) || (decide ((0 : Int) < (s.dfr.length : Int)) || !eqB s.runs.flatten s.input))) := by
  rw [eA, show decide ((s.heap.length : Int) = 0) = !decide ((0 : Int) < (s.heap.length : Int)) from by rw [← decide_not]; exact decide_eq_decide.2 (by omega), show decide ((s.dfr.length : Int) = 0) = !decide ((0 : Int) < (s.dfr.length : Int)) from by rw [← decide_not]; exact decide_eq_decide.2 (by omega)]
  cases decide (s.pos = s.input.length) <;> cases decide ((0 : Int) < (s.heap.length : Int)) <;> cases decide ((0 : Int) < (s.dfr.length : Int)) <;> cases eqB s.runs.flatten s.input <;> rfl
theorem eD (s : So) (h : s.input.length ≤ 1000000000) : ui s = (decide ((s.runs.length : Int) = 1) && (inV s.lp 0 (IntKind.i64.wrap ((s.input.length : Int) - 1)) && (decide (s.rp = 0) && decide ((s.out.length : Int) = 0)))) := by
  unfold ui
  rw [show IntKind.i64.wrap ((s.input.length : Int) - 1) = (s.input.length : Int) - 1 by rw [IntKind.wrap_i64]; omega, show decide (s.runs.length = 1) = decide ((s.runs.length : Int) = 1) from decide_eq_decide.2 (by omega), show decide (s.out.length = 0) = decide ((s.out.length : Int) = 0) from decide_eq_decide.2 (by omega)]
theorem eE (s : So) : uj s = (decide ((s.runs.length : Int) ≤ 1) && (decide (s.lp = s.input.length) && (decide (s.rp = 0) && decide ((s.out.length : Int) = 0)))) := by
  unfold uj
  rw [show decide (s.runs.length ≤ 1) = decide ((s.runs.length : Int) ≤ 1) from decide_eq_decide.2 (by omega), show decide (s.out.length = 0) = decide ((s.out.length : Int) = 0) from decide_eq_decide.2 (by omega)]
theorem pn {s : So} (h : decide ((s.runs.length : Int) < 2) = true) : vX s = false := by
  have := of_decide_eq_true h
  unfold vX
  match hr : s.runs with
  | [] => rfl
  | [x] => rfl
  | x :: y :: rest => rw [hr] at this; simp at this; omega
theorem pq {rs : List Rn} (h : decide ((rs.length : Int) < 2) = false) : ∃ a b rest, rs = a :: b :: rest := by
  have := of_decide_eq_false h
  match rs with
  | [] => simp at this
  | [x] => simp at this
  | x :: y :: rest => exact ⟨x, y, rest, rfl⟩
theorem pp {s : So} {a b : Rn} {rest : List Rn} (hr : s.runs = a :: b :: rest) : vX s = (!(!inV s.lp 0 a.length || !inV s.rp 0 b.length) && (xj s.out (mgV (a.take s.lp.toNat) (b.take s.rp.toNat)) && xj s.out ((mgV a b).take (s.lp.toNat + s.rp.toNat)))) := by
  unfold vX
  rw [hr, Bool.eq_iff_iff]
  simp only [Bool.and_eq_true, Bool.not_eq_true', Bool.or_eq_false_iff, Bool.not_eq_false', and_assoc]
theorem tog4 (s : So) : [s.runs.flatten, s.out, s.heap, s.dfr].flatten = s.runs.flatten ++ s.out ++ s.heap ++ s.dfr := by simp
theorem c_ivS (s : So) (hok : okSo s) : zz Go.Proofs.Try.prog 17 [.agg (soE s)] [] (B (vS s)) [] false := by
  have g1 := hok.input
  have g2 := hok.heap
  have g3 := hok.dfr
  have g4 := hok.out
  have g5 := hok.rn
  have g6 := hok.tot
  have g7 := vj s.runs
  have a1 := tw s.input (by omega)
  have a2 := bG s.runs g5
  have a3 := ff s.out (by omega)
  have a4 := qL s hok
  have a5 := (dJ s.runs g5 (by omega)).frozen (zr rfl)
  have a6 := fh s.runs.flatten s.input (by omega) (by omega)
  refine zw [2] Go.Proofs.Try.func17 rfl rfl ?_
  simp only [Go.Proofs.Try.ntmps17, List.length_cons, List.length_nil, Nat.reduceAdd, Nat.reduceSub, List.replicate_succ, List.replicate_zero, List.cons_append, List.nil_append]
  repeat' first | refine zK ?_ | refine zA ?_ | refine zP [] ?_ | (refine isA ?_; refine zd rfl ?_) | (refine isL ?_; refine zU rfl (by kernel_rfl) rfl rfl ?_) | (refine zb rfl ?_; refine zT rfl (by kernel_rfl) rfl rfl ?_) | (refine zu 74 ?_; refine zc rfl (zQ rfl a1 (.cons (.same rfl) .nil) rfl) rfl ?_) | (refine zv 74 rfl ?_; refine zY rfl (by kernel_rfl) rfl (zQ rfl a1 (.cons (.same rfl) .nil) rfl) rfl ?_) | (refine zu 75 ?_; refine zc rfl (zQ rfl (wB _ _ _) (.cons (.same rfl) (.cons (.same rfl) (.cons (.same rfl) .nil))) rfl) rfl ?_) | (refine zv 75 rfl ?_; refine zY rfl (by kernel_rfl) rfl (zQ rfl (wB _ _ _) (.cons (.same rfl) (.cons (.same rfl) (.cons (.same rfl) .nil))) rfl) rfl ?_) | (refine zu 76 ?_; refine zc rfl (zQ rfl a2 (.cons (.same rfl) .nil) rfl) rfl ?_) | (refine zv 76 rfl ?_; refine zY rfl (by kernel_rfl) rfl (zQ rfl a2 (.cons (.same rfl) .nil) rfl) rfl ?_) | (refine zu 77 ?_; refine zc rfl (zQ rfl a3 (.cons (.same rfl) .nil) rfl) rfl ?_) | (refine zv 77 rfl ?_; refine zY rfl (by kernel_rfl) rfl (zQ rfl a3 (.cons (.same rfl) .nil) rfl) rfl ?_) | refine zD ?_ | refine zB _ rfl (by kernel_rfl) ?_ | refine zV rfl ?_ | refine zW rfl ?_ | refine zC ?_ | with_reducible refine zN ?_ | refine zH ?_ | refine zI ?_ | (with_reducible first | refine zL ?_ | refine zM ?_ | refine zE ?_ | refine zG ?_ | refine zF ?_) | refine zO ?_ | refine zh rfl (fun hbr => ?_) (fun hbr => ?_) | (refine wg ?_; refine yW rfl rfl (fun hbr => ?_) (fun hbr => ?_) <;> (fail_if_success (with_reducible (have hx : true = true := hbr))) <;> (fail_if_success (with_reducible (have hx : false = false := hbr)))) | (refine zb rfl ?_; refine yK rfl rfl rfl rfl (fun hbr => ?_) (fun hbr => ?_) <;> (fail_if_success (with_reducible (have hx : true = true := hbr))) <;> (fail_if_success (with_reducible (have hx : false = false := hbr))))
  all_goals first
    | exact yG rfl rfl (congrArg B (mg (by rw [mj]; simp only [*, Bool.true_or, Bool.false_or, Bool.or_true, Bool.or_false, Bool.true_and, Bool.false_and, Bool.and_true, Bool.and_false, Bool.not_true, Bool.not_false, cond_true, cond_false])).symm)
    | skip
  have hq : (avR s.input && (inV s.pos 0 s.input.length && (avS s.runs && (!decide (s.wr < 0) && v8 s.out)))) = true := by
    simp only [Bool.not_eq_false'] at *
    simp only [*, Bool.true_and, Bool.not_false]
  refine z9 (α := { i : Nat // i ≤ s.heap.length ∧ ∀ j z, j < i → s.heap[j]? = some z → bel z s.out = false }) (fun i => ⟨(.any :: .any :: .any :: (.ptr 1 0) :: .any :: .any :: .any :: .any :: .any :: .any :: .any :: .any :: .any :: .any :: .any :: .any :: .any :: .any :: .any :: .any :: .any :: .any :: .any :: .any :: .any :: .any :: .any :: .any :: .any :: .any :: .any :: .any :: .any :: .any :: .any :: .any :: .any :: .any :: .any :: .any :: .any :: (rwL s.heap) :: (I s.heap.length) :: (I i.1) :: .any :: .any :: .any :: .any :: .any :: .any :: .any :: .any :: .any :: .any :: .any :: .any :: .any :: .any :: .any :: .any :: .any :: .any :: .any :: .any :: .any :: .any :: .any :: .any :: .any :: .any :: .any :: .any :: .any :: .any :: .any :: .any :: .any :: .any :: .any :: .any :: .any :: .any :: .any :: .any :: .any :: .any :: .any :: .any :: .any :: .any :: .any :: .any :: .any :: .any :: .any :: .any :: .any :: .any :: .any :: .any :: .any :: .any :: .any :: .any :: .any :: .any :: .any :: .any :: .any :: .any :: .any :: .any :: .any :: .any :: .any :: .any :: .any :: .any :: .any :: .any :: .any :: .any :: .any :: .any :: .any :: .any :: .any :: .any :: .any :: .any :: .any :: .any :: .any :: .any :: .any :: .any :: .any :: .any :: .any :: .any :: .any :: .any :: .any :: .any :: .any :: .any :: .any :: .any :: .any :: .any :: .any :: .any :: .any :: .any :: .any :: .any :: .any :: .any :: .any :: .any :: .any :: .any :: .any :: .any :: .any :: .any :: .any :: .any :: .any :: .any :: .any :: .any :: .any :: .any :: .any :: .any :: .any :: .any :: .any :: .any :: .any :: .any :: .any :: .any :: .any :: .any :: .any :: .any :: .any :: .any :: .any :: .any :: .any :: .any :: .any :: .any :: .any :: .any :: .any :: .any :: .any :: .any :: .any :: .any :: .any :: .any :: .any :: .any :: .any :: .any :: .any :: .any :: .any :: .any :: .any :: .any :: .any :: .any :: .any :: .any :: .any :: .any :: .any :: .any :: .any :: .any :: .any :: .any :: .any :: .any :: .any :: .any :: .any :: .any :: []), [⟨27, 10, soE s, 0⟩, ⟨27, 10, soE s, 0⟩], 0⟩) (fun i => s.heap.length - i.1) ⟨0, Nat.zero_le _, fun j z h => absurd h (Nat.not_lt_zero j)⟩ ?_ ?_
  · exact ye [0, 1] rfl rfl (by decide) (by repeat' first | exact HLes.nil | refine HLes.cons rfl rfl rfl rfl ?_ ?_ | exact zj | refine zZ ?_ ?_ | exact zp | exact le_refl rfl | exact zk rfl rfl | exact zx rfl) (by repeat' first | exact zj | refine zZ ?_ ?_ | exact zp | exact le_refl rfl | exact zk rfl rfl | exact zx rfl)
  · rintro ⟨i, hi, hb⟩
    repeat' first | refine zK ?_ | refine zA ?_ | refine zP [] ?_ | (refine isA ?_; refine zd rfl ?_) | (refine isL ?_; refine zU rfl (by kernel_rfl) rfl rfl ?_) | (refine zb rfl ?_; refine zT rfl (by kernel_rfl) rfl rfl ?_) | refine zD ?_ | refine zB _ rfl (by kernel_rfl) ?_ | refine zV rfl ?_ | refine zW rfl ?_ | refine zC ?_ | with_reducible refine zN ?_ | refine zH ?_ | refine zI ?_ | (with_reducible first | refine zL ?_ | refine zM ?_ | refine zE ?_ | refine zG ?_ | refine zF ?_) | refine zO ?_
    refine zh rfl (fun h => ?_) (fun h => ?_)
    · have hlt : i < s.heap.length := by simpa using h
      obtain ⟨z, hz⟩ : ∃ z, s.heap[i]? = some z := ⟨_, List.getElem?_eq_getElem hlt⟩
      repeat' first | refine zK ?_ | refine zA ?_ | refine zP [] ?_ | (refine isA ?_; refine zd rfl ?_) | (refine isL ?_; refine zU rfl (by kernel_rfl) rfl rfl ?_) | (refine zb rfl ?_; refine zT rfl (by kernel_rfl) rfl rfl ?_) | (refine yB ?_; refine zc rfl (z6 (t := rwT) (z := z) rfl rfl rfl rfl (Int.natCast_nonneg i) hz) rfl ?_) | (refine yA rfl ?_; refine zY rfl (by kernel_rfl) rfl (z6 (t := rwT) (z := z) rfl rfl rfl rfl (Int.natCast_nonneg i) hz) rfl ?_) | (refine zu 59 ?_; refine zc rfl (zQ rfl (pf z s.out (by omega)) (.cons (.same rfl) (.cons (.same rfl) .nil)) rfl) rfl ?_) | (refine zv 59 rfl ?_; refine zY rfl (by kernel_rfl) rfl (zQ rfl (pf z s.out (by omega)) (.cons (.same rfl) (.cons (.same rfl) .nil)) rfl) rfl ?_) | refine zD ?_ | refine zB _ rfl (by kernel_rfl) ?_ | refine zV rfl ?_ | refine zW rfl ?_ | refine zC ?_ | with_reducible refine zN ?_ | refine zH ?_ | refine zI ?_ | (with_reducible first | refine zL ?_ | refine zM ?_ | refine zE ?_ | refine zG ?_ | refine zF ?_) | refine zO ?_
      refine zh rfl (fun p => ?_) (fun p => ?_)
      · repeat' first | refine zK ?_ | refine zA ?_ | refine zP [] ?_ | (refine isA ?_; refine zd rfl ?_) | (refine isL ?_; refine zU rfl (by kernel_rfl) rfl rfl ?_) | (refine zb rfl ?_; refine zT rfl (by kernel_rfl) rfl rfl ?_) | exact yG rfl rfl (congrArg B (mg (lL hz p)).symm) | refine zD ?_ | refine zB _ rfl (by kernel_rfl) ?_ | refine zV rfl ?_ | refine zW rfl ?_ | refine zC ?_ | with_reducible refine zN ?_ | refine zH ?_ | refine zI ?_ | (with_reducible first | refine zL ?_ | refine zM ?_ | refine zE ?_ | refine zG ?_ | refine zF ?_) | refine zO ?_
      · repeat' first | refine zK ?_ | refine zA ?_ | refine zP [] ?_ | (refine isA ?_; refine zd rfl ?_) | (refine isL ?_; refine zU rfl (by kernel_rfl) rfl rfl ?_) | (refine zb rfl ?_; refine zT rfl (by kernel_rfl) rfl rfl ?_) | refine zD ?_ | refine zB _ rfl (by kernel_rfl) ?_ | refine zV rfl ?_ | refine zW rfl ?_ | refine zC ?_ | with_reducible refine zN ?_ | refine zH ?_ | refine zI ?_ | (with_reducible first | refine zL ?_ | refine zM ?_ | refine zE ?_ | refine zG ?_ | refine zF ?_) | refine zO ?_
        refine ⟨⟨i + 1, hlt, to hb hz p⟩, by simp only; omega, ?_⟩
        exact ye [0, 1] rfl rfl (by decide) (by repeat' first | exact HLes.nil | refine HLes.cons rfl rfl rfl rfl ?_ ?_ | exact zj | refine zZ ?_ ?_ | exact zp | exact le_refl rfl | exact zk rfl rfl | exact zx rfl) (by repeat' first | exact zj | refine zZ ?_ ?_ | exact zp | exact le_refl rfl | exact zk rfl rfl | exact zx rfl | exact xZ (by assumption) (by omega))
    · have hge : i = s.heap.length := by
        have : ¬ ((i : Int) < s.heap.length) := by simpa using h
        omega
      subst hge
      have hB := ne hq hb
      have e1 := db hB
      have e2 := da hB
      simp only [Bool.and_eq_true, xG] at hq
      obtain ⟨hv0, ⟨hp0, hp1⟩, hv1, hv2, hv3⟩ := hq
      repeat' first | refine zK ?_ | refine zA ?_ | refine zP [] ?_ | (refine isA ?_; refine zd rfl ?_) | (refine isL ?_; refine zU rfl (by kernel_rfl) rfl rfl ?_) | (refine zb rfl ?_; refine zT rfl (by kernel_rfl) rfl rfl ?_) | (refine zu 78 ?_; refine zc rfl (zQ rfl a5 (.cons (.same rfl) .nil) rfl) rfl ?_) | (refine zv 78 rfl ?_; refine zY rfl (by kernel_rfl) rfl (zQ rfl a5 (.cons (.same rfl) .nil) rfl) rfl ?_) | refine zD ?_ | refine zB _ rfl (by kernel_rfl) ?_ | refine zV rfl ?_ | refine zW rfl ?_ | refine zC ?_ | with_reducible refine zN ?_ | refine zH ?_ | refine zI ?_ | (with_reducible first | refine zL ?_ | refine zM ?_ | refine zE ?_ | refine zG ?_ | refine zF ?_) | refine zO ?_
      refine zh rfl (fun h => ?_) (fun h => ?_)
      · have e1 := e1 h
        rw [mi] at e1
        have hp : s.pos = ((s.pos.toNat : Nat) : Int) := by omega
        have t4 := tog4 s
        have a7 := (mY [s.runs.flatten, s.out, s.heap, s.dfr] ⟨by simp, fun x hx => by simp at hx; rcases hx with rfl | rfl | rfl | rfl <;> omega⟩ (by show ([s.runs.flatten, s.out, s.heap, s.dfr].map List.length).sum ≤ _; simp only [List.map_cons, List.map_nil, List.sum_cons, List.sum_nil]; omega)).frozen (zr rfl)
        rw [t4] at a7
        have a8 := fh (s.runs.flatten ++ s.out ++ s.heap ++ s.dfr) (s.input.take s.pos.toNat) (by rw [List.length_append, List.length_append, List.length_append]; omega) (by simp; omega)
        repeat' first | refine zK ?_ | refine zA ?_ | refine zP [] ?_ | (refine isA ?_; refine zd rfl ?_) | (refine isL ?_; refine zU rfl (by kernel_rfl) rfl rfl ?_) | (refine zb rfl ?_; refine zT rfl (by kernel_rfl) rfl rfl ?_) | refine zc rfl (yS rfl rfl rfl rfl rfl) rfl ?_ | refine zY rfl (by kernel_rfl) rfl (yS rfl rfl rfl rfl rfl) rfl ?_ | (refine zu 19 ?_; refine zc rfl (zQ rfl a4 (.cons (.same rfl) .nil) rfl) rfl ?_) | (refine zv 19 rfl ?_; refine zY rfl (by kernel_rfl) rfl (zQ rfl a4 (.cons (.same rfl) .nil) rfl) rfl ?_) | (refine zu 80 ?_; refine zc rfl (zQ rfl a7 (.cons (.same rfl) .nil) rfl) rfl ?_) | (refine zv 80 rfl ?_; refine zY rfl (by kernel_rfl) rfl (zQ rfl a7 (.cons (.same rfl) .nil) rfl) rfl ?_) | (refine zu 79 ?_; refine zc rfl (zQ rfl a8 (.cons (.same rfl) (.cons (.same rfl) .nil)) rfl) rfl ?_) | (refine zv 79 rfl ?_; refine zY rfl (by kernel_rfl) rfl (zQ rfl a8 (.cons (.same rfl) (.cons (.same rfl) .nil)) rfl) rfl ?_) | (refine uN (x := .tmp 94) ?_; refine zc rfl (yj rfl rfl (congrArg I hp) (by omega)) rfl ?_) | (refine uM (x := .tmp 94) rfl ?_; refine zY rfl (by kernel_rfl) rfl (yj rfl rfl (congrArg I hp) (by omega)) rfl ?_) | refine zD ?_ | refine zB _ rfl (by kernel_rfl) ?_ | refine zV rfl ?_ | refine zW rfl ?_ | refine zC ?_ | with_reducible refine zN ?_ | refine zH ?_ | refine zI ?_ | (with_reducible first | refine zL ?_ | refine zM ?_ | refine zE ?_ | refine zG ?_ | refine zF ?_) | refine zO ?_ | refine zh rfl (fun hbr => ?_) (fun hbr => ?_) | (refine wg ?_; refine yW rfl rfl (fun hbr => ?_) (fun hbr => ?_) <;> (fail_if_success (with_reducible (have hx : true = true := hbr))) <;> (fail_if_success (with_reducible (have hx : false = false := hbr)))) | (refine zb rfl ?_; refine yK rfl rfl rfl rfl (fun hbr => ?_) (fun hbr => ?_) <;> (fail_if_success (with_reducible (have hx : true = true := hbr))) <;> (fail_if_success (with_reducible (have hx : false = false := hbr))))
        all_goals exact yG rfl rfl (congrArg B (by rw [e1]; clear e1 e2 hp; simp only [*, Bool.true_or, Bool.false_or, Bool.or_true, Bool.or_false, Bool.true_and, Bool.false_and, Bool.and_true, Bool.and_false, Bool.not_true, Bool.not_false, cond_true, cond_false]))
      · have e2 := e2 h
        rw [mh] at e2
        repeat' first | refine zK ?_ | refine zA ?_ | refine zP [] ?_ | (refine isA ?_; refine zd rfl ?_) | (refine isL ?_; refine zU rfl (by kernel_rfl) rfl rfl ?_) | (refine zb rfl ?_; refine zT rfl (by kernel_rfl) rfl rfl ?_) | (refine zu 79 ?_; refine zc rfl (zQ rfl a6 (.cons (.same rfl) (.cons (.same rfl) .nil)) rfl) rfl ?_) | (refine zv 79 rfl ?_; refine zY rfl (by kernel_rfl) rfl (zQ rfl a6 (.cons (.same rfl) (.cons (.same rfl) .nil)) rfl) rfl ?_) | refine zD ?_ | refine zB _ rfl (by kernel_rfl) ?_ | refine zV rfl ?_ | refine zW rfl ?_ | refine zC ?_ | with_reducible refine zN ?_ | refine zH ?_ | refine zI ?_ | (with_reducible first | refine zL ?_ | refine zM ?_ | refine zE ?_ | refine zG ?_ | refine zF ?_) | refine zO ?_ | (refine wg ?_; refine yW rfl rfl (fun hbr => ?_) (fun hbr => ?_) <;> (fail_if_success (with_reducible (have hx : true = true := hbr))) <;> (fail_if_success (with_reducible (have hx : false = false := hbr)))) | (refine zb rfl ?_; refine yK rfl rfl rfl rfl (fun hbr => ?_) (fun hbr => ?_) <;> (fail_if_success (with_reducible (have hx : true = true := hbr))) <;> (fail_if_success (with_reducible (have hx : false = false := hbr))))
        all_goals first
          | exact yG rfl rfl (congrArg B (by rw [e2]; clear e1 e2; simp only [*, Bool.true_or, Bool.false_or, Bool.or_true, Bool.or_false, Bool.true_and, Bool.false_and, Bool.and_true, Bool.and_false, Bool.not_true, Bool.not_false, cond_true, cond_false]))
          | skip
        refine zh rfl (fun q => ?_) (fun q => ?_)
        · repeat' first | refine zK ?_ | refine zA ?_ | refine zP [] ?_ | (refine isA ?_; refine zd rfl ?_) | (refine isL ?_; refine zU rfl (by kernel_rfl) rfl rfl ?_) | (refine zb rfl ?_; refine zT rfl (by kernel_rfl) rfl rfl ?_) | exact yG rfl rfl (congrArg B (by rw [e2]; clear e1 e2; simp only [*, Bool.true_or, Bool.false_or, Bool.or_true, Bool.or_false, Bool.true_and, Bool.false_and, Bool.and_true, Bool.and_false, Bool.not_true, Bool.not_false, cond_true, cond_false])) | refine zD ?_ | refine zB _ rfl (by kernel_rfl) ?_ | refine zV rfl ?_ | refine zW rfl ?_ | refine zC ?_ | with_reducible refine zN ?_ | refine zH ?_ | refine zI ?_ | (with_reducible first | refine zL ?_ | refine zM ?_ | refine zE ?_ | refine zG ?_ | refine zF ?_) | refine zO ?_
        have e3 : vS s = cond (decide (s.ph = 2)) (vX s) (cond (decide (s.ph = 3)) (ui s) (cond (decide (s.ph = 4)) (uj s) false)) := by
          rw [e2]
          clear e1 e2
          simp only [*, Bool.true_or, Bool.false_or, Bool.or_true, Bool.or_false, Bool.true_and, Bool.false_and, Bool.and_true, Bool.and_false, Bool.not_true, Bool.not_false, cond_true, cond_false]
        clear e1 e2
        repeat' first | refine zK ?_ | refine zA ?_ | refine zP [] ?_ | (refine isA ?_; refine zd rfl ?_) | (refine isL ?_; refine zU rfl (by kernel_rfl) rfl rfl ?_) | (refine zb rfl ?_; refine zT rfl (by kernel_rfl) rfl rfl ?_) | refine zD ?_ | refine zB _ rfl (by kernel_rfl) ?_ | refine zV rfl ?_ | refine zW rfl ?_ | refine zC ?_ | with_reducible refine zN ?_ | refine zH ?_ | refine zI ?_ | (with_reducible first | refine zL ?_ | refine zM ?_ | refine zE ?_ | refine zG ?_ | refine zF ?_) | refine zO ?_
        refine zh rfl (fun h2 => ?_) (fun h2 => ?_)
        · rw [h2, cond_true] at e3
          repeat' first | refine zK ?_ | refine zA ?_ | refine zP [] ?_ | (refine isA ?_; refine zd rfl ?_) | (refine isL ?_; refine zU rfl (by kernel_rfl) rfl rfl ?_) | (refine zb rfl ?_; refine zT rfl (by kernel_rfl) rfl rfl ?_) | refine zD ?_ | refine zB _ rfl (by kernel_rfl) ?_ | refine zV rfl ?_ | refine zW rfl ?_ | refine zC ?_ | with_reducible refine zN ?_ | refine zH ?_ | refine zI ?_ | (with_reducible first | refine zL ?_ | refine zM ?_ | refine zE ?_ | refine zG ?_ | refine zF ?_) | refine zO ?_
          refine zh rfl (fun h3 => ?_) (fun h3 => ?_)
          · repeat' first | refine zK ?_ | refine zA ?_ | refine zP [] ?_ | (refine isA ?_; refine zd rfl ?_) | (refine isL ?_; refine zU rfl (by kernel_rfl) rfl rfl ?_) | (refine zb rfl ?_; refine zT rfl (by kernel_rfl) rfl rfl ?_) | exact yG rfl rfl (congrArg B (by rw [e3, pn h3])) | refine zD ?_ | refine zB _ rfl (by kernel_rfl) ?_ | refine zV rfl ?_ | refine zW rfl ?_ | refine zC ?_ | with_reducible refine zN ?_ | refine zH ?_ | refine zI ?_ | (with_reducible first | refine zL ?_ | refine zM ?_ | refine zE ?_ | refine zG ?_ | refine zF ?_) | refine zO ?_
          · obtain ⟨a, b, rest, hr⟩ := pq h3
            rw [pp hr] at e3
            have ra : s.runs[0]? = some a := by rw [hr]; rfl
            have rb : s.runs[1]? = some b := by rw [hr]; rfl
            have la := g5.at ra
            have lb := g5.at rb
            have lab : a.length + b.length ≤ 10000000 := by rw [hr] at g6; simp only [tot, List.map_cons, List.sum_cons] at g6; omega
            repeat' first | refine zK ?_ | refine zA ?_ | refine zP [] ?_ | (refine isA ?_; refine zd rfl ?_) | (refine isL ?_; refine zU rfl (by kernel_rfl) rfl rfl ?_) | (refine zb rfl ?_; refine zT rfl (by kernel_rfl) rfl rfl ?_) | (refine zu 75 ?_; refine zc rfl (zQ rfl (wB _ _ _) (.cons (.same rfl) (.cons (.same rfl) (.cons (.same rfl) .nil))) rfl) rfl ?_) | (refine zv 75 rfl ?_; refine zY rfl (by kernel_rfl) rfl (zQ rfl (wB _ _ _) (.cons (.same rfl) (.cons (.same rfl) (.cons (.same rfl) .nil))) rfl) rfl ?_) | (refine yB (x := .tmp 134) ?_; refine zc rfl (z6 (t := rnT) (z := a) rfl rfl rfl rfl (Int.natCast_nonneg 0) ra) rfl ?_) | (refine yA (x := .tmp 134) rfl ?_; refine zY rfl (by kernel_rfl) rfl (z6 (t := rnT) (z := a) rfl rfl rfl rfl (Int.natCast_nonneg 0) ra) rfl ?_) | (refine yB (x := .tmp 139) ?_; refine zc rfl (z6 (t := rnT) (z := b) rfl rfl rfl rfl (Int.natCast_nonneg 1) rb) rfl ?_) | (refine yA (x := .tmp 139) rfl ?_; refine zY rfl (by kernel_rfl) rfl (z6 (t := rnT) (z := b) rfl rfl rfl rfl (Int.natCast_nonneg 1) rb) rfl ?_) | refine zD ?_ | refine zB _ rfl (by kernel_rfl) ?_ | refine zV rfl ?_ | refine zW rfl ?_ | refine zC ?_ | with_reducible refine zN ?_ | refine zH ?_ | refine zI ?_ | (with_reducible first | refine zL ?_ | refine zM ?_ | refine zE ?_ | refine zG ?_ | refine zF ?_) | refine zO ?_ | (refine wg ?_; refine yW rfl rfl (fun hbr => ?_) (fun hbr => ?_) <;> (fail_if_success (with_reducible (have hx : true = true := hbr))) <;> (fail_if_success (with_reducible (have hx : false = false := hbr)))) | (refine zb rfl ?_; refine yK rfl rfl rfl rfl (fun hbr => ?_) (fun hbr => ?_) <;> (fail_if_success (with_reducible (have hx : true = true := hbr))) <;> (fail_if_success (with_reducible (have hx : false = false := hbr))))
            all_goals first
              | exact yG rfl rfl (congrArg B (by rw [e3]; simp only [*, Bool.true_or, Bool.false_or, Bool.or_true, Bool.or_false, Bool.true_and, Bool.false_and, Bool.and_true, Bool.and_false, Bool.not_true, Bool.not_false, cond_true, cond_false]))
              | skip
            refine zh rfl (fun p => ?_) (fun p => ?_)
            · repeat' first | refine zK ?_ | refine zA ?_ | refine zP [] ?_ | (refine isA ?_; refine zd rfl ?_) | (refine isL ?_; refine zU rfl (by kernel_rfl) rfl rfl ?_) | (refine zb rfl ?_; refine zT rfl (by kernel_rfl) rfl rfl ?_) | exact yG rfl rfl (congrArg B (by rw [e3]; simp only [*, Bool.true_or, Bool.false_or, Bool.or_true, Bool.or_false, Bool.true_and, Bool.false_and, Bool.and_true, Bool.and_false, Bool.not_true, Bool.not_false, cond_true, cond_false])) | refine zD ?_ | refine zB _ rfl (by kernel_rfl) ?_ | refine zV rfl ?_ | refine zW rfl ?_ | refine zC ?_ | with_reducible refine zN ?_ | refine zH ?_ | refine zI ?_ | (with_reducible first | refine zL ?_ | refine zM ?_ | refine zE ?_ | refine zG ?_ | refine zF ?_) | refine zO ?_
            have p1 : (!inV s.lp 0 a.length) = false := by assumption
            have p1 : inV s.lp 0 a.length = true := by simpa using p1
            have p2 : inV s.rp 0 b.length = true := by simpa using p
            rw [p1, p2] at e3
            simp only [Bool.true_or, Bool.false_or, Bool.or_true, Bool.or_false, Bool.true_and, Bool.false_and, Bool.and_true, Bool.and_false, Bool.not_true, Bool.not_false, cond_true, cond_false] at e3
            obtain ⟨q1, q2⟩ := xG.1 p1
            obtain ⟨q3, q4⟩ := xG.1 p2
            obtain ⟨i, hi⟩ := Int.eq_ofNat_of_zero_le q1
            obtain ⟨j, hj⟩ := Int.eq_ofNat_of_zero_le q3
            have ei : s.lp.toNat = i := by omega
            have ej : s.rp.toNat = j := by omega
            rw [ei, ej] at e3
            have w1 : IntKind.i64.wrap (s.lp + s.rp) = ((i + j : Nat) : Int) := by rw [hi, hj, IntKind.wrap_i64]; omega
            have li : (a.take i).length ≤ 100000000 := by simp; omega
            have lj : (b.take j).length ≤ 100000000 := by simp; omega
            have m1 := (cA (a.take i) (b.take j) li lj).frozen (zr rfl)
            have m2 := (cA a b (by omega) (by omega)).frozen (zr rfl)
            have n2 := tl a b
            have x1 := qM s.out (mgV (a.take i) (b.take j)) (by omega)
            have x2 := qM s.out ((mgV a b).take (i + j)) (by omega)
            generalize mgV (a.take i) (b.take j) = M1 at m1 x1 e3
            generalize mgV a b = M2 at m2 x2 e3 n2
            repeat' first | refine zK ?_ | refine zA ?_ | refine zP [] ?_ | (refine isA ?_; refine zd rfl ?_) | (refine isL ?_; refine zU rfl (by kernel_rfl) rfl rfl ?_) | (refine zb rfl ?_; refine zT rfl (by kernel_rfl) rfl rfl ?_) | (refine uN (x := .tmp 159) ?_; refine zc rfl (yj rfl rfl (congrArg I hi) (by omega)) rfl ?_) | (refine uM (x := .tmp 159) rfl ?_; refine zY rfl (by kernel_rfl) rfl (yj rfl rfl (congrArg I hi) (by omega)) rfl ?_) | (refine uN (x := .tmp 163) ?_; refine zc rfl (yj rfl rfl (congrArg I hj) (by omega)) rfl ?_) | (refine uM (x := .tmp 163) rfl ?_; refine zY rfl (by kernel_rfl) rfl (yj rfl rfl (congrArg I hj) (by omega)) rfl ?_) | (refine uN (x := .tmp 174) ?_; refine zc rfl (yj rfl rfl (congrArg I w1) (by omega)) rfl ?_) | (refine uM (x := .tmp 174) rfl ?_; refine zY rfl (by kernel_rfl) rfl (yj rfl rfl (congrArg I w1) (by omega)) rfl ?_) | (refine zu 82 (x := #[.tmp 162, .tmp 166]) ?_; refine zc rfl (zQ rfl m1 (.cons (.same rfl) (.cons (.same rfl) .nil)) rfl) rfl ?_) | (refine zv 82 (x := #[.tmp 162, .tmp 166]) rfl ?_; refine zY rfl (by kernel_rfl) rfl (zQ rfl m1 (.cons (.same rfl) (.cons (.same rfl) .nil)) rfl) rfl ?_) | (refine zu 82 (x := #[.tmp 172, .tmp 173]) ?_; refine zc rfl (zQ rfl m2 (.cons (.same rfl) (.cons (.same rfl) .nil)) rfl) rfl ?_) | (refine zv 82 (x := #[.tmp 172, .tmp 173]) rfl ?_; refine zY rfl (by kernel_rfl) rfl (zQ rfl m2 (.cons (.same rfl) (.cons (.same rfl) .nil)) rfl) rfl ?_) | (refine zu 81 (x := #[.tmp 158, .tmp 167]) ?_; refine zc rfl (zQ rfl x1 (.cons (.same rfl) (.cons (.same rfl) .nil)) rfl) rfl ?_) | (refine zv 81 (x := #[.tmp 158, .tmp 167]) rfl ?_; refine zY rfl (by kernel_rfl) rfl (zQ rfl x1 (.cons (.same rfl) (.cons (.same rfl) .nil)) rfl) rfl ?_) | (refine zu 81 (x := #[.tmp 171, .tmp 180]) ?_; refine zc rfl (zQ rfl x2 (.cons (.same rfl) (.cons (.same rfl) .nil)) rfl) rfl ?_) | (refine zv 81 (x := #[.tmp 171, .tmp 180]) rfl ?_; refine zY rfl (by kernel_rfl) rfl (zQ rfl x2 (.cons (.same rfl) (.cons (.same rfl) .nil)) rfl) rfl ?_) | refine zD ?_ | refine zB _ rfl (by kernel_rfl) ?_ | refine zV rfl ?_ | refine zW rfl ?_ | refine zC ?_ | with_reducible refine zN ?_ | refine zH ?_ | refine zI ?_ | (with_reducible first | refine zL ?_ | refine zM ?_ | refine zE ?_ | refine zG ?_ | refine zF ?_) | refine zO ?_ | (refine wg ?_; refine yW rfl rfl (fun hbr => ?_) (fun hbr => ?_) <;> (fail_if_success (with_reducible (have hx : true = true := hbr))) <;> (fail_if_success (with_reducible (have hx : false = false := hbr)))) | (refine zb rfl ?_; refine yK rfl rfl rfl rfl (fun hbr => ?_) (fun hbr => ?_) <;> (fail_if_success (with_reducible (have hx : true = true := hbr))) <;> (fail_if_success (with_reducible (have hx : false = false := hbr))))
            all_goals exact yG rfl rfl (congrArg B (by rw [e3]; clear hi hj q1 q2 q3 q4; simp only [*, Bool.true_or, Bool.false_or, Bool.or_true, Bool.or_false, Bool.true_and, Bool.false_and, Bool.and_true, Bool.and_false, Bool.not_true, Bool.not_false, cond_true, cond_false]))
        · rw [h2, cond_false] at e3
          repeat' first | refine zK ?_ | refine zA ?_ | refine zP [] ?_ | (refine isA ?_; refine zd rfl ?_) | (refine isL ?_; refine zU rfl (by kernel_rfl) rfl rfl ?_) | (refine zb rfl ?_; refine zT rfl (by kernel_rfl) rfl rfl ?_) | refine zD ?_ | refine zB _ rfl (by kernel_rfl) ?_ | refine zV rfl ?_ | refine zW rfl ?_ | refine zC ?_ | with_reducible refine zN ?_ | refine zH ?_ | refine zI ?_ | (with_reducible first | refine zL ?_ | refine zM ?_ | refine zE ?_ | refine zG ?_ | refine zF ?_) | refine zO ?_
          refine zh rfl (fun h3 => ?_) (fun h3 => ?_)
          · rw [h3, cond_true, eD s (by omega)] at e3
            repeat' first | refine zK ?_ | refine zA ?_ | refine zP [] ?_ | (refine isA ?_; refine zd rfl ?_) | (refine isL ?_; refine zU rfl (by kernel_rfl) rfl rfl ?_) | (refine zb rfl ?_; refine zT rfl (by kernel_rfl) rfl rfl ?_) | (refine zu 75 ?_; refine zc rfl (zQ rfl (wB _ _ _) (.cons (.same rfl) (.cons (.same rfl) (.cons (.same rfl) .nil))) rfl) rfl ?_) | (refine zv 75 rfl ?_; refine zY rfl (by kernel_rfl) rfl (zQ rfl (wB _ _ _) (.cons (.same rfl) (.cons (.same rfl) (.cons (.same rfl) .nil))) rfl) rfl ?_) | refine zD ?_ | refine zB _ rfl (by kernel_rfl) ?_ | refine zV rfl ?_ | refine zW rfl ?_ | refine zC ?_ | with_reducible refine zN ?_ | refine zH ?_ | refine zI ?_ | (with_reducible first | refine zL ?_ | refine zM ?_ | refine zE ?_ | refine zG ?_ | refine zF ?_) | refine zO ?_ | (refine wg ?_; refine yW rfl rfl (fun hbr => ?_) (fun hbr => ?_) <;> (fail_if_success (with_reducible (have hx : true = true := hbr))) <;> (fail_if_success (with_reducible (have hx : false = false := hbr)))) | (refine zb rfl ?_; refine yK rfl rfl rfl rfl (fun hbr => ?_) (fun hbr => ?_) <;> (fail_if_success (with_reducible (have hx : true = true := hbr))) <;> (fail_if_success (with_reducible (have hx : false = false := hbr))))
            all_goals exact yG rfl rfl (congrArg B (by rw [e3]; simp only [*, Bool.true_or, Bool.false_or, Bool.or_true, Bool.or_false, Bool.true_and, Bool.false_and, Bool.and_true, Bool.and_false, Bool.not_true, Bool.not_false, cond_true, cond_false]))
          · rw [h3, cond_false] at e3
            repeat' first | refine zK ?_ | refine zA ?_ | refine zP [] ?_ | (refine isA ?_; refine zd rfl ?_) | (refine isL ?_; refine zU rfl (by kernel_rfl) rfl rfl ?_) | (refine zb rfl ?_; refine zT rfl (by kernel_rfl) rfl rfl ?_) | refine zD ?_ | refine zB _ rfl (by kernel_rfl) ?_ | refine zV rfl ?_ | refine zW rfl ?_ | refine zC ?_ | with_reducible refine zN ?_ | refine zH ?_ | refine zI ?_ | (with_reducible first | refine zL ?_ | refine zM ?_ | refine zE ?_ | refine zG ?_ | refine zF ?_) | refine zO ?_
            refine zh rfl (fun h4 => ?_) (fun h4 => ?_)
            · rw [h4, cond_true, eE s] at e3
              repeat' first | refine zK ?_ | refine zA ?_ | refine zP [] ?_ | (refine isA ?_; refine zd rfl ?_) | (refine isL ?_; refine zU rfl (by kernel_rfl) rfl rfl ?_) | (refine zb rfl ?_; refine zT rfl (by kernel_rfl) rfl rfl ?_) | refine zD ?_ | refine zB _ rfl (by kernel_rfl) ?_ | refine zV rfl ?_ | refine zW rfl ?_ | refine zC ?_ | with_reducible refine zN ?_ | refine zH ?_ | refine zI ?_ | (with_reducible first | refine zL ?_ | refine zM ?_ | refine zE ?_ | refine zG ?_ | refine zF ?_) | refine zO ?_ | (refine wg ?_; refine yW rfl rfl (fun hbr => ?_) (fun hbr => ?_) <;> (fail_if_success (with_reducible (have hx : true = true := hbr))) <;> (fail_if_success (with_reducible (have hx : false = false := hbr)))) | (refine zb rfl ?_; refine yK rfl rfl rfl rfl (fun hbr => ?_) (fun hbr => ?_) <;> (fail_if_success (with_reducible (have hx : true = true := hbr))) <;> (fail_if_success (with_reducible (have hx : false = false := hbr))))
              all_goals exact yG rfl rfl (congrArg B (by rw [e3]; simp only [*, Bool.true_or, Bool.false_or, Bool.or_true, Bool.or_false, Bool.true_and, Bool.false_and, Bool.and_true, Bool.and_false, Bool.not_true, Bool.not_false, cond_true, cond_false]))
            · rw [h4, cond_false] at e3
              repeat' first | refine zK ?_ | refine zA ?_ | refine zP [] ?_ | (refine isA ?_; refine zd rfl ?_) | (refine isL ?_; refine zU rfl (by kernel_rfl) rfl rfl ?_) | (refine zb rfl ?_; refine zT rfl (by kernel_rfl) rfl rfl ?_) | exact yG rfl rfl (congrArg B (by rw [e3])) | refine zD ?_ | refine zB _ rfl (by kernel_rfl) ?_ | refine zV rfl ?_ | refine zW rfl ?_ | refine zC ?_ | with_reducible refine zN ?_ | refine zH ?_ | refine zI ?_ | (with_reducible first | refine zL ?_ | refine zM ?_ | refine zE ?_ | refine zG ?_ | refine zF ?_) | refine zO ?_
end Go.Proofs.Ytojcojanokhnaaa.Ab
namespace Go.Proofs.Ytojcojanokhnaaa.Ab
open Go.RowKit
theorem eC (s : So) (h : s.out.length ≤ 1000000000) : se s = (decide (s.lp = 0) && (decide (s.rp = 0) && ((decide ((s.dfr.length : Int) = 0) || decide ((0 : Int) ≤ IntKind.i64.wrap ((s.out.length : Int) - 1))) && (decide (yi s ≤ 60) && eqB (s.runs.flatten ++ s.out ++ s.heap ++ s.dfr) (s.input.take s.pos.toNat))))) := by
  rw [mi, Bool.or_comm, show decide ((0 : Int) < (s.out.length : Int)) = decide ((0 : Int) ≤ IntKind.i64.wrap ((s.out.length : Int) - 1)) from decide_eq_decide.2 (by rw [IntKind.wrap_i64]; omega)]
theorem eB (s : So) (h1 : s.heap.length ≤ 1000000000) (h2 : s.dfr.length ≤ 1000000000) : ve s = (!(!decide (s.pos = s.input.length) || decide ((0 : Int) < IntKind.i64.wrap ((s.heap.length : Int) + (s.dfr.length : Int)))) && eqB s.runs.flatten s.input) := by
  rw [mh, show decide ((0 : Int) < IntKind.i64.wrap ((s.heap.length : Int) + (s.dfr.length : Int))) = (decide ((0 : Int) < (s.heap.length : Int)) || decide ((0 : Int) < (s.dfr.length : Int))) from by rw [← Bool.decide_or]; exact decide_eq_decide.2 (by rw [IntKind.wrap_i64]; omega)]
  generalize decide (s.pos = s.input.length) = p
  generalize decide ((0 : Int) < (s.heap.length : Int)) = q
  generalize decide ((0 : Int) < (s.dfr.length : Int)) = r
  generalize eqB s.runs.flatten s.input = t
  cases p <;> cases q <;> cases r <;> cases t <;> rfl
theorem vTail (s : So) : cond (decide (s.ph = 3)) (ui s) (cond (decide (s.ph = 4)) (uj s) false) = (!(decide ((1 : Int) < (s.runs.length : Int)) || (!decide (s.rp = 0) || decide ((0 : Int) < (s.out.length : Int)))) && cond (decide (s.ph = 3)) (decide ((s.runs.length : Int) = 1) && inV s.lp 0 ((s.input.length : Int) - 1)) (decide (s.ph = 4) && decide (s.lp = s.input.length))) := by
  unfold ui uj
  rw [show decide (s.out.length = 0) = !decide ((0 : Int) < (s.out.length : Int)) from by rw [← decide_not]; exact decide_eq_decide.2 (by omega), show decide (s.runs.length ≤ 1) = !decide ((1 : Int) < (s.runs.length : Int)) from by rw [← decide_not]; exact decide_eq_decide.2 (by omega), show decide (s.runs.length = 1) = decide ((s.runs.length : Int) = 1) from decide_eq_decide.2 (by omega)]
  rcases Classical.em ((s.runs.length : Int) = 1) with h | h
  · rw [decide_eq_true h, decide_eq_false (show ¬ (1 : Int) < (s.runs.length : Int) by omega)]
    generalize decide ((0 : Int) < (s.out.length : Int)) = q
    generalize decide (s.rp = 0) = r
    generalize inV s.lp 0 ((s.input.length : Int) - 1) = t
    generalize decide (s.lp = s.input.length) = u
    cases decide (s.ph = 3) <;> cases decide (s.ph = 4) <;> cases q <;> cases r <;> cases t <;> cases u <;> rfl
  · rw [decide_eq_false h]
    generalize decide ((1 : Int) < (s.runs.length : Int)) = p
    generalize decide ((0 : Int) < (s.out.length : Int)) = q
    generalize decide (s.rp = 0) = r
    generalize inV s.lp 0 ((s.input.length : Int) - 1) = t
    generalize decide (s.lp = s.input.length) = u
    cases decide (s.ph = 3) <;> cases decide (s.ph = 4) <;> cases p <;> cases q <;> cases r <;> cases t <;> cases u <;> rfl
theorem sD (s : So) (hok : okSo s) : zz Go.Proofs.Try.prog 18 [.agg (soE s)] [] (B (vS s)) [] false := by
  have g1 := hok.input
  have g2 := hok.heap
  have g3 := hok.dfr
  have g4 := hok.out
  have g5 := hok.rn
  have g6 := hok.tot
  have g7 := vj s.runs
  have a1 := qI s.input (by omega)
  have a2 := cu s.runs g5
  have a3 := fU s.out (by omega)
  have a4 := pd s hok
  have a5 := (lh s.runs g5 (by omega)).frozen (zr rfl)
  have a6 := ll s.runs.flatten s.input (by omega) (by omega)
  refine zw [2] Go.Proofs.Try.func18 rfl rfl ?_
  simp only [Go.Proofs.Try.ntmps18, List.length_cons, List.length_nil, Nat.reduceAdd, Nat.reduceSub, List.replicate_succ, List.replicate_zero, List.cons_append, List.nil_append]
  repeat' first | refine zK ?_ | refine zA ?_ | refine zP [] ?_ | (refine isA ?_; refine zd rfl ?_) | (refine isL ?_; refine zU rfl (by kernel_rfl) rfl rfl ?_) | (refine zb rfl ?_; refine zT rfl (by kernel_rfl) rfl rfl ?_) | (refine zu 25 ?_; refine zc rfl (zQ rfl a1 (.cons (.same rfl) .nil) rfl) rfl ?_) | (refine zv 25 rfl ?_; refine zY rfl (by kernel_rfl) rfl (zQ rfl a1 (.cons (.same rfl) .nil) rfl) rfl ?_) | (refine zu 66 ?_; refine zc rfl (zQ rfl (uR _ _ _) (.cons (.same rfl) (.cons (.same rfl) (.cons (.same rfl) .nil))) rfl) rfl ?_) | (refine zv 66 rfl ?_; refine zY rfl (by kernel_rfl) rfl (zQ rfl (uR _ _ _) (.cons (.same rfl) (.cons (.same rfl) (.cons (.same rfl) .nil))) rfl) rfl ?_) | (refine zu 83 ?_; refine zc rfl (zQ rfl a2 (.cons (.same rfl) .nil) rfl) rfl ?_) | (refine zv 83 rfl ?_; refine zY rfl (by kernel_rfl) rfl (zQ rfl a2 (.cons (.same rfl) .nil) rfl) rfl ?_) | (refine zu 84 ?_; refine zc rfl (zQ rfl a3 (.cons (.same rfl) .nil) rfl) rfl ?_) | (refine zv 84 rfl ?_; refine zY rfl (by kernel_rfl) rfl (zQ rfl a3 (.cons (.same rfl) .nil) rfl) rfl ?_) | refine zD ?_ | refine zB _ rfl (by kernel_rfl) ?_ | refine zV rfl ?_ | refine zW rfl ?_ | refine zC ?_ | with_reducible refine zN ?_ | refine zH ?_ | refine zI ?_ | (with_reducible first | refine zL ?_ | refine zM ?_ | refine zE ?_ | refine zG ?_ | refine zF ?_) | refine zO ?_ | refine zh rfl (fun hbr => ?_) (fun hbr => ?_) | (refine wg ?_; refine yW rfl rfl (fun hbr => ?_) (fun hbr => ?_) <;> (fail_if_success (with_reducible (have hx : true = true := hbr))) <;> (fail_if_success (with_reducible (have hx : false = false := hbr)))) | (refine zb rfl ?_; refine yK rfl rfl rfl rfl (fun hbr => ?_) (fun hbr => ?_) <;> (fail_if_success (with_reducible (have hx : true = true := hbr))) <;> (fail_if_success (with_reducible (have hx : false = false := hbr))))
  all_goals first
    | exact yG rfl rfl (congrArg B (mg (by rw [mj]; simp only [*, Bool.true_or, Bool.false_or, Bool.or_true, Bool.or_false, Bool.true_and, Bool.false_and, Bool.and_true, Bool.and_false, Bool.not_true, Bool.not_false, cond_true, cond_false])).symm)
    | skip
  have hq : (avR s.input && (inV s.pos 0 s.input.length && (avS s.runs && (!decide (s.wr < 0) && v8 s.out)))) = true := by
    simp only [Bool.not_eq_false'] at *
    simp only [*, Bool.true_and, Bool.not_false]
  refine z9 (α := { i : Nat // i ≤ s.heap.length ∧ ∀ j z, j < i → s.heap[j]? = some z → bel z s.out = false }) (fun i => ⟨(.any :: (.ptr 0 0) :: .any :: (I (IntKind.i64.wrap ((s.out.length : Int) - 1))) :: (I i.1) :: .any :: .any :: .any :: .any :: .any :: .any :: .any :: .any :: .any :: .any :: .any :: .any :: .any :: .any :: .any :: .any :: .any :: .any :: .any :: .any :: .any :: .any :: .any :: .any :: .any :: .any :: .any :: .any :: .any :: .any :: .any :: .any :: .any :: .any :: .any :: .any :: .any :: .any :: .any :: .any :: .any :: .any :: .any :: .any :: .any :: .any :: .any :: .any :: .any :: .any :: .any :: .any :: .any :: .any :: .any :: .any :: .any :: .any :: .any :: .any :: .any :: .any :: .any :: .any :: .any :: .any :: .any :: .any :: .any :: .any :: .any :: .any :: .any :: .any :: .any :: .any :: .any :: .any :: .any :: .any :: .any :: .any :: .any :: .any :: .any :: .any :: .any :: .any :: .any :: .any :: .any :: .any :: .any :: .any :: .any :: .any :: .any :: .any :: .any :: .any :: .any :: .any :: .any :: .any :: .any :: .any :: .any :: .any :: .any :: .any :: .any :: .any :: .any :: .any :: .any :: .any :: .any :: .any :: .any :: .any :: .any :: .any :: .any :: .any :: .any :: .any :: .any :: .any :: .any :: .any :: .any :: .any :: .any :: .any :: .any :: .any :: .any :: .any :: .any :: .any :: .any :: .any :: .any :: .any :: .any :: .any :: .any :: .any :: .any :: .any :: .any :: .any :: .any :: .any :: .any :: .any :: .any :: .any :: .any :: .any :: .any :: .any :: .any :: .any :: .any :: .any :: .any :: .any :: .any :: .any :: .any :: .any :: .any :: .any :: .any :: .any :: .any :: .any :: .any :: .any :: .any :: .any :: .any :: .any :: .any :: .any :: .any :: .any :: .any :: .any :: .any :: .any :: .any :: .any :: .any :: .any :: .any :: .any :: .any :: .any :: .any :: .any :: .any :: .any :: .any :: .any :: .any :: .any :: .any :: .any :: .any :: .any :: .any :: .any :: .any :: .any :: .any :: .any :: .any :: .any :: .any :: .any :: .any :: .any :: .any :: .any :: .any :: .any :: .any :: .any :: .any :: .any :: .any :: .any :: .any :: .any :: .any :: .any :: .any :: .any :: .any :: .any :: .any :: .any :: .any :: .any :: .any :: .any :: .any :: .any :: .any :: .any :: .any :: .any :: .any :: []), [⟨27, 10, soE s, 0⟩], 0⟩) (fun i => s.heap.length - i.1) ⟨0, Nat.zero_le _, fun j z h => absurd h (Nat.not_lt_zero j)⟩ ?_ ?_
  · exact ye [0] rfl rfl (by decide) (by repeat' first | exact HLes.nil | refine HLes.cons rfl rfl rfl rfl ?_ ?_ | exact zj | refine zZ ?_ ?_ | exact zp | exact le_refl rfl | exact zk rfl rfl | exact zx rfl) (by repeat' first | exact zj | refine zZ ?_ ?_ | exact zp | exact le_refl rfl | exact zk rfl rfl | exact zx rfl)
  · rintro ⟨i, hi, hb⟩
    repeat' first | refine zK ?_ | refine zA ?_ | refine zP [] ?_ | (refine isA ?_; refine zd rfl ?_) | (refine isL ?_; refine zU rfl (by kernel_rfl) rfl rfl ?_) | (refine zb rfl ?_; refine zT rfl (by kernel_rfl) rfl rfl ?_) | refine zD ?_ | refine zB _ rfl (by kernel_rfl) ?_ | refine zV rfl ?_ | refine zW rfl ?_ | refine zC ?_ | with_reducible refine zN ?_ | refine zH ?_ | refine zI ?_ | (with_reducible first | refine zL ?_ | refine zM ?_ | refine zE ?_ | refine zG ?_ | refine zF ?_) | refine zO ?_
    refine zh rfl (fun h => ?_) (fun h => ?_)
    · have hlt : i < s.heap.length := by simpa using h
      obtain ⟨z, hz⟩ : ∃ z, s.heap[i]? = some z := ⟨_, List.getElem?_eq_getElem hlt⟩
      repeat' first | refine zK ?_ | refine zA ?_ | refine zP [] ?_ | (refine isA ?_; refine zd rfl ?_) | (refine isL ?_; refine zU rfl (by kernel_rfl) rfl rfl ?_) | (refine zb rfl ?_; refine zT rfl (by kernel_rfl) rfl rfl ?_) | refine zD ?_ | refine zB _ rfl (by kernel_rfl) ?_ | refine zV rfl ?_ | refine zW rfl ?_ | refine zC ?_ | with_reducible refine zN ?_ | refine zH ?_ | refine zI ?_ | (with_reducible first | refine zL ?_ | refine zM ?_ | refine zE ?_ | refine zG ?_ | refine zF ?_) | refine zO ?_
      refine yK rfl rfl rfl rfl (fun p1 => ?_) (fun p1 => ?_)
      · have q1 : 0 < s.out.length := by have := of_decide_eq_true p1; rw [IntKind.wrap_i64] at this; omega
        obtain ⟨y, hy⟩ : ∃ z, s.out[s.out.length - 1]? = some z := ⟨_, List.getElem?_eq_getElem (by omega)⟩
        have ew : IntKind.i64.wrap ((s.out.length : Int) - 1) = ((s.out.length - 1 : Nat) : Int) := by rw [IntKind.wrap_i64]; omega
        have eb : bel z s.out = decide (yu z y < 0) := by unfold bel; rw [hy]; rfl
        repeat' first | refine zK ?_ | refine zA ?_ | refine zP [] ?_ | (refine isA ?_; refine zd rfl ?_) | (refine isL ?_; refine zU rfl (by kernel_rfl) rfl rfl ?_) | (refine zb rfl ?_; refine zT rfl (by kernel_rfl) rfl rfl ?_) | (refine yB (x := .tmp 52) ?_; refine zc rfl (z6 (t := rwT) (z := z) rfl rfl rfl rfl (Int.natCast_nonneg i) hz) rfl ?_) | (refine yA (x := .tmp 52) rfl ?_; refine zY rfl (by kernel_rfl) rfl (z6 (t := rwT) (z := z) rfl rfl rfl rfl (Int.natCast_nonneg i) hz) rfl ?_) | (refine yB (x := .tmp 57) ?_; refine zc rfl (z6 (t := rwT) (j := ((s.out.length - 1 : Nat) : Int)) (z := y) rfl rfl rfl (congrArg I ew) (Int.natCast_nonneg _) hy) rfl ?_) | (refine yA (x := .tmp 57) rfl ?_; refine zY rfl (by kernel_rfl) rfl (z6 (t := rwT) (j := ((s.out.length - 1 : Nat) : Int)) (z := y) rfl rfl rfl (congrArg I ew) (Int.natCast_nonneg _) hy) rfl ?_) | (refine zu 68 ?_; refine zc rfl (zQ rfl (xz z y) (.cons (.same rfl) (.cons (.same rfl) .nil)) rfl) rfl ?_) | (refine zv 68 rfl ?_; refine zY rfl (by kernel_rfl) rfl (zQ rfl (xz z y) (.cons (.same rfl) (.cons (.same rfl) .nil)) rfl) rfl ?_) | refine zD ?_ | refine zB _ rfl (by kernel_rfl) ?_ | refine zV rfl ?_ | refine zW rfl ?_ | refine zC ?_ | with_reducible refine zN ?_ | refine zH ?_ | refine zI ?_ | (with_reducible first | refine zL ?_ | refine zM ?_ | refine zE ?_ | refine zG ?_ | refine zF ?_) | refine zO ?_
        refine zh rfl (fun p => ?_) (fun p => ?_)
        · repeat' first | refine zK ?_ | refine zA ?_ | refine zP [] ?_ | (refine isA ?_; refine zd rfl ?_) | (refine isL ?_; refine zU rfl (by kernel_rfl) rfl rfl ?_) | (refine zb rfl ?_; refine zT rfl (by kernel_rfl) rfl rfl ?_) | exact yG rfl rfl (congrArg B (mg (lL hz (eb.trans p))).symm) | refine zD ?_ | refine zB _ rfl (by kernel_rfl) ?_ | refine zV rfl ?_ | refine zW rfl ?_ | refine zC ?_ | with_reducible refine zN ?_ | refine zH ?_ | refine zI ?_ | (with_reducible first | refine zL ?_ | refine zM ?_ | refine zE ?_ | refine zG ?_ | refine zF ?_) | refine zO ?_
        · repeat' first | refine zK ?_ | refine zA ?_ | refine zP [] ?_ | (refine isA ?_; refine zd rfl ?_) | (refine isL ?_; refine zU rfl (by kernel_rfl) rfl rfl ?_) | (refine zb rfl ?_; refine zT rfl (by kernel_rfl) rfl rfl ?_) | refine zD ?_ | refine zB _ rfl (by kernel_rfl) ?_ | refine zV rfl ?_ | refine zW rfl ?_ | refine zC ?_ | with_reducible refine zN ?_ | refine zH ?_ | refine zI ?_ | (with_reducible first | refine zL ?_ | refine zM ?_ | refine zE ?_ | refine zG ?_ | refine zF ?_) | refine zO ?_
          refine ⟨⟨i + 1, hlt, to hb hz (eb.trans p)⟩, by simp only; omega, ?_⟩
          exact ye [0] rfl rfl (by decide) (by repeat' first | exact HLes.nil | refine HLes.cons rfl rfl rfl rfl ?_ ?_ | exact zj | refine zZ ?_ ?_ | exact zp | exact le_refl rfl | exact zk rfl rfl | exact zx rfl) (by repeat' first | exact zj | refine zZ ?_ ?_ | exact zp | exact le_refl rfl | exact zk rfl rfl | exact zx rfl | exact xZ (by assumption) (by omega))
      · have q1 : s.out.length = 0 := by have := of_decide_eq_false p1; rw [IntKind.wrap_i64] at this; omega
        have eb : bel z s.out = false := by rw [List.eq_nil_of_length_eq_zero q1]; rfl
        repeat' first | refine zK ?_ | refine zA ?_ | refine zP [] ?_ | (refine isA ?_; refine zd rfl ?_) | (refine isL ?_; refine zU rfl (by kernel_rfl) rfl rfl ?_) | (refine zb rfl ?_; refine zT rfl (by kernel_rfl) rfl rfl ?_) | refine zD ?_ | refine zB _ rfl (by kernel_rfl) ?_ | refine zV rfl ?_ | refine zW rfl ?_ | refine zC ?_ | with_reducible refine zN ?_ | refine zH ?_ | refine zI ?_ | (with_reducible first | refine zL ?_ | refine zM ?_ | refine zE ?_ | refine zG ?_ | refine zF ?_) | refine zO ?_
        refine ⟨⟨i + 1, hlt, to hb hz eb⟩, by simp only; omega, ?_⟩
        exact ye [0] rfl rfl (by decide) (by repeat' first | exact HLes.nil | refine HLes.cons rfl rfl rfl rfl ?_ ?_ | exact zj | refine zZ ?_ ?_ | exact zp | exact le_refl rfl | exact zk rfl rfl | exact zx rfl) (by repeat' first | exact zj | refine zZ ?_ ?_ | exact zp | exact le_refl rfl | exact zk rfl rfl | exact zx rfl | exact xZ (by assumption) (by omega))
    · have hge : i = s.heap.length := by
        have : ¬ ((i : Int) < s.heap.length) := by simpa using h
        omega
      subst hge
      have hB := ne hq hb
      have e1 := db hB
      have e2 := da hB
      simp only [Bool.and_eq_true, xG] at hq
      obtain ⟨hv0, ⟨hp0, hp1⟩, hv1, hv2, hv3⟩ := hq
      repeat' first | refine zK ?_ | refine zA ?_ | refine zP [] ?_ | (refine isA ?_; refine zd rfl ?_) | (refine isL ?_; refine zU rfl (by kernel_rfl) rfl rfl ?_) | (refine zb rfl ?_; refine zT rfl (by kernel_rfl) rfl rfl ?_) | refine zD ?_ | refine zB _ rfl (by kernel_rfl) ?_ | refine zV rfl ?_ | refine zW rfl ?_ | refine zC ?_ | with_reducible refine zN ?_ | refine zH ?_ | refine zI ?_ | (with_reducible first | refine zL ?_ | refine zM ?_ | refine zE ?_ | refine zG ?_ | refine zF ?_) | refine zO ?_
      refine zh rfl (fun h => ?_) (fun h => ?_)
      · have e1 := e1 h
        rw [eC s (by omega)] at e1
        have hp : s.pos = ((s.pos.toNat : Nat) : Int) := by omega
        have a7 := lh s.runs g5 (by omega)
        have a8 := ll (s.runs.flatten ++ s.out ++ s.heap ++ s.dfr) (s.input.take s.pos.toNat) (by rw [List.length_append, List.length_append, List.length_append]; omega) (by simp; omega)
        repeat' first | refine zK ?_ | refine zA ?_ | (refine isA ?_; refine zd rfl ?_) | (refine isL ?_; refine zU rfl (by kernel_rfl) rfl rfl ?_) | (refine zb rfl ?_; refine zT rfl (by kernel_rfl) rfl rfl ?_) | refine zD ?_ | refine zB _ rfl (by kernel_rfl) ?_ | refine zV rfl ?_ | refine zW rfl ?_ | refine zC ?_ | with_reducible refine zN ?_ | refine zH ?_ | refine zI ?_ | (with_reducible first | refine zL ?_ | refine zM ?_ | refine zE ?_ | refine zG ?_ | refine zF ?_) | refine zO ?_
        refine ta (fun H => H[0]? = some (⟨27, 10, soE s, 0⟩ : Reg)) 13 rfl ?_
        refine yZ 0 rfl rfl (by kernel_rfl) rfl (fun _ => rfl) rfl ?_
        refine xE 1 rfl rfl (by kernel_rfl) rfl (fun _ hG => xu rfl rfl hG rfl rfl) rfl ?_
        refine yZ 3 rfl rfl (by kernel_rfl) rfl (fun _ => rfl) rfl ?_
        refine xE 4 rfl rfl (by kernel_rfl) rfl (fun _ hG => xu rfl rfl hG rfl rfl) rfl ?_
        refine yZ 6 rfl rfl (by kernel_rfl) rfl (fun _ => rfl) rfl ?_
        refine xE 7 rfl rfl (by kernel_rfl) rfl (fun _ hG => xu rfl rfl hG rfl rfl) rfl ?_
        refine yZ 9 rfl rfl (by kernel_rfl) rfl (fun _ => rfl) rfl ?_
        refine xE 10 rfl rfl (by kernel_rfl) rfl (fun _ hG => xu rfl rfl hG rfl rfl) rfl ?_
        refine we 2 (by kernel_rfl) ?_
        refine qN rfl rfl (yX rfl a7 (.cons (.same rfl) .nil) (fun q hq => by simp at hq; subst hq; exact zJ _ _) rfl rfl) rfl rfl ?_
        refine we 5 (by kernel_rfl) ?_
        refine qN rfl rfl (yV (t := rwT) (xs := s.runs.flatten) (ys := s.out) rfl rfl rfl rfl (.lst _ _) (by omega) rfl) rfl rfl ?_
        refine we 8 (by kernel_rfl) ?_
        refine qN rfl rfl (yV (t := rwT) (xs := s.runs.flatten ++ s.out) (ys := s.heap) rfl rfl rfl rfl (.lst _ _) (by rw [List.length_append]; omega) rfl) rfl rfl ?_
        refine we 11 (by kernel_rfl) ?_
        refine qN rfl rfl (yV (t := rwT) (xs := s.runs.flatten ++ s.out ++ s.heap) (ys := s.dfr) rfl rfl rfl rfl (.lst _ _) (by rw [List.length_append, List.length_append]; omega) rfl) rfl rfl ?_
        refine yZ 12 rfl rfl (by kernel_rfl) rfl (fun _ => rfl) rfl ?_
        refine vI (by kernel_rfl) ?_
        repeat' first | refine zK ?_ | refine zA ?_ | refine zP [] ?_ | (refine isA ?_; refine zd rfl ?_) | (refine isL ?_; refine zU rfl (by kernel_rfl) rfl rfl ?_) | (refine zb rfl ?_; refine zT rfl (by kernel_rfl) rfl rfl ?_) | (refine zu 20 ?_; refine zc rfl (zQ rfl a4 (.cons (.same rfl) .nil) rfl) rfl ?_) | (refine zv 20 rfl ?_; refine zY rfl (by kernel_rfl) rfl (zQ rfl a4 (.cons (.same rfl) .nil) rfl) rfl ?_) | (refine zu 86 ?_; refine zc rfl (zQ rfl a8 (.cons (zr rfl) (.cons (.same rfl) .nil)) rfl) rfl ?_) | (refine zv 86 rfl ?_; refine zY rfl (by kernel_rfl) rfl (zQ rfl a8 (.cons (zr rfl) (.cons (.same rfl) .nil)) rfl) rfl ?_) | (refine uN (x := .tmp 105) ?_; refine zc rfl (yj rfl rfl (congrArg I hp) (by omega)) rfl ?_) | (refine uM (x := .tmp 105) rfl ?_; refine zY rfl (by kernel_rfl) rfl (yj rfl rfl (congrArg I hp) (by omega)) rfl ?_) | refine zD ?_ | refine zB _ rfl (by kernel_rfl) ?_ | refine zV rfl ?_ | refine zW rfl ?_ | refine zC ?_ | with_reducible refine zN ?_ | refine zH ?_ | refine zI ?_ | (with_reducible first | refine zL ?_ | refine zM ?_ | refine zE ?_ | refine zG ?_ | refine zF ?_) | refine zO ?_ | refine zh rfl (fun hbr => ?_) (fun hbr => ?_) | (refine wg ?_; refine yW rfl rfl (fun hbr => ?_) (fun hbr => ?_) <;> (fail_if_success (with_reducible (have hx : true = true := hbr))) <;> (fail_if_success (with_reducible (have hx : false = false := hbr)))) | (refine zb rfl ?_; refine yK rfl rfl rfl rfl (fun hbr => ?_) (fun hbr => ?_) <;> (fail_if_success (with_reducible (have hx : true = true := hbr))) <;> (fail_if_success (with_reducible (have hx : false = false := hbr))))
        all_goals exact yG rfl rfl (congrArg B (by rw [e1]; clear e1 e2 hp; simp only [*, Bool.true_or, Bool.false_or, Bool.or_true, Bool.or_false, Bool.true_and, Bool.false_and, Bool.and_true, Bool.and_false, Bool.not_true, Bool.not_false, cond_true, cond_false]))
      · have e2 := e2 h
        rw [eB s (by omega) (by omega)] at e2
        repeat' first | refine zK ?_ | refine zA ?_ | refine zP [] ?_ | (refine isA ?_; refine zd rfl ?_) | (refine isL ?_; refine zU rfl (by kernel_rfl) rfl rfl ?_) | (refine zb rfl ?_; refine zT rfl (by kernel_rfl) rfl rfl ?_) | refine zD ?_ | refine zB _ rfl (by kernel_rfl) ?_ | refine zV rfl ?_ | refine zW rfl ?_ | refine zC ?_ | with_reducible refine zN ?_ | refine zH ?_ | refine zI ?_ | (with_reducible first | refine zL ?_ | refine zM ?_ | refine zE ?_ | refine zG ?_ | refine zF ?_) | refine zO ?_ | (refine wg ?_; refine yW rfl rfl (fun hbr => ?_) (fun hbr => ?_) <;> (fail_if_success (with_reducible (have hx : true = true := hbr))) <;> (fail_if_success (with_reducible (have hx : false = false := hbr)))) | (refine zb rfl ?_; refine yK rfl rfl rfl rfl (fun hbr => ?_) (fun hbr => ?_) <;> (fail_if_success (with_reducible (have hx : true = true := hbr))) <;> (fail_if_success (with_reducible (have hx : false = false := hbr))))
        all_goals first
          | exact yG rfl rfl (congrArg B (by rw [e2]; clear e1 e2; simp only [*, Bool.true_or, Bool.false_or, Bool.or_true, Bool.or_false, Bool.true_and, Bool.false_and, Bool.and_true, Bool.and_false, Bool.not_true, Bool.not_false, cond_true, cond_false]))
          | skip
        refine zh rfl (fun q => ?_) (fun q => ?_)
        · repeat' first | refine zK ?_ | refine zA ?_ | refine zP [] ?_ | (refine isA ?_; refine zd rfl ?_) | (refine isL ?_; refine zU rfl (by kernel_rfl) rfl rfl ?_) | (refine zb rfl ?_; refine zT rfl (by kernel_rfl) rfl rfl ?_) | exact yG rfl rfl (congrArg B (by rw [e2]; clear e1 e2; simp only [*, Bool.true_or, Bool.false_or, Bool.or_true, Bool.or_false, Bool.true_and, Bool.false_and, Bool.and_true, Bool.and_false, Bool.not_true, Bool.not_false, cond_true, cond_false])) | refine zD ?_ | refine zB _ rfl (by kernel_rfl) ?_ | refine zV rfl ?_ | refine zW rfl ?_ | refine zC ?_ | with_reducible refine zN ?_ | refine zH ?_ | refine zI ?_ | (with_reducible first | refine zL ?_ | refine zM ?_ | refine zE ?_ | refine zG ?_ | refine zF ?_) | refine zO ?_
        have e3 : vS s = (eqB s.runs.flatten s.input && cond (decide (s.ph = 2)) (vX s) (cond (decide (s.ph = 3)) (ui s) (cond (decide (s.ph = 4)) (uj s) false))) := by
          rw [e2]
          clear e1 e2
          simp only [*, Bool.true_or, Bool.false_or, Bool.or_true, Bool.or_false, Bool.true_and, Bool.false_and, Bool.and_true, Bool.and_false, Bool.not_true, Bool.not_false, cond_true, cond_false]
        clear e1 e2
        repeat' first | refine zK ?_ | refine zA ?_ | refine zP [] ?_ | (refine isA ?_; refine zd rfl ?_) | (refine isL ?_; refine zU rfl (by kernel_rfl) rfl rfl ?_) | (refine zb rfl ?_; refine zT rfl (by kernel_rfl) rfl rfl ?_) | refine zD ?_ | refine zB _ rfl (by kernel_rfl) ?_ | refine zV rfl ?_ | refine zW rfl ?_ | refine zC ?_ | with_reducible refine zN ?_ | refine zH ?_ | refine zI ?_ | (with_reducible first | refine zL ?_ | refine zM ?_ | refine zE ?_ | refine zG ?_ | refine zF ?_) | refine zO ?_
        refine zh rfl (fun h2 => ?_) (fun h2 => ?_)
        · rw [h2, cond_true] at e3
          repeat' first | refine zK ?_ | refine zA ?_ | refine zP [] ?_ | (refine isA ?_; refine zd rfl ?_) | (refine isL ?_; refine zU rfl (by kernel_rfl) rfl rfl ?_) | (refine zb rfl ?_; refine zT rfl (by kernel_rfl) rfl rfl ?_) | refine zD ?_ | refine zB _ rfl (by kernel_rfl) ?_ | refine zV rfl ?_ | refine zW rfl ?_ | refine zC ?_ | with_reducible refine zN ?_ | refine zH ?_ | refine zI ?_ | (with_reducible first | refine zL ?_ | refine zM ?_ | refine zE ?_ | refine zG ?_ | refine zF ?_) | refine zO ?_
          refine yK rfl rfl rfl rfl (fun h3 => ?_) (fun h3 => ?_)
          · repeat' first | refine zK ?_ | refine zA ?_ | refine zP [] ?_ | (refine isA ?_; refine zd rfl ?_) | (refine isL ?_; refine zU rfl (by kernel_rfl) rfl rfl ?_) | (refine zb rfl ?_; refine zT rfl (by kernel_rfl) rfl rfl ?_) | exact yG rfl rfl (congrArg B (by rw [e3, pn h3, Bool.and_false])) | refine zD ?_ | refine zB _ rfl (by kernel_rfl) ?_ | refine zV rfl ?_ | refine zW rfl ?_ | refine zC ?_ | with_reducible refine zN ?_ | refine zH ?_ | refine zI ?_ | (with_reducible first | refine zL ?_ | refine zM ?_ | refine zE ?_ | refine zG ?_ | refine zF ?_) | refine zO ?_
          · obtain ⟨a, b, rest, hr⟩ := pq h3
            rw [pp hr] at e3
            have ra : s.runs[0]? = some a := by rw [hr]; rfl
            have rb : s.runs[1]? = some b := by rw [hr]; rfl
            have la := g5.at ra
            have lb := g5.at rb
            have lab : a.length + b.length ≤ 10000000 := by rw [hr] at g6; simp only [tot, List.map_cons, List.sum_cons] at g6; omega
            repeat' first | refine zK ?_ | refine zA ?_ | refine zP [] ?_ | (refine isA ?_; refine zd rfl ?_) | (refine isL ?_; refine zU rfl (by kernel_rfl) rfl rfl ?_) | (refine zb rfl ?_; refine zT rfl (by kernel_rfl) rfl rfl ?_) | (refine zu 66 ?_; refine zc rfl (zQ rfl (uR _ _ _) (.cons (.same rfl) (.cons (.same rfl) (.cons (.same rfl) .nil))) rfl) rfl ?_) | (refine zv 66 rfl ?_; refine zY rfl (by kernel_rfl) rfl (zQ rfl (uR _ _ _) (.cons (.same rfl) (.cons (.same rfl) (.cons (.same rfl) .nil))) rfl) rfl ?_) | (refine yB (x := .tmp 138) ?_; refine zc rfl (z6 (t := rnT) (z := a) rfl rfl rfl rfl (Int.natCast_nonneg 0) ra) rfl ?_) | (refine yA (x := .tmp 138) rfl ?_; refine zY rfl (by kernel_rfl) rfl (z6 (t := rnT) (z := a) rfl rfl rfl rfl (Int.natCast_nonneg 0) ra) rfl ?_) | (refine yB (x := .tmp 150) ?_; refine zc rfl (z6 (t := rnT) (z := b) rfl rfl rfl rfl (Int.natCast_nonneg 1) rb) rfl ?_) | (refine yA (x := .tmp 150) rfl ?_; refine zY rfl (by kernel_rfl) rfl (z6 (t := rnT) (z := b) rfl rfl rfl rfl (Int.natCast_nonneg 1) rb) rfl ?_) | refine zD ?_ | refine zB _ rfl (by kernel_rfl) ?_ | refine zV rfl ?_ | refine zW rfl ?_ | refine zC ?_ | with_reducible refine zN ?_ | refine zH ?_ | refine zI ?_ | (with_reducible first | refine zL ?_ | refine zM ?_ | refine zE ?_ | refine zG ?_ | refine zF ?_) | refine zO ?_ | (refine wg ?_; refine yW rfl rfl (fun hbr => ?_) (fun hbr => ?_) <;> (fail_if_success (with_reducible (have hx : true = true := hbr))) <;> (fail_if_success (with_reducible (have hx : false = false := hbr)))) | (refine zb rfl ?_; refine yK rfl rfl rfl rfl (fun hbr => ?_) (fun hbr => ?_) <;> (fail_if_success (with_reducible (have hx : true = true := hbr))) <;> (fail_if_success (with_reducible (have hx : false = false := hbr))))
            all_goals first
              | exact yG rfl rfl (congrArg B (by rw [e3]; simp only [*, Bool.true_or, Bool.false_or, Bool.or_true, Bool.or_false, Bool.true_and, Bool.false_and, Bool.and_true, Bool.and_false, Bool.not_true, Bool.not_false, cond_true, cond_false]))
              | skip
            refine zh rfl (fun p => ?_) (fun p => ?_)
            · repeat' first | refine zK ?_ | refine zA ?_ | refine zP [] ?_ | (refine isA ?_; refine zd rfl ?_) | (refine isL ?_; refine zU rfl (by kernel_rfl) rfl rfl ?_) | (refine zb rfl ?_; refine zT rfl (by kernel_rfl) rfl rfl ?_) | exact yG rfl rfl (congrArg B (by rw [e3]; simp only [*, Bool.true_or, Bool.false_or, Bool.or_true, Bool.or_false, Bool.true_and, Bool.false_and, Bool.and_true, Bool.and_false, Bool.not_true, Bool.not_false, cond_true, cond_false])) | refine zD ?_ | refine zB _ rfl (by kernel_rfl) ?_ | refine zV rfl ?_ | refine zW rfl ?_ | refine zC ?_ | with_reducible refine zN ?_ | refine zH ?_ | refine zI ?_ | (with_reducible first | refine zL ?_ | refine zM ?_ | refine zE ?_ | refine zG ?_ | refine zF ?_) | refine zO ?_
            have p1 : (!inV s.lp 0 a.length) = false := by assumption
            have p1 : inV s.lp 0 a.length = true := by simpa using p1
            have p2 : inV s.rp 0 b.length = true := by simpa using p
            rw [p1, p2] at e3
            simp only [Bool.true_or, Bool.false_or, Bool.or_true, Bool.or_false, Bool.true_and, Bool.false_and, Bool.and_true, Bool.and_false, Bool.not_true, Bool.not_false, cond_true, cond_false] at e3
            obtain ⟨q1, q2⟩ := xG.1 p1
            obtain ⟨q3, q4⟩ := xG.1 p2
            obtain ⟨i, hi⟩ := Int.eq_ofNat_of_zero_le q1
            obtain ⟨j, hj⟩ := Int.eq_ofNat_of_zero_le q3
            have ei : s.lp.toNat = i := by omega
            have ej : s.rp.toNat = j := by omega
            rw [ei, ej] at e3
            have w1 : IntKind.i64.wrap (s.lp + s.rp) = ((i + j : Nat) : Int) := by rw [hi, hj, IntKind.wrap_i64]; omega
            have li : (a.take i).length ≤ 100000000 := by simp; omega
            have lj : (b.take j).length ≤ 100000000 := by simp; omega
            have m1 := (d7 (a.take i) (b.take j) li lj).frozen (zr rfl)
            have m2 := (d7 a b (by omega) (by omega)).frozen (zr rfl)
            have n2 := tl a b
            have n1 := tl (a.take i) (b.take j)
            have x1 := nu (mgV (a.take i) (b.take j)) s.out (by omega)
            rw [show xj (mgV (a.take i) (b.take j)) s.out = xj s.out (mgV (a.take i) (b.take j)) from by rw [Bool.eq_iff_iff, vk, vk]; exact eq_comm] at x1
            have x2 := nu s.out ((mgV a b).take (i + j)) (by omega)
            generalize mgV (a.take i) (b.take j) = M1 at m1 x1 e3 n1
            generalize mgV a b = M2 at m2 x2 e3 n2
            repeat' first | refine zK ?_ | refine zA ?_ | refine zP [] ?_ | (refine isA ?_; refine zd rfl ?_) | (refine isL ?_; refine zU rfl (by kernel_rfl) rfl rfl ?_) | (refine zb rfl ?_; refine zT rfl (by kernel_rfl) rfl rfl ?_) | (refine uN (x := .tmp 162) ?_; refine zc rfl (yj rfl rfl (congrArg I hi) (by omega)) rfl ?_) | (refine uM (x := .tmp 162) rfl ?_; refine zY rfl (by kernel_rfl) rfl (yj rfl rfl (congrArg I hi) (by omega)) rfl ?_) | (refine uN (x := .tmp 170) ?_; refine zc rfl (yj rfl rfl (congrArg I hj) (by omega)) rfl ?_) | (refine uM (x := .tmp 170) rfl ?_; refine zY rfl (by kernel_rfl) rfl (yj rfl rfl (congrArg I hj) (by omega)) rfl ?_) | (refine uN (x := .tmp 187) ?_; refine zc rfl (yj rfl rfl (congrArg I w1) (by omega)) rfl ?_) | (refine uM (x := .tmp 187) rfl ?_; refine zY rfl (by kernel_rfl) rfl (yj rfl rfl (congrArg I w1) (by omega)) rfl ?_) | (refine yB (x := .tmp 159) ?_; refine zc rfl (z6 (t := rnT) (z := a) rfl rfl rfl rfl (Int.natCast_nonneg 0) ra) rfl ?_) | (refine yA (x := .tmp 159) rfl ?_; refine zY rfl (by kernel_rfl) rfl (z6 (t := rnT) (z := a) rfl rfl rfl rfl (Int.natCast_nonneg 0) ra) rfl ?_) | (refine yB (x := .tmp 167) ?_; refine zc rfl (z6 (t := rnT) (z := b) rfl rfl rfl rfl (Int.natCast_nonneg 1) rb) rfl ?_) | (refine yA (x := .tmp 167) rfl ?_; refine zY rfl (by kernel_rfl) rfl (z6 (t := rnT) (z := b) rfl rfl rfl rfl (Int.natCast_nonneg 1) rb) rfl ?_) | (refine yB (x := .tmp 178) ?_; refine zc rfl (z6 (t := rnT) (z := a) rfl rfl rfl rfl (Int.natCast_nonneg 0) ra) rfl ?_) | (refine yA (x := .tmp 178) rfl ?_; refine zY rfl (by kernel_rfl) rfl (z6 (t := rnT) (z := a) rfl rfl rfl rfl (Int.natCast_nonneg 0) ra) rfl ?_) | (refine yB (x := .tmp 183) ?_; refine zc rfl (z6 (t := rnT) (z := b) rfl rfl rfl rfl (Int.natCast_nonneg 1) rb) rfl ?_) | (refine yA (x := .tmp 183) rfl ?_; refine zY rfl (by kernel_rfl) rfl (z6 (t := rnT) (z := b) rfl rfl rfl rfl (Int.natCast_nonneg 1) rb) rfl ?_) | (refine zu 87 (x := #[.tmp 165, .tmp 173]) ?_; refine zc rfl (zQ rfl m1 (.cons (.same rfl) (.cons (.same rfl) .nil)) rfl) rfl ?_) | (refine zv 87 (x := #[.tmp 165, .tmp 173]) rfl ?_; refine zY rfl (by kernel_rfl) rfl (zQ rfl m1 (.cons (.same rfl) (.cons (.same rfl) .nil)) rfl) rfl ?_) | (refine zu 87 (x := #[.tmp 181, .tmp 186]) ?_; refine zc rfl (zQ rfl m2 (.cons (.same rfl) (.cons (.same rfl) .nil)) rfl) rfl ?_) | (refine zv 87 (x := #[.tmp 181, .tmp 186]) rfl ?_; refine zY rfl (by kernel_rfl) rfl (zQ rfl m2 (.cons (.same rfl) (.cons (.same rfl) .nil)) rfl) rfl ?_) | (refine zu 72 (x := #[.tmp 196, .tmp 198]) ?_; refine zc rfl (zQ rfl x1 (.cons (.same rfl) (.cons (.same rfl) .nil)) rfl) rfl ?_) | (refine zv 72 (x := #[.tmp 196, .tmp 198]) rfl ?_; refine zY rfl (by kernel_rfl) rfl (zQ rfl x1 (.cons (.same rfl) (.cons (.same rfl) .nil)) rfl) rfl ?_) | (refine zu 72 (x := #[.tmp 176, .tmp 193]) ?_; refine zc rfl (zQ rfl x2 (.cons (.same rfl) (.cons (.same rfl) .nil)) rfl) rfl ?_) | (refine zv 72 (x := #[.tmp 176, .tmp 193]) rfl ?_; refine zY rfl (by kernel_rfl) rfl (zQ rfl x2 (.cons (.same rfl) (.cons (.same rfl) .nil)) rfl) rfl ?_) | (refine zu 85 ?_; refine zc rfl (zQ rfl a5 (.cons (.same rfl) .nil) rfl) rfl ?_) | (refine zv 85 rfl ?_; refine zY rfl (by kernel_rfl) rfl (zQ rfl a5 (.cons (.same rfl) .nil) rfl) rfl ?_) | (refine zu 86 ?_; refine zc rfl (zQ rfl a6 (.cons (.same rfl) (.cons (.same rfl) .nil)) rfl) rfl ?_) | (refine zv 86 rfl ?_; refine zY rfl (by kernel_rfl) rfl (zQ rfl a6 (.cons (.same rfl) (.cons (.same rfl) .nil)) rfl) rfl ?_) | refine zD ?_ | refine zB _ rfl (by kernel_rfl) ?_ | refine zV rfl ?_ | refine zW rfl ?_ | refine zC ?_ | with_reducible refine zN ?_ | refine zH ?_ | refine zI ?_ | (with_reducible first | refine zL ?_ | refine zM ?_ | refine zE ?_ | refine zG ?_ | refine zF ?_) | refine zO ?_ | (refine wg ?_; refine yW rfl rfl (fun hbr => ?_) (fun hbr => ?_) <;> (fail_if_success (with_reducible (have hx : true = true := hbr))) <;> (fail_if_success (with_reducible (have hx : false = false := hbr)))) | (refine zb rfl ?_; refine yK rfl rfl rfl rfl (fun hbr => ?_) (fun hbr => ?_) <;> (fail_if_success (with_reducible (have hx : true = true := hbr))) <;> (fail_if_success (with_reducible (have hx : false = false := hbr))))
            all_goals exact yG rfl rfl (congrArg B (by rw [e3]; clear hi hj q1 q2 q3 q4; simp only [*, Bool.true_or, Bool.false_or, Bool.or_true, Bool.or_false, Bool.true_and, Bool.false_and, Bool.and_true, Bool.and_false, Bool.not_true, Bool.not_false, cond_true, cond_false]))
        · rw [h2, cond_false, vTail] at e3
          repeat' first | refine zK ?_ | refine zA ?_ | refine zP [] ?_ | (refine isA ?_; refine zd rfl ?_) | (refine isL ?_; refine zU rfl (by kernel_rfl) rfl rfl ?_) | (refine zb rfl ?_; refine zT rfl (by kernel_rfl) rfl rfl ?_) | (refine zu 85 ?_; refine zc rfl (zQ rfl a5 (.cons (.same rfl) .nil) rfl) rfl ?_) | (refine zv 85 rfl ?_; refine zY rfl (by kernel_rfl) rfl (zQ rfl a5 (.cons (.same rfl) .nil) rfl) rfl ?_) | (refine zu 86 ?_; refine zc rfl (zQ rfl a6 (.cons (.same rfl) (.cons (.same rfl) .nil)) rfl) rfl ?_) | (refine zv 86 rfl ?_; refine zY rfl (by kernel_rfl) rfl (zQ rfl a6 (.cons (.same rfl) (.cons (.same rfl) .nil)) rfl) rfl ?_) | refine zD ?_ | refine zB _ rfl (by kernel_rfl) ?_ | refine zV rfl ?_ | refine zW rfl ?_ | refine zC ?_ | with_reducible refine zN ?_ | refine zH ?_ | refine zI ?_ | (with_reducible first | refine zL ?_ | refine zM ?_ | refine zE ?_ | refine zG ?_ | refine zF ?_) | refine zO ?_ | (refine wg ?_; refine yW rfl rfl (fun hbr => ?_) (fun hbr => ?_) <;> (fail_if_success (with_reducible (have hx : true = true := hbr))) <;> (fail_if_success (with_reducible (have hx : false = false := hbr)))) | (refine zb rfl ?_; refine yK rfl rfl rfl rfl (fun hbr => ?_) (fun hbr => ?_) <;> (fail_if_success (with_reducible (have hx : true = true := hbr))) <;> (fail_if_success (with_reducible (have hx : false = false := hbr))))
          all_goals first
            | exact yG rfl rfl (congrArg B (by rw [e3]; simp only [*, Bool.true_or, Bool.false_or, Bool.or_true, Bool.or_false, Bool.true_and, Bool.false_and, Bool.and_true, Bool.and_false, Bool.not_true, Bool.not_false, cond_true, cond_false]))
            | skip
          refine zh rfl (fun q => ?_) (fun q => ?_)
          · repeat' first | refine zK ?_ | refine zA ?_ | refine zP [] ?_ | (refine isA ?_; refine zd rfl ?_) | (refine isL ?_; refine zU rfl (by kernel_rfl) rfl rfl ?_) | (refine zb rfl ?_; refine zT rfl (by kernel_rfl) rfl rfl ?_) | exact yG rfl rfl (congrArg B (by rw [e3]; simp only [Bool.not_eq_true'] at q; rw [q, Bool.false_and])) | refine zD ?_ | refine zB _ rfl (by kernel_rfl) ?_ | refine zV rfl ?_ | refine zW rfl ?_ | refine zC ?_ | with_reducible refine zN ?_ | refine zH ?_ | refine zI ?_ | (with_reducible first | refine zL ?_ | refine zM ?_ | refine zE ?_ | refine zG ?_ | refine zF ?_) | refine zO ?_
          have q2 : eqB s.runs.flatten s.input = true := by simpa using q
          have w1 : IntKind.i64.wrap ((s.input.length : Int) - 1) = (s.input.length : Int) - 1 := by rw [IntKind.wrap_i64]; omega
          rw [q2, ← w1] at e3
          repeat' first | refine zK ?_ | refine zA ?_ | refine zP [] ?_ | (refine isA ?_; refine zd rfl ?_) | (refine isL ?_; refine zU rfl (by kernel_rfl) rfl rfl ?_) | (refine zb rfl ?_; refine zT rfl (by kernel_rfl) rfl rfl ?_) | refine zD ?_ | refine zB _ rfl (by kernel_rfl) ?_ | refine zV rfl ?_ | refine zW rfl ?_ | refine zC ?_ | with_reducible refine zN ?_ | refine zH ?_ | refine zI ?_ | (with_reducible first | refine zL ?_ | refine zM ?_ | refine zE ?_ | refine zG ?_ | refine zF ?_) | refine zO ?_
          refine zh rfl (fun h3 => ?_) (fun h3 => ?_)
          · rw [h3, cond_true] at e3
            repeat' first | refine zK ?_ | refine zA ?_ | refine zP [] ?_ | (refine isA ?_; refine zd rfl ?_) | (refine isL ?_; refine zU rfl (by kernel_rfl) rfl rfl ?_) | (refine zb rfl ?_; refine zT rfl (by kernel_rfl) rfl rfl ?_) | (refine zu 66 ?_; refine zc rfl (zQ rfl (uR _ _ _) (.cons (.same rfl) (.cons (.same rfl) (.cons (.same rfl) .nil))) rfl) rfl ?_) | (refine zv 66 rfl ?_; refine zY rfl (by kernel_rfl) rfl (zQ rfl (uR _ _ _) (.cons (.same rfl) (.cons (.same rfl) (.cons (.same rfl) .nil))) rfl) rfl ?_) | refine zD ?_ | refine zB _ rfl (by kernel_rfl) ?_ | refine zV rfl ?_ | refine zW rfl ?_ | refine zC ?_ | with_reducible refine zN ?_ | refine zH ?_ | refine zI ?_ | (with_reducible first | refine zL ?_ | refine zM ?_ | refine zE ?_ | refine zG ?_ | refine zF ?_) | refine zO ?_ | (refine wg ?_; refine yW rfl rfl (fun hbr => ?_) (fun hbr => ?_) <;> (fail_if_success (with_reducible (have hx : true = true := hbr))) <;> (fail_if_success (with_reducible (have hx : false = false := hbr)))) | (refine zb rfl ?_; refine yK rfl rfl rfl rfl (fun hbr => ?_) (fun hbr => ?_) <;> (fail_if_success (with_reducible (have hx : true = true := hbr))) <;> (fail_if_success (with_reducible (have hx : false = false := hbr))))
            all_goals exact yG rfl rfl (congrArg B (by rw [e3]; clear w1; simp only [*, Bool.true_or, Bool.false_or, Bool.or_true, Bool.or_false, Bool.true_and, Bool.false_and, Bool.and_true, Bool.and_false, Bool.not_true, Bool.not_false, cond_true, cond_false]))
          · rw [h3, cond_false] at e3
            repeat' first | refine zK ?_ | refine zA ?_ | refine zP [] ?_ | (refine isA ?_; refine zd rfl ?_) | (refine isL ?_; refine zU rfl (by kernel_rfl) rfl rfl ?_) | (refine zb rfl ?_; refine zT rfl (by kernel_rfl) rfl rfl ?_) | refine zD ?_ | refine zB _ rfl (by kernel_rfl) ?_ | refine zV rfl ?_ | refine zW rfl ?_ | refine zC ?_ | with_reducible refine zN ?_ | refine zH ?_ | refine zI ?_ | (with_reducible first | refine zL ?_ | refine zM ?_ | refine zE ?_ | refine zG ?_ | refine zF ?_) | refine zO ?_ | (refine wg ?_; refine yW rfl rfl (fun hbr => ?_) (fun hbr => ?_) <;> (fail_if_success (with_reducible (have hx : true = true := hbr))) <;> (fail_if_success (with_reducible (have hx : false = false := hbr)))) | (refine zb rfl ?_; refine yK rfl rfl rfl rfl (fun hbr => ?_) (fun hbr => ?_) <;> (fail_if_success (with_reducible (have hx : true = true := hbr))) <;> (fail_if_success (with_reducible (have hx : false = false := hbr))))
            all_goals exact yG rfl rfl (congrArg B (by rw [e3]; clear w1; simp only [*, Bool.true_or, Bool.false_or, Bool.or_true, Bool.or_false, Bool.true_and, Bool.false_and, Bool.and_true, Bool.and_false, Bool.not_true, Bool.not_false, cond_true, cond_false]))
end Go.Proofs.Ytojcojanokhnaaa.Ab
namespace Go.Proofs.Ytojcojanokhnaaa.Ab
open Go.RowKit
def rmV (s : So) : Int := cond (vS s) (remV s) 0
end Go.Proofs.Ytojcojanokhnaaa.Ab
namespace Go.Proofs.Ytojcojanokhnaaa.Ab
open Go.RowKit
section
variable {P : Program}
def xw (r : Reg) : Reg := { r with mode := 2 }
theorem zz.frozenK {f : FuncId} {cargs : List V} {Rs Rs' K : List Reg} {r r' : V} {al : Bool} (h : zz P f cargs Rs r (Rs' ++ K) al) (hl : Rs'.length = Rs.length) (hN : ∀ q ∈ Rs', NoH q.cells)
    (hm : ∀ (i : Nat) (R R' : Reg), Rs[i]? = some R → Rs'[i]? = some R' → R.mode = 0 → R'.mode = 0) (hp : Pur true (Rs'.map xw ++ K) r r') : zz P f cargs Rs r' Rs' true := by
  intro A φ w xs hok hrel hsz
  refine (h A φ w xs hok hrel hsz).mono ?_
  rintro e w' ⟨x, φ', A', rfl, k1, k2, k3, k4, k5, k6⟩
  have hlen : φ'.length = Rs'.length + K.length := by rw [k1.len, List.length_append]
  have hφl : φ.length = Rs'.length := by rw [hok.len, hl]
  have hget : ∀ (i : Nat) (q : Reg), (Rs'.map xw ++ K)[i]? = some q → q.mode ≤ 1 → Rs'.length ≤ i ∧ (Rs' ++ K)[i]? = some q := fun i q hq hm1 => by
    rcases Nat.lt_or_ge i Rs'.length with hlt | hge
    · rw [List.getElem?_append_left (by simpa using hlt), List.getElem?_map] at hq
      obtain ⟨z, hz⟩ : ∃ z, Rs'[i]? = some z := ⟨_, List.getElem?_eq_getElem hlt⟩
      rw [hz] at hq
      simp only [Option.map_some, Option.some.injEq] at hq
      subst hq
      exact absurd (show (2 : Nat) ≤ 1 from hm1) (by decide)
    · refine ⟨hge, ?_⟩
      rw [List.getElem?_append_right (by simpa using hge), List.length_map] at hq
      rw [List.getElem?_append_right hge]
      exact hq
  have hlive2 : ∀ i b, zy φ' (Rs'.map xw ++ K) i b → Rs'.length ≤ i ∧ zy φ' (Rs' ++ K) i b := fun i b ⟨hd, q, q1, q2, q3, q4⟩ =>
    have := hget i q q2 (by omega)
    ⟨this.1, hd, q, q1, this.2, q3, q4⟩
  have kd : HeapOk A' w' φ' (Rs'.map xw ++ K) := ⟨by rw [hlen]; simp, fun i hd q q1 q2 q3 => k1.regs i hd q q1 (hget i q q2 q3).2 q3, fun i j b q1 q2 => k1.inj i j b (hlive2 i b q1).2 (hlive2 j b q2).2, fun i b q1 => k1.apart i b (hlive2 i b q1).2, fun i hd q b q1 q2 q3 q4 => k1.frz i hd q b q1 (hget i q q2 (by omega)).2 q3 q4, k1.low⟩
  have hT : ∀ (i : Nat) (hd : Hd), (φ'.take Rs'.length)[i]? = some hd → i < Rs'.length ∧ φ'[i]? = some hd := fun i hd hi => by
    have hlt : i < (φ'.take Rs'.length).length := (List.getElem?_eq_some_iff.1 hi).1
    rw [List.length_take] at hlt
    rw [List.getElem?_take_of_lt (by omega)] at hi
    exact ⟨by omega, hi⟩
  have hL : ∀ i b, zy (φ'.take Rs'.length) Rs' i b → i < Rs'.length ∧ zy φ' (Rs' ++ K) i b := fun i b ⟨hd, q, q1, q2, q3, q4⟩ =>
    have := hT i hd q1
    ⟨this.1, hd, q, this.2, by rw [List.getElem?_append_left this.1]; exact q2, q3, q4⟩
  have hmono : ∀ b, A' b → (A' b ∨ ∃ i, zy φ' (Rs'.map xw ++ K) i b) ∧ w'.heap[b]? = w'.heap[b]? := fun b hb => ⟨Or.inl hb, rfl⟩
  refine ⟨x, φ'.take Rs'.length, fun b => A' b ∨ ∃ i, zy φ' (Rs'.map xw ++ K) i b, rfl, ⟨by rw [List.length_take]; omega, fun i hd q q1 q2 q3 => ?_, fun i j b q1 q2 => k1.inj i j b (hL i b q1).2 (hL j b q2).2, fun i b q1 hb => ?_, fun i hd q b q1 q2 q3 q4 => ?_, fun b hb => ?_⟩, ?_, fun b hb => ?_, fun i b q1 => k4 i b (hL i b q1).2, k5, fun i hd q1 => ?_⟩
  · obtain ⟨t1, t2⟩ := hT i hd q1
    have := k1.regs i hd q t2 (by rw [List.getElem?_append_left t1]; exact q2) q3
    obtain ⟨e1, e2⟩ := this
    refine ⟨e1, ?_⟩
    cases hk : hd.blk with
    | none => rw [hk] at e2; exact e2
    | some b =>
      rw [hk] at e2
      obtain ⟨c, f1, f2, f3, f4⟩ := e2
      exact ⟨c, f1, f2, f3, z4.mono hmono (fun _ _ h => h) (x5 (hN q (List.mem_of_getElem? q2)) f4)⟩
  · rcases hb with hb | ⟨j, hb⟩
    · exact k1.apart i b (hL i b q1).2 hb
    · obtain ⟨g1, g2⟩ := hlive2 j b hb
      have := k1.inj i j b (hL i b q1).2 g2
      have := (hL i b q1).1
      omega
  · obtain ⟨t1, t2⟩ := hT i hd q1
    exact Or.inl (k1.frz i hd q b t2 (by rw [List.getElem?_append_left t1]; exact q2) q3 q4)
  · rcases hb with hb | ⟨j, hb⟩
    · exact k1.low b hb
    · obtain ⟨g1, hd, q, g2, g3, g4, g5⟩ := hlive2 j b hb
      exact xq k1 g2 g3 (by omega) g5
  · exact Rel.mono (fun b hb => ⟨hb, rfl⟩) (fun j hd hj => by simp at hj) (Pur.rel kd (fun b hb => Or.inl hb) (fun _ j b hb => Or.inr ⟨j, hb⟩) hp k2)
  · rcases hb with hb | ⟨j, hb⟩
    · exact (k3 b hb).imp (fun h => ⟨rfl, h.2⟩) id
    · obtain ⟨g1, g2⟩ := hlive2 j b hb
      rcases k4 j b g2 with h1 | ⟨h0, hd, q, p1, p2, p3, p4⟩
      · exact Or.inr h1
      · exfalso
        have hlt : h0 < Rs'.length := by have := (List.getElem?_eq_some_iff.1 p1).1; omega
        obtain ⟨z, hz⟩ : ∃ z, Rs'[h0]? = some z := ⟨_, List.getElem?_eq_getElem hlt⟩
        have hz0 := hm h0 q z p2 hz p3
        have := k1.inj j h0 b g2 ⟨hd, z, k6 h0 hd p1, by rw [List.getElem?_append_left hlt]; exact hz, hz0, p4⟩
        omega
  · have hlt : i < Rs'.length := by have := (List.getElem?_eq_some_iff.1 q1).1; omega
    rw [List.getElem?_take_of_lt hlt]
    exact k6 i hd q1
end
theorem w4 {P : Program} (id : Nat) {ops : Array Oper} {b : Bool} {y : Code} {Q : Exit → St → Prop} {S : St} (T : St) (h : AW P (.region id ops b) (fun e S' => e = .normal ∧ Sub T S') S) (k : AW P y Q T) : AW P (.seq (.region id ops b) y) Q S :=
  zK ⟨fun C φ a w hI => wp_mono (h.out C φ a w hI) fun e a' w' hq => by
    obtain ⟨S', φ1, hI', he, hs⟩ := hq
    subst he
    obtain ⟨φ2, h2⟩ := hs C φ1 a' w' hI'
    exact ⟨T, φ2, h2, k⟩⟩
@[irreducible] def Hold (p : Prop) : Prop := p
theorem xb {p : Prop} (h : Hold p) : p := by unfold Hold at h; exact h
theorem xy {p : Prop} (h : p) : Hold p := by unfold Hold; exact h
end Go.Proofs.Ytojcojanokhnaaa.Ab
namespace Go.Proofs.Ytojcojanokhnaaa.Ab
open Go.RowKit
theorem er {l : List V} {H : List Reg} {al : Bool} {t : Tmp} {us : List Tmp} {n : Nat} {v r : V} {K : List Reg} (ψ : List Nat) (hv : CellIs l H t n v) (hr : Le ψ r (.tup (v :: us.map fun u => (l[u]?).getD .any))) (hH : HLe ψ K H) (hal : al = true ∨ (tU r = true ∧ ∀ q ∈ K, q.mode ≠ 1 ∧ (q.mode = 0 → v3 q.cells))) :
    (Exit.ret = .ret ∨ Exit.ret = .normal) ∧ ∃ v, CellIs l H t n v ∧ Out al r K (.tup (v :: us.map fun u => (l[u]?).getD .any)) ⟨l, H, 0⟩ := ⟨Or.inl rfl, v, hv, sP (S := ⟨l, H, 0⟩) ψ (fun i hi => absurd hi (Nat.not_lt_zero _)) hH hr hal⟩
def nX (ix : List Nat) (rs : List Rn) : List V := List.zipWith (fun i x => V.sl i 0 x.length) ix rs
theorem jm : ∀ (b : Nat) (rs : List Rn), nC b rs = nX (List.range' b rs.length) rs
  | _, [] => rfl
  | b, x :: rs => by
    show V.sl b 0 x.length :: nC (b + 1) rs = _
    rw [jm (b + 1) rs]
    rfl
theorem jj {ix jx : List Nat} {rs ss : List Rn} (h : ix.length = rs.length) : nX (ix ++ jx) (rs ++ ss) = nX ix rs ++ nX jx ss := by
  unfold nX
  exact List.zipWith_append h
theorem mS {ψ : List Nat} : ∀ {b : Nat} {ix : List Nat} {rs : List Rn}, ix.length = rs.length → (∀ j, j < rs.length → ψ[b + j]? = ix[j]?) → Les ψ (nC b rs) (nX ix rs)
  | b, ix, [], hl, h => by
    rw [List.eq_nil_of_length_eq_zero hl]
    exact zj
  | b, [], x :: rs, hl, h => by simp at hl
  | b, i :: ix, x :: rs, hl, h => by
    refine zZ (zk (by have := h 0 (by simp); simpa using this) rfl) (mS (by simpa using hl) fun j hj => ?_)
    have := h (j + 1) (by simp; omega)
    rw [show b + 1 + j = b + (j + 1) by omega]
    simpa using this
theorem qk {H : List Reg} {hs ix : List Nat} {K1 : List Reg} {rs : List Rn} (hl : ix.length = rs.length) (hn : (hs ++ ix).Nodup) (h1 : HLes (hs ++ ix) H hs K1) (h2 : ∀ (j i : Nat) (x : Rn), ix[j]? = some i → rs[j]? = some x → H[i]? = some (rwR x)) :
    HLe (hs ++ ix) (K1 ++ nR rwT 78 rs) H := by
  obtain ⟨e1, e2⟩ := h1.get
  refine ⟨by simp [e1, nR, hl], hn, fun i h hi => ?_⟩
  rcases Nat.lt_or_ge i hs.length with hlt | hge
  · rw [List.getElem?_append_left hlt] at hi
    obtain ⟨r, r', q1, q2, q3⟩ := e2 i h hi
    exact ⟨r, r', za q1, q2, q3⟩
  · rw [List.getElem?_append_right hge] at hi
    have hlt := (List.getElem?_eq_some_iff.1 hi).1
    obtain ⟨x, hx⟩ : ∃ z, rs[i - hs.length]? = some z := ⟨_, List.getElem?_eq_getElem (by omega)⟩
    refine ⟨rwR x, rwR x, ?_, h2 _ _ _ hi hx, fun _ => ⟨rfl, rfl, rfl, zX (zJ _ _)⟩⟩
    rw [List.getElem?_append_right (by omega), ← e1]
    exact xT hx
theorem je (hs ix : List Nat) (j : Nat) : (hs ++ ix)[hs.length + j]? = ix[j]? := by
  rw [List.getElem?_append_right (Nat.le_add_right _ _), Nat.add_sub_cancel_left]
theorem jR (b n : Nat) (s : So) : (soR b s).map (shR n) = soR (b + n) s := by
  have h : ∀ xs : List Rw, shR n (rwR xs) = rwR xs := fun xs => by
    show ({ rwR xs with cells := v4 n (rwT.flat xs) } : Reg) = rwR xs
    rw [yT n (yh (zJ rwT xs))]
  rw [List.map_cons, List.map_cons, List.map_cons, List.map_cons, List.map_cons, h, h, h, h, dq]
  simp only [shR, pD, Nat.add_right_comm b 5 n]
theorem jT (b n : Nat) (s : So) : shV n (.agg (soO b s)) = .agg (soO (b + n) s) := by
  simp only [shV, v4, Nat.add_right_comm]
abbrev zS : List V := [vN, I 0, vN, vN, vN, vN, I 0, I 0, I 0, I 0]
abbrev bxS (cs : List V) : Reg := ⟨27, 10, cs, 0⟩
abbrev stH (s t : So) (r : List Rw) : List Reg := bxS (soE s) :: bxS zS :: bxS (soO 4 t) :: rwR r :: soR 4 t
theorem qp (g : Int) : zz Go.Proofs.Try.prog 57 [I g] [] (B (inV g 8 60)) [] false := by
  refine zw [2] Go.Proofs.Try.func57 rfl rfl ?_
  simp only [Go.Proofs.Try.ntmps57, List.length_cons, List.length_nil, Nat.reduceAdd, Nat.reduceSub, List.replicate_succ, List.replicate_zero, List.cons_append, List.nil_append]
  repeat' first | refine zK ?_ | refine zA ?_ | refine zP [] ?_ | (refine isA ?_; refine zd rfl ?_) | (refine isL ?_; refine zU rfl (by kernel_rfl) rfl rfl ?_) | (refine zb rfl ?_; refine zT rfl (by kernel_rfl) rfl rfl ?_) | (refine zu 75 ?_; refine zc rfl (zQ rfl (wB g 8 60) (.cons (.same rfl) (.cons (.same rfl) (.cons (.same rfl) .nil))) rfl) rfl ?_) | (refine zv 75 rfl ?_; refine zY rfl (by kernel_rfl) rfl (zQ rfl (wB g 8 60) (.cons (.same rfl) (.cons (.same rfl) (.cons (.same rfl) .nil))) rfl) rfl ?_) | exact yG rfl rfl rfl | refine zD ?_ | refine zB _ rfl (by kernel_rfl) ?_ | refine zV rfl ?_ | refine zW rfl ?_ | refine zC ?_ | with_reducible refine zN ?_ | refine zH ?_ | refine zI ?_ | (with_reducible first | refine zL ?_ | refine zM ?_ | refine zE ?_ | refine zG ?_ | refine zF ?_) | refine zO ?_
abbrev stL (s : So) (g : Int) (n : Nat) : List V := (.any :: (I g) :: (.ptr 0 0) :: .any :: (.ptr 1 0) :: .any :: .any :: (.ptr 2 0) :: (.sl 3 0 n) :: .any :: .any :: .any :: .any :: .any :: .any :: .any :: .any :: .any :: .any :: .any :: .any :: .any :: .any :: .any :: .any :: .any :: .any :: .any :: .any :: .any :: .any :: .any :: .any :: .any :: .any :: .any :: .any :: .any :: .any :: .any :: .any :: .any :: .any :: .any :: .any :: .any :: .any :: .any :: .any :: .any :: .any :: .any :: .any :: .any :: .any :: .any :: .any :: .any :: .any :: .any :: .any :: .any :: .any :: .any :: .any :: .any :: .any :: .any :: .any :: .any :: .any :: .any :: .any :: .any :: .any :: .any :: .any :: .any :: .any :: .any :: .any :: .any :: .any :: .any :: .any :: .any :: .any :: .any :: .any :: .any :: .any :: .any :: .any :: .any :: .any :: .any :: .any :: .any :: .any :: .any :: .any :: .any :: .any :: .any :: .any :: .any :: .any :: .any :: .any :: .any :: .any :: .any :: .any :: .any :: .any :: .any :: .any :: .any :: .any :: .any :: .any :: .any :: .any :: .any :: .any :: .any :: .any :: .any :: .any :: .any :: .any :: .any :: .any :: .any :: .any :: .any :: .any :: .any :: .any :: .any :: .any :: .any :: .any :: .any :: .any :: .any :: .any :: .any :: .any :: .any :: .any :: .any :: .any :: .any :: .any :: .any :: .any :: .any :: .any :: .any :: .any :: .any :: .any :: .any :: .any :: .any :: .any :: .any :: .any :: .any :: .any :: .any :: .any :: .any :: .any :: .any :: .any :: .any :: .any :: .any :: .any :: .any :: .any :: .any :: .any :: .any :: .any :: .any :: .any :: .any :: .any :: .any :: .any :: .any :: .any :: .any :: .any :: .any :: .any :: .any :: .any :: .any :: .any :: .any :: .any :: .any :: .any :: .any :: .any :: .any :: .any :: .any :: .any :: .any :: .any :: .any :: .any :: .any :: .any :: .any :: .any :: .any :: .any :: .any :: .any :: .any :: .any :: .any :: .any :: .any :: .any :: .any :: .any :: .any :: .any :: .any :: .any :: .any :: .any :: .any :: .any :: .any :: .any :: .any :: .any :: .any :: .any :: .any :: .any :: [])
abbrev stT (s t : So) (g : Int) (r : List Rw) : St := ⟨stL s g r.length, stH s t r, 0⟩
noncomputable def u6 : Code := match (Go.Proofs.Try.f13).body with
  | some (.seq _ (.seq _ (.seq _ (.seq _ (.seq m _))))) => m
  | _ => .skip
theorem uP {a0 a1 a2 a3 a4 a5 a6 a7 a8 x : Reg} {L : List Reg} {j : Nat} (h : L[j]? = some x) : (a0 :: a1 :: a2 :: a3 :: a4 :: a5 :: a6 :: a7 :: a8 :: L)[9 + j]? = some x := by
  rw [Nat.add_comm]; exact h
theorem pK {H : List Reg} {s : So} {h1 h2 h3 h4 h5 b : Nat} (e1 : H[h1]? = some (rwR s.input)) (e2 : H[h2]? = some (rwR s.heap)) (e3 : H[h3]? = some (rwR s.dfr)) (e4 : H[h4]? = some (rwR s.out)) (e5 : H[h5]? = some ⟨84, 1, nC b s.runs, 0⟩) (e6 : ∀ j x, s.runs[j]? = some x → H[b + j]? = some (rwR x)) :
    Pur true H (.agg [.sl h1 0 s.input.length, I s.pos, .sl h2 0 s.heap.length, .sl h3 0 s.dfr.length, .sl h4 0 s.out.length, .sl h5 0 s.runs.length, I s.lp, I s.rp, I s.ph, I s.wr]) (.agg (soE s)) :=
  .agg (.cons (zr e1) (.cons (.same rfl) (.cons (zr e2) (.cons (zr e3) (.cons (zr e4) (.cons (jc e5 e6) (.cons (.same rfl) (.cons (.same rfl) (.cons (.same rfl) (.cons (.same rfl) .nil))))))))))
theorem z7 {a0 a1 a2 a3 a4 a5 a6 a7 a8 x : Reg} {L : List Reg} {j : Nat} (h : L[j]? = some x) : (a0 :: a1 :: a2 :: a3 :: a4 :: a5 :: a6 :: a7 :: a8 :: L)[j + 9]? = some x := h
theorem pG {cs vs : List V} (h : vs.length = cs.length) : yo cs 0 vs = vs := by
  unfold yo
  rw [List.take_zero, List.nil_append, Nat.zero_add, h, List.drop_length, List.append_nil]
theorem wR {P : Program} {o : Oper} {ρ : Operand → V} {L : List Reg} {N : Reg} {h t n : Nat} {x y : Operand} {vs : List V} [ht : Ag P t n] (ho : o.op = .store t x y) (hx : ρ x = .ptr h 0) (hL : L.length = h) (hy : ρ y = .agg vs) (hn : vs.length = n) (h1 : ∀ c ∈ vs, v6 c = true) (hm : N.mode = 0) (hc : N.cells.length = n) : z8 P o ρ (L ++ [N]) (.k undef) (L ++ [{ N with cells := vs }]) := by
  have := wI (P := P) (o := o) (ρ := ρ) (H := L ++ [N]) ho hx hy hn h1 (zg hL) hm (by omega)
  rw [su hL, pG (by omega)] at this
  exact this
theorem xd {P : Program} {o : Oper} {ρ : Operand → V} {H : List Reg} {N : Reg} {h t n : Nat} {x : Operand} [ht : Ag P t n] (ho : o.op = .load t x) (hx : ρ x = .ptr h 0) (hH : H[h]? = some N) (hm : Nat.ble N.mode 1 = true) (hc : N.cells.length = n) : z8 P o ρ H (.agg N.cells) H := by
  have := wQ (P := P) (o := o) (n := n) (ρ := ρ) (H := H) ho hx hH (Nat.le_of_ble_eq_true hm) (by omega : 0 + n ≤ N.cells.length)
  rw [List.drop_zero, List.take_of_length_le (by omega)] at this
  exact this
theorem wo (r : Rw) : ∀ c ∈ rwE r, v6 c = true := fun c hc => by
  simp only [rwE, List.mem_cons, List.not_mem_nil, or_false] at hc
  rcases hc with rfl | rfl | rfl <;> rfl
theorem wc {s t : So} {r : List Rw} {l lT : List V} {H : List Reg} (hs ix : List Nat) (hl9 : hs.length = 9) (hl : ix.length = t.runs.length) (hn : (hs ++ ix).Nodup)
    (h1 : HLes (hs ++ ix) H hs [bxS (soE s), bxS zS, bxS (soO 4 t), rwR r, rwR t.input, rwR t.heap, rwR t.dfr, rwR t.out, ⟨84, 1, nC 9 t.runs, 0⟩]) (h2 : ∀ (j i : Nat) (x : Rn), ix[j]? = some i → t.runs[j]? = some x → H[i]? = some (rwR x))
    (ht : Les (hs ++ ix) lT l) : Sub ⟨lT, stH s t r, 0⟩ ⟨l, H, 0⟩ := by
  have := qk hl hn h1 h2
  exact sh (T := ⟨lT, stH s t r, 0⟩) (S := ⟨l, H, 0⟩) (hs ++ ix) rfl (fun i hi => absurd hi (Nat.not_lt_zero _)) this ht
theorem xJ {rs : List Rn} {e : TypeId} : (nR rwT e rs).length = rs.length := by simp [zn]
theorem y7 {rs : List Rn} {e : TypeId} {N : Reg} : (nR rwT e rs ++ [N]).length = rs.length + 1 := by simp [zn]
theorem y6 {rs : List Rn} {e : TypeId} {N M : Reg} : (nR rwT e rs ++ [N] ++ [M]).length = rs.length + 2 := by simp [zn]
theorem xF {rs : List Rn} {e : TypeId} {N M O : Reg} : (nR rwT e rs ++ [N] ++ [M] ++ [O]).length = rs.length + 3 := by simp [zn]
theorem ix9 {n j i : Nat} (h : (List.range' 9 n)[j]? = some i) : i = 9 + j := by
  rw [List.getElem?_range'] at h
  · have := Option.some.inj h; omega
  · exact Nat.lt_of_not_le fun hn => by rw [List.getElem?_eq_none (by simpa using hn)] at h; cases h
def stQ (s x : So) (g : Int) (r : List Rw) : Exit → St → Prop := fun e S' => e = .normal ∧ Sub (stT s x g r) S'
end Go.Proofs.Ytojcojanokhnaaa.Ab
namespace Go.Proofs.Ytojcojanokhnaaa.Ab
open Go.RowKit
theorem pN {s : So} {r : Rw} (h : yi s ≤ 60) : IntKind.i64.wrap (yi s + y4 r) = yi s + y4 r := by
  have h1 := cZ s
  have h2 := xp r
  rw [IntKind.wrap_i64]; omega
theorem c_put (s : So) (g : Int) (r : Rw) (hok : okSo s) (hb : VBa s) (hm : yi s ≤ 60) (hp : s.ph = 1) (hr : s.input[s.pos.toNat]? = some r) (hf : yi s + y4 r ≤ g) : AW Go.Proofs.Try.prog u6 (stQ s (wx s r) g []) (stT s s g []) := by
  obtain ⟨p, hpp, hple⟩ := hb.pos
  have e1 : s.pos.toNat = p := by omega
  rw [e1] at hr
  have hlt := (List.getElem?_eq_some_iff.1 hr).1
  have g1 := hok.heap
  have g2 := hok.dfr
  have g3 := hok.input
  have am := qL s hok
  have ew : IntKind.i64.wrap (s.pos + 1) = s.pos + 1 := by rw [IntKind.wrap_i64]; omega
  have cb := pf r s.out (by have := hok.out; omega)
  repeat' first | (refine zh rfl (fun _ => ?_) (fun h => absurd hp (of_decide_eq_false h))) | refine zK ?_ | refine zA ?_ | refine zP [] ?_ | (refine isA ?_; refine zd rfl ?_) | (refine isL ?_; refine zU rfl (by kernel_rfl) rfl rfl ?_) | (refine zb rfl ?_; refine zT rfl (by kernel_rfl) rfl rfl ?_) | refine zD ?_ | refine zB _ rfl (by kernel_rfl) ?_ | refine zV rfl ?_ | refine zW rfl ?_ | refine zC ?_ | with_reducible refine zN ?_ | refine zH ?_ | refine zI ?_ | (with_reducible first | refine zL ?_ | refine zM ?_ | refine zE ?_ | refine zG ?_ | refine zF ?_) | refine zO ?_
  refine yK rfl rfl rfl rfl (fun _ => ?_) (fun h => absurd (of_decide_eq_false h) (by omega))
  repeat' first | refine zK ?_ | refine zA ?_ | refine zP [] ?_ | (refine isA ?_; refine zd rfl ?_) | (refine isL ?_; refine zU rfl (by kernel_rfl) rfl rfl ?_) | (refine zb rfl ?_; refine zT rfl (by kernel_rfl) rfl rfl ?_) | (refine zu 19 ?_; refine zc rfl (zQ rfl am (.cons (pK rfl rfl rfl rfl rfl fun j x hx => uP (xT hx)) .nil) rfl) rfl ?_) | (refine zv 19 rfl ?_; refine zY rfl (by kernel_rfl) rfl (zQ rfl am (.cons (pK rfl rfl rfl rfl rfl fun j x hx => uP (xT hx)) .nil) rfl) rfl ?_) | (refine yB (x := .tmp 53) ?_; refine zc rfl (zq (j := s.pos) rfl rfl rfl (Nat.zero_le _) rfl rfl (by omega) (by omega)) rfl ?_) | (refine yA (x := .tmp 53) rfl ?_; refine zY rfl (by kernel_rfl) rfl (zq (j := s.pos) rfl rfl rfl (Nat.zero_le _) rfl rfl (by omega) (by omega)) rfl ?_) | (refine xe (x := .tmp 56) ?_; refine zc rfl (yv (T := rwT) (i := 0 + s.pos.toNat) (z := r) rfl rfl rfl (by rw [Nat.zero_add, e1]; exact hr)) rfl ?_) | (refine xi (x := .tmp 56) rfl ?_; refine zY rfl (by kernel_rfl) rfl (yv (T := rwT) (i := 0 + s.pos.toNat) (z := r) rfl rfl rfl (by rw [Nat.zero_add, e1]; exact hr)) rfl ?_) | (refine zu 58 ?_; refine zc rfl (zQ rfl (vA r) (.cons (.same rfl) .nil) rfl) rfl ?_) | (refine zv 58 rfl ?_; refine zY rfl (by kernel_rfl) rfl (zQ rfl (vA r) (.cons (.same rfl) .nil) rfl) rfl ?_) | refine zD ?_ | refine zB _ rfl (by kernel_rfl) ?_ | refine zV rfl ?_ | refine zW rfl ?_ | refine zC ?_ | with_reducible refine zN ?_ | refine zH ?_ | refine zI ?_ | (with_reducible first | refine zL ?_ | refine zM ?_ | refine zE ?_ | refine zG ?_ | refine zF ?_) | refine zO ?_
  refine zh rfl (fun _ => ?_) (fun h => absurd (of_decide_eq_false h) (by rw [pN hm]; omega))
  repeat' first | refine zK ?_ | refine zA ?_ | refine zP [] ?_ | (refine isA ?_; refine zd rfl ?_) | (refine isL ?_; refine zU rfl (by kernel_rfl) rfl rfl ?_) | (refine zb rfl ?_; refine zT rfl (by kernel_rfl) rfl rfl ?_) | (refine yB (x := .tmp 64) ?_; refine zc rfl (zq (j := s.pos) rfl rfl rfl (Nat.zero_le _) rfl rfl (by omega) (by omega)) rfl ?_) | (refine yA (x := .tmp 64) rfl ?_; refine zY rfl (by kernel_rfl) rfl (zq (j := s.pos) rfl rfl rfl (Nat.zero_le _) rfl rfl (by omega) (by omega)) rfl ?_) | (refine xe (x := .tmp 67) ?_; refine zc rfl (yv (T := rwT) (i := 0 + s.pos.toNat) (z := r) rfl rfl rfl (by rw [Nat.zero_add, e1]; exact hr)) rfl ?_) | (refine xi (x := .tmp 67) rfl ?_; refine zY rfl (by kernel_rfl) rfl (yv (T := rwT) (i := 0 + s.pos.toNat) (z := r) rfl rfl rfl (by rw [Nat.zero_add, e1]; exact hr)) rfl ?_) | (refine qV (x := .tmp 9) ?_; refine zc rfl (wR rfl rfl rfl rfl rfl (wo r) rfl rfl) rfl ?_) | (refine qU (x := .tmp 9) rfl ?_; refine zY rfl (by kernel_rfl) rfl (wR rfl rfl rfl rfl rfl (wo r) rfl rfl) rfl ?_) | (refine xe (x := .tmp 9) ?_; refine zc rfl (xd rfl rfl (zg rfl) rfl rfl) rfl ?_) | (refine xi (x := .tmp 9) rfl ?_; refine zY rfl (by kernel_rfl) rfl (xd rfl rfl (zg rfl) rfl rfl) rfl ?_) | (refine zu 59 ?_; refine zc rfl (zQ rfl cb (.cons (.same rfl) (.cons (zr rfl) .nil)) rfl) rfl ?_) | (refine zv 59 rfl ?_; refine zY rfl (by kernel_rfl) rfl (zQ rfl cb (.cons (.same rfl) (.cons (zr rfl) .nil)) rfl) rfl ?_) | refine zD ?_ | refine zB _ rfl (by kernel_rfl) ?_ | refine zV rfl ?_ | refine zW rfl ?_ | refine zC ?_ | with_reducible refine zN ?_ | refine zH ?_ | refine zI ?_ | (with_reducible first | refine zL ?_ | refine zM ?_ | refine zE ?_ | refine zG ?_ | refine zF ?_) | refine zO ?_
  refine zh rfl (fun h => ?_) (fun h => ?_)
  · repeat' first | (refine isA ?_; refine zc rfl (yS rfl rfl rfl rfl rfl) rfl ?_) | refine zK ?_ | refine zA ?_ | refine zP [] ?_ | (refine isA ?_; refine zd rfl ?_) | (refine isL ?_; refine zU rfl (by kernel_rfl) rfl rfl ?_) | (refine zb rfl ?_; refine zT rfl (by kernel_rfl) rfl rfl ?_) | (refine xe (x := .tmp 9) ?_; refine zc rfl (xd rfl rfl (zg rfl) rfl rfl) rfl ?_) | (refine xi (x := .tmp 9) rfl ?_; refine zY rfl (by kernel_rfl) rfl (xd rfl rfl (zg rfl) rfl rfl) rfl ?_) | (refine xR ?_; refine zc rfl (yV (t := rwT) (xs := s.dfr) (ys := [r]) rfl rfl rfl rfl (.lst _ _) (by simp; omega) rfl) rfl ?_) | (refine xC rfl ?_; refine zY rfl (by kernel_rfl) rfl (yV (t := rwT) (xs := s.dfr) (ys := [r]) rfl rfl rfl rfl (.lst _ _) (by simp; omega) rfl) rfl ?_) | refine zD ?_ | refine zB _ rfl (by kernel_rfl) ?_ | refine zV rfl ?_ | refine zW rfl ?_ | refine zC ?_ | with_reducible refine zN ?_ | refine zH ?_ | refine zI ?_ | (with_reducible first | refine zL ?_ | refine zM ?_ | refine zE ?_ | refine zG ?_ | refine zF ?_) | refine zO ?_
    have e : wx s r = { s with dfr := s.dfr ++ [r], pos := s.pos + 1 } := by unfold wx; rw [h]; rfl
    rw [e]
    refine And.intro rfl (wc [0, 1, 2, 3, 4, 5, s.runs.length + 1 + 9, 7, 8] (List.range' 9 s.runs.length) rfl (by simp) (xK (by simp <;> omega) (fun h hh => by simp at hh; omega)) (by repeat' first | exact HLes.nil | refine HLes.cons rfl rfl rfl rfl (zX (zJ _ _)) ?_ | refine HLes.cons rfl rfl rfl rfl (z5 rfl) ?_ | refine HLes.cons rfl rfl rfl rfl (wH (fun j hj => wV _ 9 _ j hj)) ?_ | refine HLes.cons (z7 (zg xJ)) rfl rfl rfl (zX (zJ _ _)) ?_ | refine HLes.cons (z7 (zg y7)) rfl rfl rfl (zX (zJ _ _)) ?_ | refine HLes.cons (z7 (zg y6)) rfl rfl rfl (zX (zJ _ _)) ?_ | refine HLes.cons (z7 (zg xF)) rfl rfl rfl (zX (zJ _ _)) ?_ | refine HLes.cons (z7 (za (zg xJ))) rfl rfl rfl (zX (zJ _ _)) ?_ | refine HLes.cons (z7 (za (zg y7))) rfl rfl rfl (zX (zJ _ _)) ?_ | refine HLes.cons (z7 (za (zg y6))) rfl rfl rfl (zX (zJ _ _)) ?_ | refine HLes.cons (z7 (za (zg xF))) rfl rfl rfl (zX (zJ _ _)) ?_ | refine HLes.cons (z7 (za (za (zg xJ)))) rfl rfl rfl (zX (zJ _ _)) ?_ | refine HLes.cons (z7 (za (za (zg y7)))) rfl rfl rfl (zX (zJ _ _)) ?_ | refine HLes.cons (z7 (za (za (zg y6)))) rfl rfl rfl (zX (zJ _ _)) ?_ | refine HLes.cons (z7 (za (za (zg xF)))) rfl rfl rfl (zX (zJ _ _)) ?_ | refine HLes.cons rfl rfl rfl rfl (by repeat' first | exact zj | refine zZ ?_ ?_ | exact zp | exact le_refl rfl | exact zk rfl rfl | exact zx rfl | exact zx (congrArg some (by simp [zn] <;> omega)) | exact zk rfl (by simp) | exact zk (congrArg some (by simp [zn] <;> omega)) rfl | exact zk (congrArg some (by simp [zn] <;> omega)) (by simp [yc, xk, yF]) | exact yC (congrArg _ (by assumption)) | exact yC (congrArg _ (Eq.symm (by assumption)))) ?_) (fun j i x hi hx => by rw [ix9 hi]; exact uP (za (za (xT hx)))) (by repeat' first | exact zj | refine zZ ?_ ?_ | exact zp | exact le_refl rfl | exact zk rfl rfl | exact zx rfl | exact zx (congrArg some (by simp [zn] <;> omega)) | exact zk rfl (by simp) | exact zk (congrArg some (by simp [zn] <;> omega)) rfl | exact zk (congrArg some (by simp [zn] <;> omega)) (by simp [yc, xk, yF]) | exact yC (congrArg _ (by assumption)) | exact yC (congrArg _ (Eq.symm (by assumption)))))
  · repeat' first | (refine isA ?_; refine zc rfl (yS rfl rfl rfl rfl rfl) rfl ?_) | refine zK ?_ | refine zA ?_ | refine zP [] ?_ | (refine isA ?_; refine zd rfl ?_) | (refine isL ?_; refine zU rfl (by kernel_rfl) rfl rfl ?_) | (refine zb rfl ?_; refine zT rfl (by kernel_rfl) rfl rfl ?_) | (refine xe (x := .tmp 9) ?_; refine zc rfl (xd rfl rfl (zg rfl) rfl rfl) rfl ?_) | (refine xi (x := .tmp 9) rfl ?_; refine zY rfl (by kernel_rfl) rfl (xd rfl rfl (zg rfl) rfl rfl) rfl ?_) | (refine xR ?_; refine zc rfl (yV (t := rwT) (xs := s.heap) (ys := [r]) rfl rfl rfl rfl (.lst _ _) (by simp; omega) rfl) rfl ?_) | (refine xC rfl ?_; refine zY rfl (by kernel_rfl) rfl (yV (t := rwT) (xs := s.heap) (ys := [r]) rfl rfl rfl rfl (.lst _ _) (by simp; omega) rfl) rfl ?_) | refine zD ?_ | refine zB _ rfl (by kernel_rfl) ?_ | refine zV rfl ?_ | refine zW rfl ?_ | refine zC ?_ | with_reducible refine zN ?_ | refine zH ?_ | refine zI ?_ | (with_reducible first | refine zL ?_ | refine zM ?_ | refine zE ?_ | refine zG ?_ | refine zF ?_) | refine zO ?_
    have e : wx s r = { s with heap := s.heap ++ [r], pos := s.pos + 1 } := by unfold wx; rw [h]; rfl
    rw [e]
    refine And.intro rfl (wc [0, 1, 2, 3, 4, s.runs.length + 1 + 9, 6, 7, 8] (List.range' 9 s.runs.length) rfl (by simp) (xK (by simp <;> omega) (fun h hh => by simp at hh; omega)) (by repeat' first | exact HLes.nil | refine HLes.cons rfl rfl rfl rfl (zX (zJ _ _)) ?_ | refine HLes.cons rfl rfl rfl rfl (z5 rfl) ?_ | refine HLes.cons rfl rfl rfl rfl (wH (fun j hj => wV _ 9 _ j hj)) ?_ | refine HLes.cons (z7 (zg xJ)) rfl rfl rfl (zX (zJ _ _)) ?_ | refine HLes.cons (z7 (zg y7)) rfl rfl rfl (zX (zJ _ _)) ?_ | refine HLes.cons (z7 (zg y6)) rfl rfl rfl (zX (zJ _ _)) ?_ | refine HLes.cons (z7 (zg xF)) rfl rfl rfl (zX (zJ _ _)) ?_ | refine HLes.cons (z7 (za (zg xJ))) rfl rfl rfl (zX (zJ _ _)) ?_ | refine HLes.cons (z7 (za (zg y7))) rfl rfl rfl (zX (zJ _ _)) ?_ | refine HLes.cons (z7 (za (zg y6))) rfl rfl rfl (zX (zJ _ _)) ?_ | refine HLes.cons (z7 (za (zg xF))) rfl rfl rfl (zX (zJ _ _)) ?_ | refine HLes.cons (z7 (za (za (zg xJ)))) rfl rfl rfl (zX (zJ _ _)) ?_ | refine HLes.cons (z7 (za (za (zg y7)))) rfl rfl rfl (zX (zJ _ _)) ?_ | refine HLes.cons (z7 (za (za (zg y6)))) rfl rfl rfl (zX (zJ _ _)) ?_ | refine HLes.cons (z7 (za (za (zg xF)))) rfl rfl rfl (zX (zJ _ _)) ?_ | refine HLes.cons rfl rfl rfl rfl (by repeat' first | exact zj | refine zZ ?_ ?_ | exact zp | exact le_refl rfl | exact zk rfl rfl | exact zx rfl | exact zx (congrArg some (by simp [zn] <;> omega)) | exact zk rfl (by simp) | exact zk (congrArg some (by simp [zn] <;> omega)) rfl | exact zk (congrArg some (by simp [zn] <;> omega)) (by simp [yc, xk, yF]) | exact yC (congrArg _ (by assumption)) | exact yC (congrArg _ (Eq.symm (by assumption)))) ?_) (fun j i x hi hx => by rw [ix9 hi]; exact uP (za (za (xT hx)))) (by repeat' first | exact zj | refine zZ ?_ ?_ | exact zp | exact le_refl rfl | exact zk rfl rfl | exact zx rfl | exact zx (congrArg some (by simp [zn] <;> omega)) | exact zk rfl (by simp) | exact zk (congrArg some (by simp [zn] <;> omega)) rfl | exact zk (congrArg some (by simp [zn] <;> omega)) (by simp [yc, xk, yF]) | exact yC (congrArg _ (by assumption)) | exact yC (congrArg _ (Eq.symm (by assumption)))))
abbrev T10 (s : So) (g : Int) : St := ⟨(.any :: (I g) :: (.ptr 0 0) :: .any :: (.ptr 1 0) :: .any :: .any :: (.ptr 2 0) :: (.sl 3 0 0) :: .any :: .any :: .any :: .any :: .any :: .any :: .any :: .any :: .any :: .any :: .any :: .any :: .any :: .any :: .any :: .any :: .any :: .any :: .any :: .any :: .any :: .any :: .any :: .any :: .any :: .any :: .any :: .any :: .any :: .any :: .any :: .any :: .any :: (B false) :: .any :: .any :: .any :: .any :: .any :: .any :: .any :: .any :: .any :: .any :: .any :: .any :: .any :: .any :: .any :: .any :: .any :: .any :: .any :: .any :: .any :: .any :: .any :: .any :: .any :: .any :: .any :: .any :: .any :: .any :: .any :: .any :: .any :: .any :: .any :: .any :: .any :: .any :: .any :: .any :: .any :: .any :: .any :: .any :: .any :: .any :: .any :: .any :: .any :: .any :: .any :: .any :: .any :: .any :: .any :: .any :: .any :: .any :: .any :: .any :: .any :: .any :: .any :: .any :: .any :: .any :: .any :: .any :: .any :: .any :: .any :: .any :: .any :: .any :: .any :: .any :: .any :: .any :: .any :: .any :: .any :: .any :: .any :: .any :: .any :: .any :: .any :: .any :: .any :: .any :: .any :: .any :: .any :: .any :: .any :: .any :: .any :: .any :: .any :: .any :: .any :: .any :: .any :: .any :: .any :: .any :: .any :: .any :: .any :: .any :: .any :: .any :: .any :: .any :: .any :: .any :: .any :: .any :: .any :: .any :: .any :: .any :: .any :: .any :: .any :: .any :: .any :: .any :: .any :: .any :: .any :: .any :: .any :: .any :: .any :: .any :: .any :: .any :: .any :: .any :: .any :: .any :: .any :: .any :: .any :: .any :: .any :: .any :: .any :: .any :: .any :: .any :: .any :: .any :: .any :: .any :: .any :: .any :: .any :: .any :: .any :: .any :: .any :: .any :: .any :: .any :: .any :: .any :: .any :: .any :: .any :: .any :: .any :: .any :: .any :: .any :: .any :: .any :: .any :: .any :: .any :: .any :: .any :: .any :: .any :: .any :: .any :: .any :: .any :: .any :: .any :: .any :: .any :: .any :: .any :: .any :: .any :: .any :: .any :: .any :: .any :: .any :: .any :: .any :: .any :: .any :: []), stH s s [], 0⟩
noncomputable def reg10 : Code := match u6 with
  | .seq _ (.block _ (.seq _ (.cond _ (.block _ (.seq r _)) _))) => r
  | _ => .skip
theorem sU (s : So) (g : Int) (hok : okSo s) (hb : VBa s) (hm : yi s ≤ 60) (hf : ur s g) : AW Go.Proofs.Try.prog reg10 (fun e S' => e = .normal ∧ Sub (T10 s g) S') ⟨(.any :: (I g) :: (.ptr 0 0) :: .any :: (.ptr 1 0) :: .any :: .any :: (.ptr 2 0) :: (.sl 3 0 0) :: .any :: .any :: .any :: .any :: .any :: .any :: .any :: .any :: .any :: .any :: .any :: .any :: .any :: .any :: .any :: .any :: .any :: .any :: .any :: .any :: .any :: .any :: .any :: (.ptr 2 8) :: (I s.ph) :: (B (decide (s.ph = 1))) :: (B (decide (s.ph = 1))) :: .any :: .any :: .any :: .any :: .any :: .any :: .any :: .any :: .any :: .any :: .any :: .any :: .any :: .any :: .any :: .any :: .any :: .any :: .any :: .any :: .any :: .any :: .any :: .any :: .any :: .any :: .any :: .any :: .any :: .any :: .any :: .any :: .any :: .any :: .any :: .any :: .any :: .any :: .any :: .any :: .any :: .any :: .any :: .any :: .any :: .any :: .any :: .any :: .any :: .any :: .any :: .any :: .any :: .any :: .any :: .any :: .any :: .any :: .any :: .any :: .any :: .any :: .any :: .any :: .any :: .any :: .any :: .any :: .any :: .any :: .any :: .any :: .any :: .any :: .any :: .any :: .any :: .any :: .any :: .any :: .any :: .any :: .any :: .any :: .any :: .any :: .any :: .any :: .any :: .any :: .any :: .any :: .any :: .any :: .any :: .any :: .any :: .any :: .any :: .any :: .any :: .any :: .any :: .any :: .any :: .any :: .any :: .any :: .any :: .any :: .any :: .any :: .any :: .any :: .any :: .any :: .any :: .any :: .any :: .any :: .any :: .any :: .any :: .any :: .any :: .any :: .any :: .any :: .any :: .any :: .any :: .any :: .any :: .any :: .any :: .any :: .any :: .any :: .any :: .any :: .any :: .any :: .any :: .any :: .any :: .any :: .any :: .any :: .any :: .any :: .any :: .any :: .any :: .any :: .any :: .any :: .any :: .any :: .any :: .any :: .any :: .any :: .any :: .any :: .any :: .any :: .any :: .any :: .any :: .any :: .any :: .any :: .any :: .any :: .any :: .any :: .any :: .any :: .any :: .any :: .any :: .any :: .any :: .any :: .any :: .any :: .any :: .any :: .any :: .any :: .any :: .any :: .any :: .any :: .any :: .any :: .any :: .any :: .any :: .any :: .any :: .any :: .any :: .any :: .any :: .any :: .any :: .any :: .any :: .any :: .any :: .any :: .any :: []), stH s s [], 0⟩ := by
  obtain ⟨p, hpp, hple⟩ := hb.pos
  have e1 : s.pos.toNat = p := by omega
  have g3 := hok.input
  have am := qL s hok
  repeat' first | refine zK ?_ | refine zA ?_ | refine zP [] ?_ | (refine isA ?_; refine zd rfl ?_) | (refine isL ?_; refine zU rfl (by kernel_rfl) rfl rfl ?_) | (refine zb rfl ?_; refine zT rfl (by kernel_rfl) rfl rfl ?_) | refine zD ?_ | refine zB _ rfl (by kernel_rfl) ?_ | refine zV rfl ?_ | refine zW rfl ?_ | refine zC ?_ | with_reducible refine zN ?_ | refine zH ?_ | refine zI ?_ | (with_reducible first | refine zL ?_ | refine zM ?_ | refine zE ?_ | refine zG ?_ | refine zF ?_) | refine zO ?_
  refine yK rfl rfl rfl rfl (fun h => ?_) (fun h => ?_)
  · have hlt : p < s.input.length := by have := of_decide_eq_true h; omega
    obtain ⟨z, hz⟩ : ∃ z, s.input[p]? = some z := ⟨_, List.getElem?_eq_getElem hlt⟩
    have hfz := hf z (by rw [e1]; exact hz)
    have hd : decide (IntKind.i64.wrap (yi s + y4 z) ≤ g) = false := by rw [pN hm]; exact decide_eq_false (by omega)
    repeat' first | refine zK ?_ | refine zA ?_ | refine zP [] ?_ | (refine isA ?_; refine zd rfl ?_) | (refine isL ?_; refine zU rfl (by kernel_rfl) rfl rfl ?_) | (refine zb rfl ?_; refine zT rfl (by kernel_rfl) rfl rfl ?_) | (refine zu 19 ?_; refine zc rfl (zQ rfl am (.cons (pK rfl rfl rfl rfl rfl fun j x hx => uP (xT hx)) .nil) rfl) rfl ?_) | (refine zv 19 rfl ?_; refine zY rfl (by kernel_rfl) rfl (zQ rfl am (.cons (pK rfl rfl rfl rfl rfl fun j x hx => uP (xT hx)) .nil) rfl) rfl ?_) | (refine yB (x := .tmp 53) ?_; refine zc rfl (zq (j := s.pos) rfl rfl rfl (Nat.zero_le _) rfl rfl (by omega) (by omega)) rfl ?_) | (refine yA (x := .tmp 53) rfl ?_; refine zY rfl (by kernel_rfl) rfl (zq (j := s.pos) rfl rfl rfl (Nat.zero_le _) rfl rfl (by omega) (by omega)) rfl ?_) | (refine xe (x := .tmp 56) ?_; refine zc rfl (yv (T := rwT) (i := 0 + s.pos.toNat) (z := z) rfl rfl rfl (by rw [Nat.zero_add, e1]; exact hz)) rfl ?_) | (refine xi (x := .tmp 56) rfl ?_; refine zY rfl (by kernel_rfl) rfl (yv (T := rwT) (i := 0 + s.pos.toNat) (z := z) rfl rfl rfl (by rw [Nat.zero_add, e1]; exact hz)) rfl ?_) | (refine zu 58 ?_; refine zc rfl (zQ rfl (vA z) (.cons (.same rfl) .nil) rfl) rfl ?_) | (refine zv 58 rfl ?_; refine zY rfl (by kernel_rfl) rfl (zQ rfl (vA z) (.cons (.same rfl) .nil) rfl) rfl ?_) | refine zD ?_ | refine zB _ rfl (by kernel_rfl) ?_ | refine zV rfl ?_ | refine zW rfl ?_ | refine zC ?_ | with_reducible refine zN ?_ | refine zH ?_ | refine zI ?_ | (with_reducible first | refine zL ?_ | refine zM ?_ | refine zE ?_ | refine zG ?_ | refine zF ?_) | refine zO ?_
    exact ⟨rfl, wc [0, 1, 2, 3, 4, 5, 6, 7, 8] (List.range' 9 s.runs.length) rfl (by simp) (xK (by simp <;> omega) (fun h hh => by simp at hh; omega)) (by repeat' first | exact HLes.nil | refine HLes.cons rfl rfl rfl rfl (zX (zJ _ _)) ?_ | refine HLes.cons rfl rfl rfl rfl (z5 rfl) ?_ | refine HLes.cons rfl rfl rfl rfl (wH (fun j hj => wV _ 9 _ j hj)) ?_ | refine HLes.cons (z7 (zg xJ)) rfl rfl rfl (zX (zJ _ _)) ?_ | refine HLes.cons (z7 (zg y7)) rfl rfl rfl (zX (zJ _ _)) ?_ | refine HLes.cons (z7 (zg y6)) rfl rfl rfl (zX (zJ _ _)) ?_ | refine HLes.cons (z7 (zg xF)) rfl rfl rfl (zX (zJ _ _)) ?_ | refine HLes.cons (z7 (za (zg xJ))) rfl rfl rfl (zX (zJ _ _)) ?_ | refine HLes.cons (z7 (za (zg y7))) rfl rfl rfl (zX (zJ _ _)) ?_ | refine HLes.cons (z7 (za (zg y6))) rfl rfl rfl (zX (zJ _ _)) ?_ | refine HLes.cons (z7 (za (zg xF))) rfl rfl rfl (zX (zJ _ _)) ?_ | refine HLes.cons (z7 (za (za (zg xJ)))) rfl rfl rfl (zX (zJ _ _)) ?_ | refine HLes.cons (z7 (za (za (zg y7)))) rfl rfl rfl (zX (zJ _ _)) ?_ | refine HLes.cons (z7 (za (za (zg y6)))) rfl rfl rfl (zX (zJ _ _)) ?_ | refine HLes.cons (z7 (za (za (zg xF)))) rfl rfl rfl (zX (zJ _ _)) ?_ | refine HLes.cons rfl rfl rfl rfl (by repeat' first | exact zj | refine zZ ?_ ?_ | exact zp | exact le_refl rfl | exact zk rfl rfl | exact zx rfl | exact zx (congrArg some (by simp [zn] <;> omega)) | exact zk rfl (by simp) | exact zk (congrArg some (by simp [zn] <;> omega)) rfl | exact zk (congrArg some (by simp [zn] <;> omega)) (by simp [yc, xk, yF]) | exact yC (congrArg _ (by assumption)) | exact yC (congrArg _ (Eq.symm (by assumption)))) ?_) (fun j i x hi hx => by rw [ix9 hi]; exact uP (xT hx)) (by repeat' first | exact zj | refine zZ ?_ ?_ | exact zp | exact le_refl rfl | exact zk rfl rfl | exact zx rfl | exact zx (congrArg some (by simp [zn] <;> omega)) | exact zk rfl (by simp) | exact zk (congrArg some (by simp [zn] <;> omega)) rfl | exact zk (congrArg some (by simp [zn] <;> omega)) (by simp [yc, xk, yF]) | exact yC (congrArg _ (by assumption)) | exact yC (congrArg _ (Eq.symm (by assumption))))⟩
  · repeat' first | refine zK ?_ | refine zA ?_ | refine zP [] ?_ | (refine isA ?_; refine zd rfl ?_) | (refine isL ?_; refine zU rfl (by kernel_rfl) rfl rfl ?_) | (refine zb rfl ?_; refine zT rfl (by kernel_rfl) rfl rfl ?_) | refine zD ?_ | refine zB _ rfl (by kernel_rfl) ?_ | refine zV rfl ?_ | refine zW rfl ?_ | refine zC ?_ | with_reducible refine zN ?_ | refine zH ?_ | refine zI ?_ | (with_reducible first | refine zL ?_ | refine zM ?_ | refine zE ?_ | refine zG ?_ | refine zF ?_) | refine zO ?_
    exact ⟨rfl, wc [0, 1, 2, 3, 4, 5, 6, 7, 8] (List.range' 9 s.runs.length) rfl (by simp) (xK (by simp <;> omega) (fun h hh => by simp at hh; omega)) (by repeat' first | exact HLes.nil | refine HLes.cons rfl rfl rfl rfl (zX (zJ _ _)) ?_ | refine HLes.cons rfl rfl rfl rfl (z5 rfl) ?_ | refine HLes.cons rfl rfl rfl rfl (wH (fun j hj => wV _ 9 _ j hj)) ?_ | refine HLes.cons (z7 (zg xJ)) rfl rfl rfl (zX (zJ _ _)) ?_ | refine HLes.cons (z7 (zg y7)) rfl rfl rfl (zX (zJ _ _)) ?_ | refine HLes.cons (z7 (zg y6)) rfl rfl rfl (zX (zJ _ _)) ?_ | refine HLes.cons (z7 (zg xF)) rfl rfl rfl (zX (zJ _ _)) ?_ | refine HLes.cons (z7 (za (zg xJ))) rfl rfl rfl (zX (zJ _ _)) ?_ | refine HLes.cons (z7 (za (zg y7))) rfl rfl rfl (zX (zJ _ _)) ?_ | refine HLes.cons (z7 (za (zg y6))) rfl rfl rfl (zX (zJ _ _)) ?_ | refine HLes.cons (z7 (za (zg xF))) rfl rfl rfl (zX (zJ _ _)) ?_ | refine HLes.cons (z7 (za (za (zg xJ)))) rfl rfl rfl (zX (zJ _ _)) ?_ | refine HLes.cons (z7 (za (za (zg y7)))) rfl rfl rfl (zX (zJ _ _)) ?_ | refine HLes.cons (z7 (za (za (zg y6)))) rfl rfl rfl (zX (zJ _ _)) ?_ | refine HLes.cons (z7 (za (za (zg xF)))) rfl rfl rfl (zX (zJ _ _)) ?_ | refine HLes.cons rfl rfl rfl rfl (by repeat' first | exact zj | refine zZ ?_ ?_ | exact zp | exact le_refl rfl | exact zk rfl rfl | exact zx rfl | exact zx (congrArg some (by simp [zn] <;> omega)) | exact zk rfl (by simp) | exact zk (congrArg some (by simp [zn] <;> omega)) rfl | exact zk (congrArg some (by simp [zn] <;> omega)) (by simp [yc, xk, yF]) | exact yC (congrArg _ (by assumption)) | exact yC (congrArg _ (Eq.symm (by assumption)))) ?_) (fun j i x hi hx => by rw [ix9 hi]; exact uP (xT hx)) (by repeat' first | exact zj | refine zZ ?_ ?_ | exact zp | exact le_refl rfl | exact zk rfl rfl | exact zx rfl | exact zx (congrArg some (by simp [zn] <;> omega)) | exact zk rfl (by simp) | exact zk (congrArg some (by simp [zn] <;> omega)) rfl | exact zk (congrArg some (by simp [zn] <;> omega)) (by simp [yc, xk, yF]) | exact yC (congrArg _ (by assumption)) | exact yC (congrArg _ (Eq.symm (by assumption))))⟩
theorem c_pop (s : So) (g : Int) (k : Nat) (r : Rw) (hok : okSo s) (hb : VBa s) (hm : yi s ≤ 60) (hp : s.ph = 1) (hf : ur s g) (hh : 0 < s.heap.length) (hk : mQ s.heap = (k : Nat)) (hr : s.heap[k]? = some r) : AW Go.Proofs.Try.prog u6 (stQ s (v5 s k r) g []) (stT s s g []) := by
  obtain ⟨p, hpp, hple⟩ := hb.pos
  have e1 : s.pos.toNat = p := by omega
  have hlt := (List.getElem?_eq_some_iff.1 hr).1
  have g1 := hok.heap
  have g2 := hok.dfr
  have g3 := hok.input
  have g4 := hok.out
  have am := qL s hok
  have ai := bF s.heap (by omega)
  rw [hk] at ai
  repeat' first | (refine zh rfl (fun _ => ?_) (fun h => absurd hp (of_decide_eq_false h))) | (refine w4 10 (T10 s g) (xb ?_) ?_) | (refine yW rfl rfl (fun h => absurd (of_decide_eq_true h) (by omega)) (fun _ => ?_)) | (refine zh rfl (fun _ => ?_) (fun h => absurd (of_decide_eq_false h) (by omega))) | (refine isA ?_; refine zc rfl (yS rfl rfl rfl rfl rfl) rfl ?_) | refine zK ?_ | refine zA ?_ | refine zP [6] ?_ | (refine isA ?_; refine zd rfl ?_) | (refine isL ?_; refine zU rfl (by kernel_rfl) rfl rfl ?_) | (refine zb rfl ?_; refine zT rfl (by kernel_rfl) rfl rfl ?_) | (refine zu 61 ?_; refine zc rfl (zQ rfl ai (.cons (zr rfl) .nil) rfl) rfl ?_) | (refine zv 61 rfl ?_; refine zY rfl (by kernel_rfl) rfl (zQ rfl ai (.cons (zr rfl) .nil) rfl) rfl ?_) | (refine yB (x := .tmp 114) ?_; refine zc rfl (zq (j := (k : Int)) rfl rfl rfl (Nat.zero_le _) rfl rfl (Int.natCast_nonneg _) (by omega)) rfl ?_) | (refine yA (x := .tmp 114) rfl ?_; refine zY rfl (by kernel_rfl) rfl (zq (j := (k : Int)) rfl rfl rfl (Nat.zero_le _) rfl rfl (Int.natCast_nonneg _) (by omega)) rfl ?_) | (refine xe (x := .tmp 116) ?_; refine zc rfl (yv (T := rwT) (i := 0 + k) (z := r) rfl rfl rfl (by rw [Nat.zero_add]; exact hr)) rfl ?_) | (refine xi (x := .tmp 116) rfl ?_; refine zY rfl (by kernel_rfl) rfl (yv (T := rwT) (i := 0 + k) (z := r) rfl rfl rfl (by rw [Nat.zero_add]; exact hr)) rfl ?_) | (refine qV (x := .tmp 11) ?_; refine zc rfl (wR rfl rfl rfl rfl rfl (wo r) rfl rfl) rfl ?_) | (refine qU (x := .tmp 11) rfl ?_; refine zY rfl (by kernel_rfl) rfl (wR rfl rfl rfl rfl rfl (wo r) rfl rfl) rfl ?_) | (refine zu 62 ?_; refine zc rfl (yX rfl (ld s.heap k hlt (by omega)) (.cons (zr rfl) (.cons (.same rfl) .nil)) (fun q hq => by simp at hq; subst hq; exact zJ _ _) rfl rfl) rfl ?_) | (refine zv 62 rfl ?_; refine zY rfl (by kernel_rfl) rfl (yX rfl (ld s.heap k hlt (by omega)) (.cons (zr rfl) (.cons (.same rfl) .nil)) (fun q hq => by simp at hq; subst hq; exact zJ _ _) rfl rfl) rfl ?_) | (refine xe (x := .tmp 11) ?_; refine zc rfl (xd rfl rfl (z7 (j := (nR rwT 78 s.runs).length) (za (zg rfl))) rfl rfl) rfl ?_) | (refine xi (x := .tmp 11) rfl ?_; refine zY rfl (by kernel_rfl) rfl (xd rfl rfl (z7 (j := (nR rwT 78 s.runs).length) (za (zg rfl))) rfl rfl) rfl ?_) | (refine xe (x := .tmp 11) ?_; refine zc rfl (xd rfl rfl (z7 (j := (nR rwT 78 s.runs).length) (za (za (zg rfl)))) rfl rfl) rfl ?_) | (refine xi (x := .tmp 11) rfl ?_; refine zY rfl (by kernel_rfl) rfl (xd rfl rfl (z7 (j := (nR rwT 78 s.runs).length) (za (za (zg rfl)))) rfl rfl) rfl ?_) | (refine xR ?_; refine zc rfl (yV (t := rwT) (xs := s.out) (ys := [r]) rfl rfl rfl rfl (.lst _ _) (by simp; omega) rfl) rfl ?_) | (refine xC rfl ?_; refine zY rfl (by kernel_rfl) rfl (yV (t := rwT) (xs := s.out) (ys := [r]) rfl rfl rfl rfl (.lst _ _) (by simp; omega) rfl) rfl ?_) | (refine zu 58 ?_; refine zc rfl (zQ rfl (vA r) (.cons (.same rfl) .nil) rfl) rfl ?_) | (refine zv 58 rfl ?_; refine zY rfl (by kernel_rfl) rfl (zQ rfl (vA r) (.cons (.same rfl) .nil) rfl) rfl ?_) | (refine isL ?_; refine w5 rfl (by kernel_rfl) rfl rfl ?_) | refine zD ?_ | refine zB _ rfl (by kernel_rfl) ?_ | refine zV rfl ?_ | refine zW rfl ?_ | refine zC ?_ | with_reducible refine zN ?_ | refine zH ?_ | refine zI ?_ | (with_reducible first | refine zL ?_ | refine zM ?_ | refine zE ?_ | refine zG ?_ | refine zF ?_) | refine zO ?_
  · exact xy (sU s g hok hb hm hf)
  · refine And.intro rfl (wc [0, 1, 2, 3, 4, s.runs.length + 1 + 9, 6, s.runs.length + 2 + 9, 8] (List.range' 9 s.runs.length) rfl (by simp [v5]) (xK (by simp <;> omega) (fun h hh => by simp at hh; omega)) (by repeat' first | exact HLes.nil | refine HLes.cons rfl rfl rfl rfl (zX (zJ _ _)) ?_ | refine HLes.cons rfl rfl rfl rfl (z5 rfl) ?_ | refine HLes.cons rfl rfl rfl rfl (wH (fun j hj => wV _ 9 _ j hj)) ?_ | refine HLes.cons (z7 (zg xJ)) rfl rfl rfl (zX (zJ _ _)) ?_ | refine HLes.cons (z7 (zg y7)) rfl rfl rfl (zX (zJ _ _)) ?_ | refine HLes.cons (z7 (zg y6)) rfl rfl rfl (zX (zJ _ _)) ?_ | refine HLes.cons (z7 (zg xF)) rfl rfl rfl (zX (zJ _ _)) ?_ | refine HLes.cons (z7 (za (zg xJ))) rfl rfl rfl (zX (zJ _ _)) ?_ | refine HLes.cons (z7 (za (zg y7))) rfl rfl rfl (zX (zJ _ _)) ?_ | refine HLes.cons (z7 (za (zg y6))) rfl rfl rfl (zX (zJ _ _)) ?_ | refine HLes.cons (z7 (za (zg xF))) rfl rfl rfl (zX (zJ _ _)) ?_ | refine HLes.cons (z7 (za (za (zg xJ)))) rfl rfl rfl (zX (zJ _ _)) ?_ | refine HLes.cons (z7 (za (za (zg y7)))) rfl rfl rfl (zX (zJ _ _)) ?_ | refine HLes.cons (z7 (za (za (zg y6)))) rfl rfl rfl (zX (zJ _ _)) ?_ | refine HLes.cons (z7 (za (za (zg xF)))) rfl rfl rfl (zX (zJ _ _)) ?_ | refine HLes.cons rfl rfl rfl rfl (by repeat' first | exact zj | refine zZ ?_ ?_ | exact zp | exact le_refl rfl | exact zk rfl rfl | exact zx rfl | exact zx (congrArg some (by simp [zn] <;> omega)) | exact zk rfl (by simp) | exact zk (congrArg some (by simp [zn] <;> omega)) rfl | exact zk (congrArg some (by simp [zn] <;> omega)) (by simp [yc, xk, yF]) | exact yC (congrArg _ (by assumption)) | exact yC (congrArg _ (Eq.symm (by assumption)))) ?_) (fun j i x hi hx => by rw [ix9 hi]; exact uP (za (za (za (xT hx))))) (by repeat' first | exact zj | refine zZ ?_ ?_ | exact zp | exact le_refl rfl | exact zk rfl rfl | exact zx rfl | exact zx (congrArg some (by simp [zn] <;> omega)) | exact zk rfl (by simp) | exact zk (congrArg some (by simp [zn] <;> omega)) rfl | exact zk (congrArg some (by simp [zn] <;> omega)) (by simp [yc, xk, yF]) | exact yC (congrArg _ (by assumption)) | exact yC (congrArg _ (Eq.symm (by assumption)))))
end Go.Proofs.Ytojcojanokhnaaa.Ab
namespace Go.Proofs.Ytojcojanokhnaaa.Ab
open Go.RowKit
theorem ap_c {o : Oper} {ρ : Operand → V} {H : List Reg} {h hz : Nat} {v : V} {s x : Operand} {cells : List V} (ho : o.op = .call { callee := .builtin .append, args := #[s, x], argTypes := #[25, 25] })
    (hs : ρ s = .sl h 0 cells.length) (hH : H[h]? = some ⟨84, 1, cells, 0⟩) (hx : ρ x = .sl hz 0 1) (hzz : H[hz]? = some ⟨84, 1, [v], 0⟩) (hv : v6 v = true) (hl : cells.length ≤ 100000000) :
    z8 Go.Proofs.Try.prog o ρ H (.sl H.length 0 (cells.length + 1)) (H.set h ⟨84, 1, cells, 2⟩ ++ [⟨84, 1, cells ++ [v], 0⟩]) := by
  have hsrc : Src H (ρ x) 1 [v] := by
    rw [hx]
    exact Src.sl (H := H) (off := 0) (m := 1) (r := ⟨84, 1, [v], 0⟩) hzz (Nat.zero_le _) (Nat.le_refl _)
  have := vT (P := Go.Proofs.Try.prog) (ρ := ρ) (ty := 25) (m := 1) ho hs hH rfl rfl rfl (by show cells.length * 1 ≤ cells.length; omega) hsrc rfl (fun c hc => by simp at hc; subst hc; exact hv) (by omega) (by simp only [maxLen]; omega)
  have e1 : (⟨84, 1, cells, 0⟩ : Reg).cells.take (cells.length * 1) = cells := by
    show cells.take _ = _
    rw [List.take_of_length_le (by omega)]
  rw [e1] at this
  exact this
theorem nw (a0 a1 a3 a4 a5 a6 : Reg) (c0 c1 c2 c3 c6 c7 c8 c9 : V) (out : List Rw) (cells : List V) (n : Nat) (hn : cells.length = n) (L : List Reg) (hl : n ≤ 100000000) :
    zz Go.Proofs.Try.prog 60 [.ptr 2 0] (a0 :: a1 :: bxS [c0, c1, c2, c3, .sl 7 0 out.length, .sl 8 0 n, c6, c7, c8, c9] :: a3 :: a4 :: a5 :: a6 :: rwR out :: ⟨84, 1, cells, 0⟩ :: L) (.tup [])
      (a0 :: a1 :: bxS [c0, c1, c2, c3, vN, .sl ((L ++ [(⟨84, 1, [.sl 7 0 out.length], 0⟩ : Reg)]).length + 9) 0 (n + 1), c6, c7, c8, c9] :: a3 :: a4 :: a5 :: a6 :: rwR out :: ⟨84, 1, cells, 2⟩ :: (L ++ [⟨84, 1, [.sl 7 0 out.length], 0⟩] ++ [⟨84, 1, cells ++ [.sl 7 0 out.length], 0⟩])) true := by
  subst hn
  refine zw [] Go.Proofs.Try.func60 rfl rfl ?_
  simp only [Go.Proofs.Try.ntmps60, List.length_cons, List.length_nil, Nat.reduceAdd, Nat.reduceSub, List.replicate_succ, List.replicate_zero, List.cons_append, List.nil_append]
  repeat' first | refine zK ?_ | refine zA ?_ | (refine isA ?_; refine zd rfl ?_) | (refine isL ?_; refine zU rfl (by kernel_rfl) rfl rfl ?_) | (refine zb rfl ?_; refine zT rfl (by kernel_rfl) rfl rfl ?_) | refine zD ?_ | refine zB _ rfl (by kernel_rfl) ?_ | refine zV rfl ?_ | refine zW rfl ?_ | refine zC ?_ | with_reducible refine zN ?_ | refine zH ?_ | refine zI ?_ | (with_reducible first | refine zL ?_ | refine zM ?_ | refine zE ?_ | refine zG ?_ | refine zF ?_) | refine zO ?_
  refine ub 14 (fun H => H[2]? = some (bxS [c0, c1, c2, c3, .sl 7 0 out.length, .sl 8 0 cells.length, c6, c7, c8, c9])) 15 rfl ?_
  refine yD 0 (Or.inr rfl) rfl rfl (by kernel_rfl) rfl (fun _ => rfl) rfl ?_
  refine yD 1 (Or.inr rfl) rfl rfl (by kernel_rfl) rfl (fun _ => rfl) rfl ?_
  refine yD 2 (Or.inr rfl) rfl rfl (by kernel_rfl) rfl (fun _ => rfl) rfl ?_
  refine yD 3 (Or.inr rfl) rfl rfl (by kernel_rfl) rfl (fun _ => rfl) rfl ?_
  refine vu 4 rfl (by kernel_rfl) rfl (by kernel_rfl) rfl (fun _ hG => xu rfl rfl hG rfl rfl) rfl ?_
  refine yD 5 (Or.inr rfl) rfl rfl (by kernel_rfl) rfl (fun _ => rfl) rfl ?_
  refine yD 6 (Or.inr rfl) rfl rfl (by kernel_rfl) rfl (fun _ => rfl) rfl ?_
  refine yD 7 (Or.inr rfl) rfl rfl (by kernel_rfl) rfl (fun _ => rfl) rfl ?_
  refine vu 8 rfl (by kernel_rfl) rfl (by kernel_rfl) rfl (fun _ hG => xu rfl rfl hG rfl rfl) rfl ?_
  refine yD 9 (Or.inr rfl) rfl rfl (by kernel_rfl) rfl (fun _ => rfl) rfl ?_
  refine xU 10 (by kernel_rfl) rfl rfl rfl (Or.inr rfl) rfl ?_
  refine uw 11 (by kernel_rfl) rfl rfl (ap_c rfl rfl rfl rfl (zg rfl) rfl hl) (Or.inr rfl) rfl ?_
  refine yD 12 (Or.inr rfl) rfl rfl (by kernel_rfl) rfl (fun _ => rfl) rfl ?_
  refine yD 13 (Or.inr rfl) rfl rfl (by kernel_rfl) rfl (fun _ => rfl) rfl ?_
  refine xU 14 (by kernel_rfl) rfl rfl rfl (Or.inl (by kernel_rfl)) rfl ?_
  refine vH (by kernel_rfl) ?_
  repeat' first | refine zK ?_ | refine zA ?_ | refine zP [] ?_ | (refine isA ?_; refine zd rfl ?_) | (refine isL ?_; refine zU rfl (by kernel_rfl) rfl rfl ?_) | (refine zb rfl ?_; refine zT rfl (by kernel_rfl) rfl rfl ?_) | refine zD ?_ | refine zB _ rfl (by kernel_rfl) ?_ | refine zV rfl ?_ | refine zW rfl ?_ | refine zC ?_ | with_reducible refine zN ?_ | refine zH ?_ | refine zI ?_ | (with_reducible first | refine zL ?_ | refine zM ?_ | refine zE ?_ | refine zG ?_ | refine zF ?_) | refine zO ?_
  exact dz (Or.inr rfl) rfl
theorem qJ (a0 a1 : Reg) (c0 c1 c2 c3 c4 c6 c7 c8 c9 : V) (h5 o5 n5 : Nat) (L : List Reg) :
    zz Go.Proofs.Try.prog 63 [.ptr 2 0] (a0 :: a1 :: bxS [c0, c1, c2, c3, c4, .sl h5 o5 n5, c6, c7, c8, c9] :: L) (.tup [])
      (a0 :: a1 :: bxS [c0, c1, c2, c3, c4, .sl h5 o5 n5, I 0, I 0, I (cond (decide (n5 = 0)) 4 (cond (decide (n5 = 1)) 3 2)), c9] :: L) true := by
  have e0 : decide (n5 = 0) = decide ((n5 : Int) = 0) := decide_eq_decide.2 (by omega)
  have e1 : decide (n5 = 1) = decide ((n5 : Int) = 1) := decide_eq_decide.2 (by omega)
  rw [e0, e1]
  refine zw [] Go.Proofs.Try.func63 rfl rfl ?_
  simp only [Go.Proofs.Try.ntmps63, List.length_cons, List.length_nil, Nat.reduceAdd, Nat.reduceSub, List.replicate_succ, List.replicate_zero, List.cons_append, List.nil_append]
  repeat' first | refine zK ?_ | refine zA ?_ | refine zP [] ?_ | (refine isA ?_; refine zd rfl ?_) | (refine isL ?_; refine zU rfl (by kernel_rfl) rfl rfl ?_) | (refine zb rfl ?_; refine zT rfl (by kernel_rfl) rfl rfl ?_) | refine zD ?_ | refine zB _ rfl (by kernel_rfl) ?_ | refine zV rfl ?_ | refine zW rfl ?_ | refine zC ?_ | with_reducible refine zN ?_ | refine zH ?_ | refine zI ?_ | (with_reducible first | refine zL ?_ | refine zM ?_ | refine zE ?_ | refine zG ?_ | refine zF ?_) | refine zO ?_ | refine zh rfl (fun hbr => ?_) (fun hbr => ?_)
  all_goals (refine dz (Or.inr rfl) ?_; simp only [*, cond_true, cond_false])
end Go.Proofs.Ytojcojanokhnaaa.Ab
namespace Go.Proofs.Ytojcojanokhnaaa.Ab
open Go.RowKit
theorem nY {ψ hs : List Nat} {rs : List Rn} {z : Rn} {k : Nat} (hψ : ψ = hs ++ (List.range' 9 rs.length ++ [k])) (h9 : hs.length = 9) : Les ψ (nC 9 (rs ++ [z])) (nC 9 rs ++ [.sl k 0 z.length]) := by
  have e : nC 9 rs ++ [.sl k 0 z.length] = nX (List.range' 9 rs.length ++ [k]) (rs ++ [z]) := by
    rw [jj (by simp), jm]; rfl
  rw [e]
  refine mS (by simp) fun j hj => ?_
  rw [hψ, ← h9, je]
theorem qf {H : List Reg} {rs : List Rn} {z : Rn} {k : Nat} (hR : ∀ j x, rs[j]? = some x → H[9 + j]? = some (rwR x)) (hz : H[k]? = some (rwR z)) : ∀ (j i : Nat) (x : Rn), (List.range' 9 rs.length ++ [k])[j]? = some i → (rs ++ [z])[j]? = some x → H[i]? = some (rwR x) := fun j i x hi hx => by
  rcases Nat.lt_or_ge j rs.length with h | h
  · rw [List.getElem?_append_left (by simpa using h)] at hi
    rw [List.getElem?_append_left h] at hx
    rw [ix9 hi]
    exact hR j x hx
  · rw [List.getElem?_append_right h] at hx
    rw [List.getElem?_append_right (by simpa using h), List.length_range'] at hi
    cases hj : j - rs.length with
    | zero =>
      rw [hj] at hi hx
      cases hi
      cases hx
      exact hz
    | succ q =>
      rw [hj] at hx
      simp at hx
theorem s6 {hs : List Nat} {n k : Nat} (h1 : (k :: hs).Nodup) (h2 : ∀ h ∈ k :: hs, h < 9 ∨ 9 + n ≤ h) : (hs ++ (List.range' 9 n ++ [k])).Nodup := by
  rw [List.nodup_cons] at h1
  rw [List.nodup_append]
  refine ⟨h1.2, ?_, fun x hx y hy => ?_⟩
  · rw [List.nodup_append]
    refine ⟨List.nodup_range', by simp, fun x hx y hy => ?_⟩
    rw [List.mem_range'_1] at hx
    simp at hy
    have := h2 k (by simp)
    omega
  · rw [List.mem_append, List.mem_range'_1, List.mem_singleton] at hy
    have := h2 x (by simp [hx])
    rcases hy with hy | hy
    · omega
    · rintro rfl
      subst hy
      exact h1.1 hx
theorem cp (s : So) (g : Int) (hok : okSo s) (hb : VBa s) (hm : yi s ≤ 60) (hp : s.ph = 1) (hf : ur s g) (hh : s.heap = []) (hd : 0 < s.dfr.length) : AW Go.Proofs.Try.prog u6 (stQ s (yc s) g []) (stT s s g []) := by
  have g2 := hok.dfr
  have g4 := hok.out
  have g5 := hok.runs
  have hh0 : s.heap.length = 0 := by rw [hh]; rfl
  have ae := nw (bxS (soE s)) (bxS zS) (rwR []) (rwR s.input) (rwR s.heap) (rwR s.dfr) (.sl 4 0 s.input.length) (I s.pos) (.sl 5 0 s.heap.length) (.sl 6 0 s.dfr.length) (I s.lp) (I s.rp) (I s.ph) (I s.wr) s.out (nC 9 s.runs) s.runs.length (xN _ _) (nR rwT 78 s.runs) (by omega)
  repeat' first | (refine zh rfl (fun _ => ?_) (fun h => absurd hp (of_decide_eq_false h))) | (refine w4 10 (T10 s g) (xb ?_) ?_) | (refine yW rfl rfl (fun _ => ?_) (fun h => absurd (of_decide_eq_false h) (by omega))) | (refine zh rfl (fun _ => ?_) (fun h => absurd (of_decide_eq_false h) (by omega))) | refine zK ?_ | refine zA ?_ | refine zP [] ?_ | (refine isA ?_; refine zd rfl ?_) | (refine isL ?_; refine zU rfl (by kernel_rfl) rfl rfl ?_) | (refine zb rfl ?_; refine zT rfl (by kernel_rfl) rfl rfl ?_) | (refine zu 60 ?_; refine zc rfl (yP rfl ae rfl) rfl ?_) | (refine zv 60 rfl ?_; refine zY rfl (by kernel_rfl) rfl (yP rfl ae rfl) rfl ?_) | refine zD ?_ | refine zB _ rfl (by kernel_rfl) ?_ | refine zV rfl ?_ | refine zW rfl ?_ | refine zC ?_ | with_reducible refine zN ?_ | refine zH ?_ | refine zI ?_ | (with_reducible first | refine zL ?_ | refine zM ?_ | refine zE ?_ | refine zG ?_ | refine zF ?_) | refine zO ?_
  · exact xy (sU s g hok hb hm hf)
  · refine And.intro rfl (Sub.trans (Sub.trans ?_ (vn (l' := _) 78 3 (.rest _) (.cons (.rest _) (.cons (.rest _) (.cons (.cons (.same _) (.cons (.same _) (.cons (.same _) (.cons (.same _) (.cons .nil (.rest _)))))) (.rest _)))))) (vn (l' := _) 78 3 (.rest _) (.cons (.rest _) (.cons (.rest _) (.cons (.cons (.same _) (.cons (.same _) (.cons (.same _) (.cons .nil (.rest _))))) (.rest _))))))
    refine wc [0, 1, 2, 3, 4, 6, s.runs.length + 2 + 9, s.runs.length + 3 + 9, s.runs.length + 1 + 9] (List.range' 9 s.runs.length ++ [7]) rfl (by simp [yc]) (s6 (by simp <;> omega) (fun h hh => by simp at hh; omega)) ?_ (qf (fun j x hx => uP (za (za (za (za (xT hx)))))) rfl) (by repeat' first | exact zj | refine zZ ?_ ?_ | exact zp | exact le_refl rfl | exact zk rfl rfl | exact zx rfl | exact zx (congrArg some (by simp [zn] <;> omega)) | exact zk rfl (by simp) | exact zk (congrArg some (by simp [zn] <;> omega)) rfl | exact zk (congrArg some (by simp [zn] <;> omega)) (by simp [yc, xk, yF]) | exact yC (congrArg _ (by assumption)) | exact yC (congrArg _ (Eq.symm (by assumption))))
    refine .cons rfl rfl rfl rfl (z5 rfl) (.cons rfl rfl rfl rfl (z5 rfl) (.cons rfl rfl rfl rfl ?_ (.cons rfl rfl rfl rfl (zX (zJ _ _)) (.cons rfl rfl rfl rfl (zX (zJ _ _)) (.cons rfl rfl rfl rfl (zX (zJ _ _)) (.cons (z7 (za (zg y6))) rfl rfl rfl (zX (zJ _ _)) (.cons (z7 (zg xF)) rfl rfl rfl (zX (zJ _ _)) (.cons (z7 (za (za (zg y7)))) rfl rfl rfl (nY rfl rfl) .nil))))))))
    exact (by repeat' first | exact zj | refine zZ ?_ ?_ | exact zp | exact le_refl rfl | exact zk rfl rfl | exact zx rfl | exact zx (congrArg some (by simp [zn] <;> omega)) | exact zk rfl (by simp) | exact zk (congrArg some (by simp [zn] <;> omega)) rfl | exact zk (congrArg some (by simp [zn] <;> omega)) (by simp [yc, xk, yF]) | exact yC (congrArg _ (by assumption)) | exact yC (congrArg _ (Eq.symm (by assumption))))
theorem dL (s : So) (g : Int) (hok : okSo s) (hb : VBa s) (hm : yi s ≤ 60) (hp : s.ph = 1) (hf : ur s g) (hh : s.heap = []) (hd : s.dfr = []) : AW Go.Proofs.Try.prog u6 (stQ s (yF (y8 s)) g []) (stT s s g []) := by
  have g2 := hok.dfr
  have g4 := hok.out
  have g5 := hok.runs
  have hh0 : s.heap.length = 0 := by rw [hh]; rfl
  have hd0 : s.dfr.length = 0 := by rw [hd]; rfl
  rcases Nat.eq_zero_or_pos s.out.length with h0 | h0
  · have e : yF (y8 s) = { s with lp := 0, rp := 0, ph := cond (decide (s.runs.length = 0)) 4 (cond (decide (s.runs.length = 1)) 3 2) } := by
      rw [y8, decide_eq_false (by omega), cond_false, yF]
    rw [e]
    have an := qJ (bxS (soE s)) (bxS zS) (.sl 4 0 s.input.length) (I s.pos) (.sl 5 0 s.heap.length) (.sl 6 0 s.dfr.length) (.sl 7 0 s.out.length) (I s.lp) (I s.rp) (I s.ph) (I s.wr) 8 0 s.runs.length (rwR [] :: soR 4 s)
    repeat' first | (refine zh rfl (fun _ => ?_) (fun h => absurd hp (of_decide_eq_false h))) | (refine w4 10 (T10 s g) (xb ?_) ?_) | (refine yW rfl rfl (fun _ => ?_) (fun h => absurd (of_decide_eq_false h) (by omega))) | (refine zh rfl (fun h => absurd (of_decide_eq_true h) (by omega)) (fun _ => ?_)) | refine zK ?_ | refine zA ?_ | refine zP [] ?_ | (refine isA ?_; refine zd rfl ?_) | (refine isL ?_; refine zU rfl (by kernel_rfl) rfl rfl ?_) | (refine zb rfl ?_; refine zT rfl (by kernel_rfl) rfl rfl ?_) | (refine zu 63 ?_; refine zc rfl (yP rfl an rfl) rfl ?_) | (refine zv 63 rfl ?_; refine zY rfl (by kernel_rfl) rfl (yP rfl an rfl) rfl ?_) | refine zD ?_ | refine zB _ rfl (by kernel_rfl) ?_ | refine zV rfl ?_ | refine zW rfl ?_ | refine zC ?_ | with_reducible refine zN ?_ | refine zH ?_ | refine zI ?_ | (with_reducible first | refine zL ?_ | refine zM ?_ | refine zE ?_ | refine zG ?_ | refine zF ?_) | refine zO ?_
    · exact xy (sU s g hok hb hm hf)
    · exact And.intro rfl (wc [0, 1, 2, 3, 4, 5, 6, 7, 8] (List.range' 9 s.runs.length) rfl (by simp) (xK (by simp <;> omega) (fun h hh => by simp at hh; omega)) (by repeat' first | exact HLes.nil | refine HLes.cons rfl rfl rfl rfl (zX (zJ _ _)) ?_ | refine HLes.cons rfl rfl rfl rfl (z5 rfl) ?_ | refine HLes.cons rfl rfl rfl rfl (wH (fun j hj => wV _ 9 _ j hj)) ?_ | refine HLes.cons (z7 (zg xJ)) rfl rfl rfl (zX (zJ _ _)) ?_ | refine HLes.cons (z7 (zg y7)) rfl rfl rfl (zX (zJ _ _)) ?_ | refine HLes.cons (z7 (zg y6)) rfl rfl rfl (zX (zJ _ _)) ?_ | refine HLes.cons (z7 (zg xF)) rfl rfl rfl (zX (zJ _ _)) ?_ | refine HLes.cons (z7 (za (zg xJ))) rfl rfl rfl (zX (zJ _ _)) ?_ | refine HLes.cons (z7 (za (zg y7))) rfl rfl rfl (zX (zJ _ _)) ?_ | refine HLes.cons (z7 (za (zg y6))) rfl rfl rfl (zX (zJ _ _)) ?_ | refine HLes.cons (z7 (za (zg xF))) rfl rfl rfl (zX (zJ _ _)) ?_ | refine HLes.cons (z7 (za (za (zg xJ)))) rfl rfl rfl (zX (zJ _ _)) ?_ | refine HLes.cons (z7 (za (za (zg y7)))) rfl rfl rfl (zX (zJ _ _)) ?_ | refine HLes.cons (z7 (za (za (zg y6)))) rfl rfl rfl (zX (zJ _ _)) ?_ | refine HLes.cons (z7 (za (za (zg xF)))) rfl rfl rfl (zX (zJ _ _)) ?_ | refine HLes.cons rfl rfl rfl rfl (by repeat' first | exact zj | refine zZ ?_ ?_ | exact zp | exact le_refl rfl | exact zk rfl rfl | exact zx rfl | exact zx (congrArg some (by simp [zn] <;> omega)) | exact zk rfl (by simp) | exact zk (congrArg some (by simp [zn] <;> omega)) rfl | exact zk (congrArg some (by simp [zn] <;> omega)) (by simp [yc, xk, yF]) | exact yC (congrArg _ (by assumption)) | exact yC (congrArg _ (Eq.symm (by assumption)))) ?_) (fun j i x hi hx => by rw [ix9 hi]; exact uP (xT hx)) (by repeat' first | exact zj | refine zZ ?_ ?_ | exact zp | exact le_refl rfl | exact zk rfl rfl | exact zx rfl | exact zx (congrArg some (by simp [zn] <;> omega)) | exact zk rfl (by simp) | exact zk (congrArg some (by simp [zn] <;> omega)) rfl | exact zk (congrArg some (by simp [zn] <;> omega)) (by simp [yc, xk, yF]) | exact yC (congrArg _ (by assumption)) | exact yC (congrArg _ (Eq.symm (by assumption)))))
  · have e : yF (y8 s) = { s with runs := s.runs ++ [s.out], out := [], lp := 0, rp := 0, ph := cond (decide (s.runs.length + 1 = 0)) 4 (cond (decide (s.runs.length + 1 = 1)) 3 2) } := by
      rw [y8, decide_eq_true h0, cond_true, yF, xk]
      simp
    rw [e]
    have ae := nw (bxS (soE s)) (bxS zS) (rwR []) (rwR s.input) (rwR s.heap) (rwR s.dfr) (.sl 4 0 s.input.length) (I s.pos) (.sl 5 0 s.heap.length) (.sl 6 0 s.dfr.length) (I s.lp) (I s.rp) (I s.ph) (I s.wr) s.out (nC 9 s.runs) s.runs.length (xN _ _) (nR rwT 78 s.runs) (by omega)
    repeat' first | (refine zh rfl (fun _ => ?_) (fun h => absurd hp (of_decide_eq_false h))) | (refine w4 10 (T10 s g) (xb ?_) ?_) | (refine yW rfl rfl (fun _ => ?_) (fun h => absurd (of_decide_eq_false h) (by omega))) | (refine zh rfl (fun h => absurd (of_decide_eq_true h) (by omega)) (fun _ => ?_)) | (refine zh rfl (fun _ => ?_) (fun h => absurd (of_decide_eq_false h) (by omega))) | refine zK ?_ | refine zA ?_ | refine zP [] ?_ | (refine isA ?_; refine zd rfl ?_) | (refine isL ?_; refine zU rfl (by kernel_rfl) rfl rfl ?_) | (refine zb rfl ?_; refine zT rfl (by kernel_rfl) rfl rfl ?_) | (refine zu 60 ?_; refine zc rfl (yP rfl ae rfl) rfl ?_) | (refine zv 60 rfl ?_; refine zY rfl (by kernel_rfl) rfl (yP rfl ae rfl) rfl ?_) | (refine zu 63 ?_; refine zc rfl (yP rfl (qJ _ _ _ _ _ _ _ _ _ _ _ _ _ _ _) rfl) rfl ?_) | (refine zv 63 rfl ?_; refine zY rfl (by kernel_rfl) rfl (yP rfl (qJ _ _ _ _ _ _ _ _ _ _ _ _ _ _ _) rfl) rfl ?_) | refine zD ?_ | refine zB _ rfl (by kernel_rfl) ?_ | refine zV rfl ?_ | refine zW rfl ?_ | refine zC ?_ | with_reducible refine zN ?_ | refine zH ?_ | refine zI ?_ | (with_reducible first | refine zL ?_ | refine zM ?_ | refine zE ?_ | refine zG ?_ | refine zF ?_) | refine zO ?_
    · exact xy (sU s g hok hb hm hf)
    · refine And.intro rfl (Sub.trans ?_ (vn (l' := _) 78 3 (.rest _) (.cons (.rest _) (.cons (.rest _) (.cons (.cons (.same _) (.cons (.same _) (.cons (.same _) (.cons (.same _) (.cons .nil (.rest _)))))) (.rest _))))))
      refine wc [0, 1, 2, 3, 4, 5, 6, s.runs.length + 2 + 9, s.runs.length + 1 + 9] (List.range' 9 s.runs.length ++ [7]) rfl (by simp) (s6 (by simp <;> omega) (fun h hh => by simp at hh; omega)) ?_ (qf (fun j x hx => uP (za (za (za (xT hx))))) rfl) (by repeat' first | exact zj | refine zZ ?_ ?_ | exact zp | exact le_refl rfl | exact zk rfl rfl | exact zx rfl | exact zx (congrArg some (by simp [zn] <;> omega)) | exact zk rfl (by simp) | exact zk (congrArg some (by simp [zn] <;> omega)) rfl | exact zk (congrArg some (by simp [zn] <;> omega)) (by simp [yc, xk, yF]) | exact yC (congrArg _ (by assumption)) | exact yC (congrArg _ (Eq.symm (by assumption))))
      refine .cons rfl rfl rfl rfl (z5 rfl) (.cons rfl rfl rfl rfl (z5 rfl) (.cons rfl rfl rfl rfl ?_ (.cons rfl rfl rfl rfl (zX (zJ _ _)) (.cons rfl rfl rfl rfl (zX (zJ _ _)) (.cons rfl rfl rfl rfl (zX (zJ _ _)) (.cons rfl rfl rfl rfl (zX (zJ _ _)) (.cons (z7 (zg y6)) rfl rfl rfl (zX (zJ _ _)) (.cons (z7 (za (zg y7))) rfl rfl rfl (nY rfl rfl) .nil))))))))
      exact (by repeat' first | exact zj | refine zZ ?_ ?_ | exact zp | exact le_refl rfl | exact zk rfl rfl | exact zx rfl | exact zx (congrArg some (by simp [zn] <;> omega)) | exact zk rfl (by simp) | exact zk (congrArg some (by simp [zn] <;> omega)) rfl | exact zk (congrArg some (by simp [zn] <;> omega)) (by simp [yc, xk, yF]) | exact yC (congrArg _ (by assumption)) | exact yC (congrArg _ (Eq.symm (by assumption))))
end Go.Proofs.Ytojcojanokhnaaa.Ab
namespace Go.Proofs.Ytojcojanokhnaaa.Ab
open Go.RowKit
theorem get7 {a0 a1 a2 a3 a4 a5 a6 x : Reg} {L : List Reg} {j : Nat} (h : L[j]? = some x) : (a0 :: a1 :: a2 :: a3 :: a4 :: a5 :: a6 :: L)[7 + j]? = some x := by
  rw [Nat.add_comm]; exact h
theorem ix7 {n j i : Nat} (h : (List.range' 7 n)[j]? = some i) : i = 7 + j := by
  rw [List.getElem?_range'] at h
  · have := Option.some.inj h; omega
  · exact Nat.lt_of_not_le fun hn => by rw [List.getElem?_eq_none (by simpa using hn)] at h; cases h
theorem bB (s x : So) (g : Int) (r : List Rw) (hok : okSo s) (hv : vS s = true) (hp : s.ph = 1) (h : StepV s g x r) : AW Go.Proofs.Try.prog u6 (stQ s x g r) (stT s s g []) := by
  have hV := td.1 hv
  cases hV with
  | read b q =>
    have hm : yi s ≤ 60 := by rw [vO q.ph]; exact q.mem
    cases h with
    | put _ hr hf => exact c_put s g _ hok b hm hp hr hf
    | pop _ hf hh hk hr => exact c_pop s g _ _ hok b hm hp hf hh hk hr
    | swap _ hf hh hd => exact cp s g hok b hm hp hf hh hd
    | close _ hf hh hd => exact dL s g hok b hm hp hf hh hd
    | merged h2 => omega
    | left h2 => omega
    | right h2 => omega
    | emit h2 => omega
  | merge b t ph => omega
  | emit b t ph => omega
  | done b t ph => omega
end Go.Proofs.Ytojcojanokhnaaa.Ab
namespace Go.Proofs.Ytojcojanokhnaaa.Ab
open Go.RowKit
theorem VwS.app {H : List Reg} : ∀ (cs : List V) {ds es : List V}, VwS H ds es → VwS H (cs ++ ds) (cs ++ es)
  | [], _, _, h => h
  | c :: cs, _, _, h => .cons (.same c) (VwS.app cs h)
abbrev rnR (rs : List Rn) : Reg := xL rnT 84 rs
theorem tz {o : Oper} {ρ : Operand → V} {H : List Reg} {h hz zi n : Nat} {s x : Operand} {outs : List Rn} (ho : o.op = .call { callee := .builtin .append, args := #[s, x], argTypes := #[25, 25] })
    (hs : ρ s = .sl h 0 outs.length) (hH0 : H[h]? = some (rnR outs)) (hx : ρ x = .sl hz 0 1) (hzz : H[hz]? = some ⟨84, 1, [.sl zi 0 n], 0⟩) (hl : outs.length ≤ 10000000) :
    z8 Go.Proofs.Try.prog o ρ H (.sl H.length 0 (outs.length + 1)) (H.set h ⟨84, 1, rnT.flat outs, 2⟩ ++ [⟨84, 1, rnT.flat outs ++ [.sl zi 0 n], 0⟩]) := by
  have hsrc : Src H (ρ x) 1 [.sl zi 0 n] := by
    rw [hx]
    have := Src.sl (H := H) (off := 0) (m := 1) (r := ⟨84, 1, [.sl zi 0 n], 0⟩) hzz (Nat.zero_le _) (Nat.le_refl _)
    exact this
  have hH : H[h]? = some ⟨84, 1, rnT.flat outs, 0⟩ := hH0
  have fl : (rnT.flat outs).length = outs.length := by rw [yN]; show outs.length * 1 = _; omega
  have := vT (P := Go.Proofs.Try.prog) (ρ := ρ) (ty := 25) (m := 1) ho hs hH rfl rfl rfl (by show outs.length * 1 ≤ (rnT.flat outs).length; omega) hsrc rfl (fun c hc => by simp at hc; subst hc; rfl) (by omega) (by simp only [maxLen]; omega)
  have e1 : (⟨84, 1, rnT.flat outs, 0⟩ : Reg).cells.take (outs.length * 1) = rnT.flat outs := by
    show (rnT.flat outs).take _ = _
    rw [List.take_of_length_le]; omega
  rw [e1] at this
  exact this
theorem lI {ψ : List Nat} : ∀ {cs ds es fs : List V}, Les ψ cs ds → Les ψ es fs → Les ψ (cs ++ es) (ds ++ fs)
  | [], ds, es, fs, h, k => by
    have := xn h
    rw [List.eq_nil_of_length_eq_zero (show ds.length = 0 from this)]
    exact k
  | c :: cs, ds, es, fs, h, k => by
    rw [Les] at h
    obtain ⟨d, ds', rfl, h1, h2⟩ := h
    exact zZ h1 (lI h2 k)
theorem tr (outs : List Rn) (run : Rn) : rnT.flat (outs ++ [run]) = rnT.flat outs ++ [rwL run] := by rw [vW]; rfl
theorem ko {l : List V} {outs : List Rn} {run : Rn} (hl : Les [0] l l) :
    Sub ⟨l, [rnR (outs ++ [run])], 0⟩ ⟨l, [⟨84, 1, rnT.flat outs ++ [.sl 1 0 run.length], 0⟩, rwR run], 0⟩ := by
  refine Sub.trans ?_ (pu (h := 1) (r := rwR run) rfl rfl (Nat.zero_le _) (fun i hi => absurd hi (Nat.not_lt_zero _)))
  refine Sub.trans ?_ (kn (l' := l) (K := [rnR (outs ++ [run]), { rwR run with mode := 1 }]) (.rest _) (.cons ?_ (.rest _)))
  · exact ye [0] rfl rfl (by decide) (.cons rfl rfl rfl rfl (zX (zJ _ _)) .nil) hl
  · rw [tr]
    exact VwS.app _ (.cons (.pur (.sl (r := { rwR run with mode := 1 }) rfl (Or.inl rfl) (zJ _ _) (show 0 < 3 by omega) (by show (0 + run.length) * 3 ≤ (rwT.flat run).length; rw [yN]; show _ ≤ run.length * 3; omega) (by show rwT.flat run = ((rwT.flat run).drop (0 * 3)).take (run.length * 3); rw [Nat.zero_mul, List.drop_zero, List.take_of_length_le (by rw [yN]; exact Nat.le_refl _)]))) (.rest _))
theorem sy {live : Bool} {H : List Reg} : ∀ {cs ds es fs : List V}, Purs live H cs ds → Purs live H es fs → Purs live H (cs ++ es) (ds ++ fs)
  | _, _, _, _, .nil, k => k
  | _, _, _, _, .cons h hs, k => .cons h (sy hs k)
theorem ti {live : Bool} {H : List Reg} : ∀ {cs : List V}, NoH cs → Purs live H cs cs
  | [], _ => .nil
  | c :: cs, h => .cons (.same (h c (List.mem_cons_self ..))) (ti fun d hd => h d (List.mem_cons_of_mem _ hd))
theorem yY {H : List Reg} {h zi ty : Nat} {outs : List Rn} {run : Rn} (hH : H[h]? = some ⟨ty, 1, rnT.flat outs ++ [.sl zi 0 run.length], 0⟩) (hz : H[zi]? = some (rwR run)) : Pur true H (.sl h 0 (outs.length + 1)) (rnL (outs ++ [run])) := by
  have fl : (rnT.flat outs).length = outs.length := by rw [yN]; show outs.length * 1 = _; omega
  have e : (outs ++ [run]).length = outs.length + 1 := by simp
  rw [← e]
  refine .slN hH (Or.inr ⟨rfl, rfl⟩) (Nat.lt_succ_self 0) (by simp only [List.length_append, fl, List.length_singleton]; omega) ?_
  have q : (List.take ((outs ++ [run]).length * 1) (List.drop (0 * 1) (rnT.flat outs ++ [.sl zi 0 run.length]))) = rnT.flat outs ++ [.sl zi 0 run.length] := by
    rw [Nat.zero_mul, List.drop_zero, List.take_of_length_le (by simp only [List.length_append, fl, List.length_singleton]; omega)]
  show Purs true H (List.take ((outs ++ [run]).length * 1) (List.drop (0 * 1) (rnT.flat outs ++ [.sl zi 0 run.length]))) (rnT.flat (outs ++ [run]))
  rw [q, tr]
  exact sy (ti (zJ _ _)) (.cons (zr hz) .nil)
theorem kW (rs : List Rn) (hok : sK rs) (hl : rs.length ≤ 10000000) : zz Go.Proofs.Try.prog 118 [rnL rs] [] (.sl 0 0 rs.length) [rnR rs] true := by
  refine zw [2] Go.Proofs.Try.func118 rfl rfl ?_
  simp only [Go.Proofs.Try.ntmps118, List.length_cons, List.length_nil, Nat.reduceAdd, Nat.reduceSub, List.replicate_succ, List.replicate_zero, List.cons_append, List.nil_append]
  repeat' first | refine zK ?_ | refine zA ?_ | refine zP [] ?_ | (refine isA ?_; refine zd rfl ?_) | (refine isL ?_; refine zU rfl (by kernel_rfl) rfl rfl ?_) | (refine zb rfl ?_; refine zT rfl (by kernel_rfl) rfl rfl ?_) | refine zD ?_ | refine zB _ rfl (by kernel_rfl) ?_ | refine zV rfl ?_ | refine zW rfl ?_ | refine zC ?_ | with_reducible refine zN ?_ | refine zH ?_ | refine zI ?_ | (with_reducible first | refine zL ?_ | refine zM ?_ | refine zE ?_ | refine zG ?_ | refine zF ?_) | refine zO ?_
  refine z9 (α := { i : Nat // i ≤ rs.length }) (fun i => ⟨[rnL rs, .any, .any, .sl 0 0 (rs.take i.1).length, I i.1, .any, .any, .any, .any, .any, .any, .any, .any, .any, .any, .any, .any, .any, .any, .any, .any, .any, .any, .any], [rnR (rs.take i.1)], 0⟩) (fun i => rs.length - i.1) ⟨0, Nat.zero_le _⟩ ?_ ?_
  · exact ye [0] rfl rfl (by decide) (by repeat' first | exact HLes.nil | refine HLes.cons rfl rfl rfl rfl ?_ ?_ | exact zj | refine zZ ?_ ?_ | exact zp | exact le_refl rfl | exact zk rfl rfl | exact zx rfl) (by repeat' first | exact zj | refine zZ ?_ ?_ | exact zp | exact le_refl rfl | exact zk rfl rfl | exact zx rfl)
  · rintro ⟨i, hi⟩
    repeat' first | refine zK ?_ | refine zA ?_ | refine zP [] ?_ | (refine isA ?_; refine zd rfl ?_) | (refine isL ?_; refine zU rfl (by kernel_rfl) rfl rfl ?_) | (refine zb rfl ?_; refine zT rfl (by kernel_rfl) rfl rfl ?_) | refine zD ?_ | refine zB _ rfl (by kernel_rfl) ?_ | refine zV rfl ?_ | refine zW rfl ?_ | refine zC ?_ | with_reducible refine zN ?_ | refine zH ?_ | refine zI ?_ | (with_reducible first | refine zL ?_ | refine zM ?_ | refine zE ?_ | refine zG ?_ | refine zF ?_) | refine zO ?_
    refine zh rfl (fun h => ?_) (fun h => ?_)
    · have hlt : i < rs.length := by simpa using h
      obtain ⟨x, hx⟩ : ∃ x, rs[i]? = some x := ⟨_, List.getElem?_eq_getElem hlt⟩
      have hxl := hok.at hx
      repeat' first | refine zK ?_ | refine zA ?_ | refine zP [] ?_ | (refine isA ?_; refine zd rfl ?_) | (refine isL ?_; refine zU rfl (by kernel_rfl) rfl rfl ?_) | (refine zb rfl ?_; refine zT rfl (by kernel_rfl) rfl rfl ?_) | (refine yB (x := .tmp 14) ?_; refine zc rfl (z6 (t := rnT) (z := x) rfl rfl rfl rfl (Int.natCast_nonneg i) hx) rfl ?_) | (refine yA (x := .tmp 14) rfl ?_; refine zY rfl (by kernel_rfl) rfl (z6 (t := rnT) (z := x) rfl rfl rfl rfl (Int.natCast_nonneg i) hx) rfl ?_) | (refine xR ?_; refine zc rfl (yV (t := rwT) (xs := []) (ys := x) rfl rfl rfl rfl (.lst _ _) (by simp; omega) rfl) rfl ?_) | (refine xC rfl ?_; refine zY rfl (by kernel_rfl) rfl (yV (t := rwT) (xs := []) (ys := x) rfl rfl rfl rfl (.lst _ _) (by simp; omega) rfl) rfl ?_) | (refine xR ?_; refine zc rfl (tz (outs := rs.take i) (hz := 3) (zi := 2) (n := x.length) rfl rfl rfl rfl rfl (by simp; omega)) rfl ?_) | (refine xC rfl ?_; refine zY rfl (by kernel_rfl) rfl (tz (outs := rs.take i) (hz := 3) (zi := 2) (n := x.length) rfl rfl rfl rfl rfl (by simp; omega)) rfl ?_) | refine zD ?_ | refine zB _ rfl (by kernel_rfl) ?_ | refine zV rfl ?_ | refine zW rfl ?_ | refine zC ?_ | with_reducible refine zN ?_ | refine zH ?_ | refine zI ?_ | (with_reducible first | refine zL ?_ | refine zM ?_ | refine zE ?_ | refine zG ?_ | refine zF ?_) | refine zO ?_
      refine ⟨⟨i + 1, hlt⟩, by simp only; omega, ?_⟩
      simp only
      rw [yw hx]
      refine Sub.trans (ko (outs := rs.take i) (run := x) (by repeat' first | exact zj | refine zZ ?_ ?_ | exact zp | exact le_refl rfl | exact zk rfl rfl | exact zx rfl)) ?_
      exact ye [4, 2] rfl rfl (by decide) (.cons rfl rfl rfl rfl (lI (zX (zJ _ _)) (zZ (zk rfl rfl) zj)) (.cons rfl rfl rfl rfl (zX (zJ _ _)) .nil)) (by
        repeat' first | exact zj | refine zZ ?_ ?_ | exact zp | exact le_refl rfl | exact zk rfl rfl | exact zk rfl (by simp) | exact xZ (by assumption) (by omega))
    · have hge : i = rs.length := by
        have : ¬ ((i : Int) < rs.length) := by simpa using h
        omega
      subst hge
      have e : rs.take rs.length = rs := List.take_length
      repeat' first | refine zK ?_ | refine zA ?_ | refine zP [] ?_ | (refine isA ?_; refine zd rfl ?_) | (refine isL ?_; refine zU rfl (by kernel_rfl) rfl rfl ?_) | (refine zb rfl ?_; refine zT rfl (by kernel_rfl) rfl rfl ?_) | refine zD ?_ | refine zB _ rfl (by kernel_rfl) ?_ | refine zV rfl ?_ | refine zW rfl ?_ | refine zC ?_ | with_reducible refine zN ?_ | refine zH ?_ | refine zI ?_ | (with_reducible first | refine zL ?_ | refine zM ?_ | refine zE ?_ | refine zG ?_ | refine zF ?_) | refine zO ?_
      exact ug 0 [0] (fun i hi => absurd hi (Nat.not_lt_zero _)) (by decide) rfl (zk rfl (congrArg List.length e)) (.cons rfl rfl rfl rfl (by show Les _ (rnT.flat rs) (rnT.flat (rs.take rs.length)); rw [e]; exact zX (zJ _ _)) .nil)
abbrev soP (b : Nat) (s : So) : List V := [.sl b 0 s.input.length, I s.pos, .sl (b + 1) 0 s.heap.length, .sl (b + 2) 0 s.dfr.length, .sl (b + 3) 0 s.out.length, .sl (b + 4) 0 s.runs.length, I s.lp, I s.rp, I s.ph, I s.wr]
abbrev soW (s : So) : List Reg := [rwR s.input, rwR s.heap, rwR s.dfr, rwR s.out, rnR s.runs]
theorem wL (s : So) (hok : okSo s) : zz Go.Proofs.Try.prog 65 [.agg (soE s)] [] (.agg (soP 0 s)) (soW s) true := by
  have g1 := hok.input
  have g2 := hok.heap
  have g3 := hok.dfr
  have g4 := hok.out
  have g5 := hok.runs
  have a1 := kW s.runs hok.rn (by omega)
  refine wJ 2 27 Go.Proofs.Try.func65 rfl rfl ?_
  simp only [Go.Proofs.Try.ntmps65, List.length_cons, List.length_nil, Nat.reduceAdd, Nat.reduceSub, List.replicate_succ, List.replicate_zero, List.cons_append, List.nil_append]
  repeat' first | refine zK ?_ | refine zA ?_ | refine zP [] ?_ | (refine isA ?_; refine zd rfl ?_) | (refine isL ?_; refine zU rfl (by kernel_rfl) rfl rfl ?_) | (refine zb rfl ?_; refine zT rfl (by kernel_rfl) rfl rfl ?_) | (refine xR ?_; refine zc rfl (yV (t := rwT) (xs := []) (ys := s.input) rfl rfl rfl rfl (.lst _ _) (by simp; omega) rfl) rfl ?_) | (refine xC rfl ?_; refine zY rfl (by kernel_rfl) rfl (yV (t := rwT) (xs := []) (ys := s.input) rfl rfl rfl rfl (.lst _ _) (by simp; omega) rfl) rfl ?_) | (refine xR ?_; refine zc rfl (yV (t := rwT) (xs := []) (ys := s.heap) rfl rfl rfl rfl (.lst _ _) (by simp; omega) rfl) rfl ?_) | (refine xC rfl ?_; refine zY rfl (by kernel_rfl) rfl (yV (t := rwT) (xs := []) (ys := s.heap) rfl rfl rfl rfl (.lst _ _) (by simp; omega) rfl) rfl ?_) | (refine xR ?_; refine zc rfl (yV (t := rwT) (xs := []) (ys := s.dfr) rfl rfl rfl rfl (.lst _ _) (by simp; omega) rfl) rfl ?_) | (refine xC rfl ?_; refine zY rfl (by kernel_rfl) rfl (yV (t := rwT) (xs := []) (ys := s.dfr) rfl rfl rfl rfl (.lst _ _) (by simp; omega) rfl) rfl ?_) | (refine xR ?_; refine zc rfl (yV (t := rwT) (xs := []) (ys := s.out) rfl rfl rfl rfl (.lst _ _) (by simp; omega) rfl) rfl ?_) | (refine xC rfl ?_; refine zY rfl (by kernel_rfl) rfl (yV (t := rwT) (xs := []) (ys := s.out) rfl rfl rfl rfl (.lst _ _) (by simp; omega) rfl) rfl ?_) | (refine zu 118 ?_; refine zc rfl (yX rfl a1 (.cons (.same rfl) .nil) (fun q hq => by simp at hq; subst hq; exact zJ _ _) rfl rfl) rfl ?_) | (refine zv 118 rfl ?_; refine zY rfl (by kernel_rfl) rfl (yX rfl a1 (.cons (.same rfl) .nil) (fun q hq => by simp at hq; subst hq; exact zJ _ _) rfl rfl) rfl ?_) | refine zD ?_ | refine zB _ rfl (by kernel_rfl) ?_ | refine zV rfl ?_ | refine zW rfl ?_ | refine zC ?_ | with_reducible refine zN ?_ | refine zH ?_ | refine zI ?_ | (with_reducible first | refine zL ?_ | refine zM ?_ | refine zE ?_ | refine zG ?_ | refine zF ?_) | refine zO ?_
  exact finMC [4, 6, 8, 10, 11] (by decide) (yM rfl rfl rfl rfl rfl) (qB (by repeat' first | exact zj | refine zZ ?_ ?_ | exact zp | exact le_refl rfl | exact zk rfl rfl | exact zx rfl | exact zx (congrArg some (by simp [zn] <;> omega)) | exact zk rfl (by simp) | exact zk (congrArg some (by simp [zn] <;> omega)) rfl | exact zk (congrArg some (by simp [zn] <;> omega)) (by simp [yc, xk, yF]) | exact yC (congrArg _ (by assumption)) | exact yC (congrArg _ (Eq.symm (by assumption))))) (.cons rfl rfl rfl rfl (zX (zJ _ _)) (.cons rfl rfl rfl rfl (zX (zJ _ _)) (.cons rfl rfl rfl rfl (zX (zJ _ _)) (.cons rfl rfl rfl rfl (zX (zJ _ _)) (.cons rfl rfl rfl rfl (zX (zJ _ _)) .nil)))))
end Go.Proofs.Ytojcojanokhnaaa.Ab
namespace Go.Proofs.Ytojcojanokhnaaa.Ab
open Go.RowKit
theorem jh {h m : Nat} {R : Reg} {c0 c1 d0 d1 : V} {cs ds es fs : List V} {S : St} (hm0 : S.m = 0) (hH : S.H[h]? = some R) (hR : R.mode = 0) (hN : NoH R.cells)
    (p0 : Pur true (S.H.set h (xw R)) c0 d0) (p1 : Pur true (S.H.set h (xw R)) c1 d1) (ps : Purs true (S.H.set h (xw R)) cs ds) (pe : Purs true (S.H.set h (xw R)) es fs) :
    Out true (.tup (.agg (d0 :: d1 :: .sl 0 0 m :: ds) :: fs)) [R] (.tup (.agg (c0 :: c1 :: .sl h 0 m :: cs) :: es)) S := by
  intro C A φ w x hm hA hv
  have h0 : C.φ0 = [] := List.length_eq_zero_iff.1 (hm.trans hm0)
  have hlt : h < S.H.length := (List.getElem?_eq_some_iff.1 hH).1
  obtain ⟨hd, hhd⟩ : ∃ hd, φ[h]? = some hd := ⟨_, List.getElem?_eq_getElem (by rw [hA.ok.len]; exact hlt)⟩
  have hget : ∀ (i : Nat) (q : Reg), (S.H.set h (xw R))[i]? = some q → q.mode ≤ 1 → i ≠ h ∧ S.H[i]? = some q := fun i q hq hm1 => by
    rw [List.getElem?_set] at hq
    split at hq
    · rename_i e
      subst e
      simp only [Option.some.injEq] at hq
      subst hq
      exact absurd (show (2 : Nat) ≤ 1 from hm1) (by decide)
    · rename_i e
      exact ⟨fun e1 => e e1.symm, hq⟩
  have hlive : ∀ i b, zy φ (S.H.set h (xw R)) i b → i ≠ h ∧ zy φ S.H i b := fun i b ⟨e, q, q1, q2, q3, q4⟩ =>
    have := hget i q q2 (by omega)
    ⟨this.1, e, q, q1, this.2, q3, q4⟩
  have kd : HeapOk A w φ (S.H.set h (xw R)) := ⟨by rw [hA.ok.len, List.length_set], fun i e q q1 q2 q3 => hA.ok.regs i e q q1 (hget i q q2 q3).2 q3, fun i j b q1 q2 => hA.ok.inj i j b (hlive i b q1).2 (hlive j b q2).2, fun i b q1 => hA.ok.apart i b (hlive i b q1).2, fun i e q b q1 q2 q3 q4 => hA.ok.frz i e q b q1 (hget i q q2 (by omega)).2 q3 q4, hA.ok.low⟩
  have hone : ∀ i b, zy [hd] [R] i b → zy φ S.H h b := fun i b ⟨e, q, q1, q2, q3, q4⟩ => by
    match i, q1, q2 with
    | 0, q1, q2 =>
      simp only [List.getElem?_cons_zero, Option.some.injEq] at q1 q2
      subst q1 q2
      exact ⟨_, _, hhd, hH, q3, q4⟩
  have hPm : ∀ {v v' : V} {y : Value}, Pur true (S.H.set h (xw R)) v v' → Rel A w φ v y → Rel (fun b => A b ∨ ∃ i, zy φ (S.H.set h (xw R)) i b) w [hd] v' y := fun hp hy =>
    Rel.mono (fun b hb => ⟨hb, rfl⟩) (fun j e hj => by simp at hj) (Pur.rel kd (fun b hb => Or.inl hb) (fun _ j b hb => Or.inr ⟨j, hb⟩) hp hy)
  have hPs : ∀ {v v' : List V} {g : Nat → Option Value}, Purs true (S.H.set h (xw R)) v v' → z4 A w φ v g → z4 (fun b => A b ∨ ∃ i, zy φ (S.H.set h (xw R)) i b) w [hd] v' g := fun hp hy =>
    z4.mono (fun b hb => ⟨hb, rfl⟩) (fun j e hj => by simp at hj) (Purs.rels kd (fun b hb => Or.inl hb) (fun _ j b hb => Or.inr ⟨j, hb⟩) hp hy)
  have hlen1 := ps.length
  have hlen2 := pe.length
  refine ⟨[hd], fun b => A b ∨ ∃ i, zy φ (S.H.set h (xw R)) i b, ⟨rfl, fun i e q q1 q2 q3 => ?_, fun i j b q1 q2 => ?_, fun i b q1 hb => ?_, fun i e q b q1 q2 q3 q4 => ?_, fun b hb => ?_⟩, ?_, fun b hb => ?_, fun i b q1 => hA.own h b (hone i b q1), fun i e h1 => by rw [h0] at h1; simp at h1⟩
  · match i, q1, q2 with
    | 0, q1, q2 =>
      simp only [List.getElem?_cons_zero, Option.some.injEq] at q1 q2
      subst q1 q2
      obtain ⟨e1, e2⟩ := hA.ok.regs h _ _ hhd hH q3
      refine ⟨e1, ?_⟩
      cases hk : hd.blk with
      | none => rw [hk] at e2; exact e2
      | some b =>
        rw [hk] at e2
        obtain ⟨c, f1, f2, f3, f4⟩ := e2
        exact ⟨c, f1, f2, f3, z4.mono (fun b hb => ⟨Or.inl hb, rfl⟩) (fun _ _ h => h) (x5 hN f4)⟩
  · have e1 := (List.getElem?_eq_some_iff.1 q1.choose_spec.choose_spec.1).1
    have e2 := (List.getElem?_eq_some_iff.1 q2.choose_spec.choose_spec.1).1
    simp only [List.length_singleton] at e1 e2
    omega
  · have hl := hone i b q1
    rcases hb with hb | ⟨j, hb⟩
    · exact hA.ok.apart h b hl hb
    · have := hlive j b hb
      exact this.1 (hA.ok.inj j h b this.2 hl)
  · match i, q1, q2 with
    | 0, q1, q2 =>
      simp only [List.getElem?_cons_zero, Option.some.injEq] at q2
      subst q2
      rw [hR] at q3
      cases q3
  · rcases hb with hb | ⟨j, hb⟩
    · exact hA.ok.low b hb
    · obtain ⟨g1, e, q, g2, g3, g4, g5⟩ := hlive j b hb
      exact xq hA.ok g2 g3 (by omega) g5
  · simp only [Rel, z4] at hv ⊢
    obtain ⟨xs, rfl, hs, ⟨y, hy, zs, rfl, hz, ⟨y0, z0, k0⟩, ⟨y1, z1, k1⟩, ⟨y2, z2, k2⟩, kr⟩, hr⟩ := hv
    refine ⟨xs, rfl, by rw [hs]; simp only [List.length_cons]; omega, ⟨_, hy, zs, rfl, by rw [hz]; simp only [List.length_cons]; omega, ⟨y0, z0, hPm p0 k0⟩, ⟨y1, z1, hPm p1 k1⟩, ⟨y2, z2, ?_⟩, hPs ps kr⟩, hPs pe hr⟩
    obtain ⟨hd', e1, e2⟩ := k2
    rw [hhd] at e1
    simp only [Option.some.injEq] at e1
    subst e1
    exact ⟨hd, rfl, e2⟩
  · rcases hb with hb | ⟨j, hb⟩
    · exact (hA.old b hb).imp (fun h => ⟨rfl, h⟩) id
    · obtain ⟨g1, g2⟩ := hlive j b hb
      rcases hA.own j b g2 with h1 | ⟨h9, e, q, q1, _⟩
      · exact Or.inr h1
      · rw [h0] at q1
        simp at q1
theorem wY {l : List V} {H : List Reg} {t : Tmp} {us : List Tmp} {n h m : Nat} {R : Reg} {c0 c1 d0 d1 : V} {cs ds fs : List V} (hv : CellIs l H t n (.agg (c0 :: c1 :: .sl h 0 m :: cs))) (hH : H[h]? = some R) (hR : R.mode = 0) (hN : NoH R.cells)
    (p01 : Purs true (H.set h (xw R)) [c0, c1] [d0, d1]) (ps : Purs true (H.set h (xw R)) cs ds) (pe : Purs true (H.set h (xw R)) (us.map fun u => (l[u]?).getD .any) fs) :
    (Exit.ret = .ret ∨ Exit.ret = .normal) ∧ ∃ v, CellIs l H t n v ∧ Out true (.tup (.agg (d0 :: d1 :: .sl 0 0 m :: ds) :: fs)) [R] (.tup (v :: us.map fun u => (l[u]?).getD .any)) ⟨l, H, 0⟩ :=
  match p01 with
  | .cons p0 (.cons p1 .nil) => ⟨Or.inl rfl, _, hv, jh (S := ⟨l, H, 0⟩) rfl hH hR hN p0 p1 ps pe⟩
end Go.Proofs.Ytojcojanokhnaaa.Ab
namespace Go.Proofs.Ytojcojanokhnaaa.Ab
open Go.RowKit
theorem xI {live : Bool} {H : List Reg} {a b : Int} (h : a = b) : Pur live H (I a) (I b) := by subst h; exact .same rfl
def soH (s : So) : List V := [rwL s.input, I s.pos, .sl 0 0 s.heap.length, rwL s.dfr, rwL s.out, rnL s.runs, I s.lp, I s.rp, I s.ph, I s.wr]
theorem eQ (s : So) (r : List Rw) (b : Bool) : Pur true [rwR s.heap] (.tup [.agg (soH s), rwL r, B b]) (.tup [.agg (soE s), rwL r, B b]) := .tup (.cons (.agg (.cons (.same rfl) (.cons (.same rfl) (.cons (zr rfl) (.cons (.same rfl) (.cons (.same rfl) (.cons (.same rfl) (.cons (.same rfl) (.cons (.same rfl) (.cons (.same rfl) (.cons (.same rfl) .nil))))))))))) (.cons (.same rfl) (.cons (.same rfl) .nil)))
theorem s_put (s : So) (g : Int) (r : Rw) (hok : okSo s) (hv : vS s = true) (h1 : inV g 8 60 = true) (hb : VBa s) (hm : yi s ≤ 60) (hp : s.ph = 1) (hr : s.input[s.pos.toNat]? = some r) (hf : yi s + y4 r ≤ g) : zz Go.Proofs.Try.prog 14 [.agg (soE s), I g] [] (.tup [.agg (soH (wx s r)), rwL [], B true]) [rwR (wx s r).heap] true := by
  obtain ⟨p, hpp, hple⟩ := hb.pos
  have e1 : s.pos.toNat = p := by omega
  rw [e1] at hr
  have hlt := (List.getElem?_eq_some_iff.1 hr).1
  have g1 := hok.heap
  have g2 := hok.dfr
  have g3 := hok.input
  have g4 := hok.out
  have ac := wL s hok
  have am := pd s hok
  have a1 := sD s hok
  rw [hv] at a1
  have a2 := uR g 8 60
  rw [h1] at a2
  have ew : IntKind.i64.wrap (s.pos + 1) = s.pos + 1 := by rw [IntKind.wrap_i64]; omega
  refine yR 4 27 [5, 6] Go.Proofs.Try.func14 rfl rfl rfl ?_
  simp only [Go.Proofs.Try.ntmps14, List.length_cons, List.length_nil, Nat.reduceAdd, Nat.reduceSub, List.replicate_succ, List.replicate_zero, List.cons_append, List.nil_append]
  repeat' first | (refine zh rfl (fun h => absurd (of_decide_eq_true h) (by omega)) (fun _ => ?_)) | (refine zh rfl (fun _ => ?_) (fun h => absurd hp (of_decide_eq_false h))) | refine zK ?_ | refine zA ?_ | refine zP [] ?_ | (refine isA ?_; refine zd rfl ?_) | (refine isL ?_; refine zU rfl (by kernel_rfl) rfl rfl ?_) | (refine zb rfl ?_; refine zT rfl (by kernel_rfl) rfl rfl ?_) | (refine zu 65 ?_; refine zc rfl (yQ (r' := .agg (soP 2 s)) (H' := bxS (soE s) :: bxS zS :: soW s) rfl ac (.cons (.same rfl) .nil) rfl (by simp only [List.map_cons, List.map_nil, shR, yT _ (yh (zJ _ _))]; rfl)) rfl ?_) | (refine zv 65 rfl ?_; refine zY rfl (by kernel_rfl) rfl (yQ (r' := .agg (soP 2 s)) (H' := bxS (soE s) :: bxS zS :: soW s) rfl ac (.cons (.same rfl) .nil) rfl (by simp only [List.map_cons, List.map_nil, shR, yT _ (yh (zJ _ _))]; rfl)) rfl ?_) | (refine zu 18 ?_; refine zc rfl (zQ rfl a1 (.cons (.same rfl) .nil) rfl) rfl ?_) | (refine zv 18 rfl ?_; refine zY rfl (by kernel_rfl) rfl (zQ rfl a1 (.cons (.same rfl) .nil) rfl) rfl ?_) | (refine zu 66 ?_; refine zc rfl (zQ rfl a2 (.cons (.same rfl) (.cons (.same rfl) (.cons (.same rfl) .nil))) rfl) rfl ?_) | (refine zv 66 rfl ?_; refine zY rfl (by kernel_rfl) rfl (zQ rfl a2 (.cons (.same rfl) (.cons (.same rfl) (.cons (.same rfl) .nil))) rfl) rfl ?_) | refine zD ?_ | refine zB _ rfl (by kernel_rfl) ?_ | refine zV rfl ?_ | refine zW rfl ?_ | refine zC ?_ | with_reducible refine zN ?_ | refine zH ?_ | refine zI ?_ | (with_reducible first | refine zL ?_ | refine zM ?_ | refine zE ?_ | refine zG ?_ | refine zF ?_) | refine zO ?_
  refine yK rfl rfl rfl rfl (fun _ => ?_) (fun h => absurd (of_decide_eq_false h) (by omega))
  repeat' first | refine zK ?_ | refine zA ?_ | refine zP [] ?_ | (refine isA ?_; refine zd rfl ?_) | (refine isL ?_; refine zU rfl (by kernel_rfl) rfl rfl ?_) | (refine zb rfl ?_; refine zT rfl (by kernel_rfl) rfl rfl ?_) | (refine zu 20 ?_; refine zc rfl (zQ rfl am (.cons (.same rfl) .nil) rfl) rfl ?_) | (refine zv 20 rfl ?_; refine zY rfl (by kernel_rfl) rfl (zQ rfl am (.cons (.same rfl) .nil) rfl) rfl ?_) | (refine yB (x := .tmp 42) ?_; refine zc rfl (z6 (t := rwT) (z := r) rfl rfl rfl rfl (by omega) (by rw [e1]; exact hr)) rfl ?_) | (refine yA (x := .tmp 42) rfl ?_; refine zY rfl (by kernel_rfl) rfl (z6 (t := rwT) (z := r) rfl rfl rfl rfl (by omega) (by rw [e1]; exact hr)) rfl ?_) | (refine zu 67 ?_; refine zc rfl (zQ rfl (wK r) (.cons (.same rfl) .nil) rfl) rfl ?_) | (refine zv 67 rfl ?_; refine zY rfl (by kernel_rfl) rfl (zQ rfl (wK r) (.cons (.same rfl) .nil) rfl) rfl ?_) | refine zD ?_ | refine zB _ rfl (by kernel_rfl) ?_ | refine zV rfl ?_ | refine zW rfl ?_ | refine zC ?_ | with_reducible refine zN ?_ | refine zH ?_ | refine zI ?_ | (with_reducible first | refine zL ?_ | refine zM ?_ | refine zE ?_ | refine zG ?_ | refine zF ?_) | refine zO ?_
  refine zh rfl (fun _ => ?_) (fun h => absurd (of_decide_eq_false h) (by rw [pN hm]; omega))
  repeat' first | refine zK ?_ | refine zA ?_ | refine zP [] ?_ | (refine isA ?_; refine zd rfl ?_) | (refine isL ?_; refine zU rfl (by kernel_rfl) rfl rfl ?_) | (refine zb rfl ?_; refine zT rfl (by kernel_rfl) rfl rfl ?_) | (refine yB (x := .tmp 53) ?_; refine zc rfl (z6 (t := rwT) (z := r) rfl rfl rfl rfl (by omega) (by rw [e1]; exact hr)) rfl ?_) | (refine yA (x := .tmp 53) rfl ?_; refine zY rfl (by kernel_rfl) rfl (z6 (t := rwT) (z := r) rfl rfl rfl rfl (by omega) (by rw [e1]; exact hr)) rfl ?_) | (refine qV (x := .tmp 8) ?_; refine zc rfl (wR rfl rfl rfl rfl rfl (wo r) rfl rfl) rfl ?_) | (refine qU (x := .tmp 8) rfl ?_; refine zY rfl (by kernel_rfl) rfl (wR rfl rfl rfl rfl rfl (wo r) rfl rfl) rfl ?_) | refine zD ?_ | refine zB _ rfl (by kernel_rfl) ?_ | refine zV rfl ?_ | refine zW rfl ?_ | refine zC ?_ | with_reducible refine zN ?_ | refine zH ?_ | refine zI ?_ | (with_reducible first | refine zL ?_ | refine zM ?_ | refine zE ?_ | refine zG ?_ | refine zF ?_) | refine zO ?_
  refine yK rfl rfl rfl rfl (fun h => ?_) (fun h => ?_)
  · have h0 : 0 < s.out.length := by have := of_decide_eq_true h; omega
    obtain ⟨y, hy⟩ : ∃ z, s.out[s.out.length - 1]? = some z := ⟨_, List.getElem?_eq_getElem (by omega)⟩
    have ew2 : IntKind.i64.wrap ((s.out.length : Int) - 1) = ((s.out.length - 1 : Nat) : Int) := by rw [IntKind.wrap_i64]; omega
    have hbe : bel r s.out = decide (yu r y < 0) := by unfold bel; rw [hy]; rfl
    repeat' first | refine zK ?_ | refine zA ?_ | refine zP [] ?_ | (refine isA ?_; refine zd rfl ?_) | (refine isL ?_; refine zU rfl (by kernel_rfl) rfl rfl ?_) | (refine zb rfl ?_; refine zT rfl (by kernel_rfl) rfl rfl ?_) | (refine yB (x := .tmp 69) ?_; refine zc rfl (z6 (t := rwT) (j := ((s.out.length - 1 : Nat) : Int)) (z := y) rfl rfl rfl (congrArg I ew2) (Int.natCast_nonneg _) hy) rfl ?_) | (refine yA (x := .tmp 69) rfl ?_; refine zY rfl (by kernel_rfl) rfl (z6 (t := rwT) (j := ((s.out.length - 1 : Nat) : Int)) (z := y) rfl rfl rfl (congrArg I ew2) (Int.natCast_nonneg _) hy) rfl ?_) | (refine zu 68 ?_; refine zc rfl (zQ rfl (xz r y) (.cons (.same rfl) (.cons (.same rfl) .nil)) rfl) rfl ?_) | (refine zv 68 rfl ?_; refine zY rfl (by kernel_rfl) rfl (zQ rfl (xz r y) (.cons (.same rfl) (.cons (.same rfl) .nil)) rfl) rfl ?_) | refine zD ?_ | refine zB _ rfl (by kernel_rfl) ?_ | refine zV rfl ?_ | refine zW rfl ?_ | refine zC ?_ | with_reducible refine zN ?_ | refine zH ?_ | refine zI ?_ | (with_reducible first | refine zL ?_ | refine zM ?_ | refine zE ?_ | refine zG ?_ | refine zF ?_) | refine zO ?_
    refine zh rfl (fun p2 => ?_) (fun p2 => ?_)
    · have e : wx s r = { s with dfr := s.dfr ++ [r], pos := s.pos + 1 } := by unfold wx; rw [hbe, p2]; rfl
      rw [e]
      repeat' first | (refine isA ?_; refine zc rfl (yS rfl rfl rfl rfl rfl) rfl ?_) | refine zK ?_ | refine zA ?_ | refine zP [] ?_ | (refine isA ?_; refine zd rfl ?_) | (refine isL ?_; refine zU rfl (by kernel_rfl) rfl rfl ?_) | (refine zb rfl ?_; refine zT rfl (by kernel_rfl) rfl rfl ?_) | (refine xR ?_; refine zc rfl (yV (t := rwT) (xs := s.dfr) (ys := [r]) rfl rfl rfl rfl (.lst _ _) (by simp; omega) rfl) rfl ?_) | (refine xC rfl ?_; refine zY rfl (by kernel_rfl) rfl (yV (t := rwT) (xs := s.dfr) (ys := [r]) rfl rfl rfl rfl (.lst _ _) (by simp; omega) rfl) rfl ?_) | refine zD ?_ | refine zB _ rfl (by kernel_rfl) ?_ | refine zV rfl ?_ | refine zW rfl ?_ | refine zC ?_ | with_reducible refine zN ?_ | refine zH ?_ | refine zI ?_ | (with_reducible first | refine zL ?_ | refine zM ?_ | refine zE ?_ | refine zG ?_ | refine zF ?_) | refine zO ?_
      exact wY (yM rfl rfl rfl rfl rfl) rfl rfl (zJ _ _) (by repeat' first | exact Purs.nil | refine Purs.cons ?_ ?_ | exact zr rfl | exact yY rfl rfl | exact zr (T := rwT) (x := []) rfl | exact Pur.nil | exact Pur.same rfl | exact xI (by assumption)) (by repeat' first | exact Purs.nil | refine Purs.cons ?_ ?_ | exact zr rfl | exact yY rfl rfl | exact zr (T := rwT) (x := []) rfl | exact Pur.nil | exact Pur.same rfl | exact xI (by assumption)) (.cons (.same rfl) (.cons (.same rfl) .nil))
    · have e : wx s r = { s with heap := s.heap ++ [r], pos := s.pos + 1 } := by unfold wx; rw [hbe, p2]; rfl
      rw [e]
      repeat' first | (refine isA ?_; refine zc rfl (yS rfl rfl rfl rfl rfl) rfl ?_) | refine zK ?_ | refine zA ?_ | refine zP [] ?_ | (refine isA ?_; refine zd rfl ?_) | (refine isL ?_; refine zU rfl (by kernel_rfl) rfl rfl ?_) | (refine zb rfl ?_; refine zT rfl (by kernel_rfl) rfl rfl ?_) | (refine xR ?_; refine zc rfl (yV (t := rwT) (xs := s.heap) (ys := [r]) rfl rfl rfl rfl (.lst _ _) (by simp; omega) rfl) rfl ?_) | (refine xC rfl ?_; refine zY rfl (by kernel_rfl) rfl (yV (t := rwT) (xs := s.heap) (ys := [r]) rfl rfl rfl rfl (.lst _ _) (by simp; omega) rfl) rfl ?_) | refine zD ?_ | refine zB _ rfl (by kernel_rfl) ?_ | refine zV rfl ?_ | refine zW rfl ?_ | refine zC ?_ | with_reducible refine zN ?_ | refine zH ?_ | refine zI ?_ | (with_reducible first | refine zL ?_ | refine zM ?_ | refine zE ?_ | refine zG ?_ | refine zF ?_) | refine zO ?_
      exact wY (yM rfl rfl rfl rfl rfl) rfl rfl (zJ _ _) (by repeat' first | exact Purs.nil | refine Purs.cons ?_ ?_ | exact zr rfl | exact yY rfl rfl | exact zr (T := rwT) (x := []) rfl | exact Pur.nil | exact Pur.same rfl | exact xI (by assumption)) (by repeat' first | exact Purs.nil | refine Purs.cons ?_ ?_ | exact zr rfl | exact yY rfl rfl | exact zr (T := rwT) (x := []) rfl | exact Pur.nil | exact Pur.same rfl | exact xI (by assumption)) (.cons (.same rfl) (.cons (.same rfl) .nil))
  · have hbe : bel r s.out = false := by
      rw [List.eq_nil_of_length_eq_zero (show s.out.length = 0 by have := of_decide_eq_false h; omega)]; rfl
    have e : wx s r = { s with heap := s.heap ++ [r], pos := s.pos + 1 } := by unfold wx; rw [hbe]; rfl
    rw [e]
    repeat' first | (refine isA ?_; refine zc rfl (yS rfl rfl rfl rfl rfl) rfl ?_) | refine zK ?_ | refine zA ?_ | refine zP [] ?_ | (refine isA ?_; refine zd rfl ?_) | (refine isL ?_; refine zU rfl (by kernel_rfl) rfl rfl ?_) | (refine zb rfl ?_; refine zT rfl (by kernel_rfl) rfl rfl ?_) | (refine xR ?_; refine zc rfl (yV (t := rwT) (xs := s.heap) (ys := [r]) rfl rfl rfl rfl (.lst _ _) (by simp; omega) rfl) rfl ?_) | (refine xC rfl ?_; refine zY rfl (by kernel_rfl) rfl (yV (t := rwT) (xs := s.heap) (ys := [r]) rfl rfl rfl rfl (.lst _ _) (by simp; omega) rfl) rfl ?_) | refine zD ?_ | refine zB _ rfl (by kernel_rfl) ?_ | refine zV rfl ?_ | refine zW rfl ?_ | refine zC ?_ | with_reducible refine zN ?_ | refine zH ?_ | refine zI ?_ | (with_reducible first | refine zL ?_ | refine zM ?_ | refine zE ?_ | refine zG ?_ | refine zF ?_) | refine zO ?_
    exact wY (yM rfl rfl rfl rfl rfl) rfl rfl (zJ _ _) (by repeat' first | exact Purs.nil | refine Purs.cons ?_ ?_ | exact zr rfl | exact yY rfl rfl | exact zr (T := rwT) (x := []) rfl | exact Pur.nil | exact Pur.same rfl | exact xI (by assumption)) (by repeat' first | exact Purs.nil | refine Purs.cons ?_ ?_ | exact zr rfl | exact yY rfl rfl | exact zr (T := rwT) (x := []) rfl | exact Pur.nil | exact Pur.same rfl | exact xI (by assumption)) (.cons (.same rfl) (.cons (.same rfl) .nil))
end Go.Proofs.Ytojcojanokhnaaa.Ab
namespace Go.Proofs.Ytojcojanokhnaaa.Ab
open Go.RowKit
theorem pY {l : List V} {H K : List Reg} {m : Nat} {t : Tmp} {n : Nat} {v r : V} (hv : CellIs l H t n v) (hr : v = r) (hK : H = K) : (Exit.ret = .ret ∨ Exit.ret = .normal) ∧ ∃ v, CellIs l H t n v ∧ Out true r K v ⟨l, H, m⟩ := by
  subst hr
  subst hK
  exact ⟨Or.inl rfl, _, hv, mP (S := ⟨l, H, m⟩)⟩
theorem lc (a0 a1 a2 a3 a4 a5 a6 a7 : Reg) (x1 x6 x7 x8 x9 : Int) (h0 o0 n0 h2 o2 n2 h3 o3 n3 h4 o4 n4 h5 o5 n5 : Nat) :
    zz Go.Proofs.Try.prog 70 [.agg [.sl h0 o0 n0, I x1, .sl h2 o2 n2, .sl h3 o3 n3, .sl h4 o4 n4, .sl h5 o5 n5, I x6, I x7, I x8, I x9]] [a0, a1, a2, a3, a4, a5, a6, a7] (.agg [.sl h0 o0 n0, I x1, .sl h2 o2 n2, .sl h3 o3 n3, .sl h4 o4 n4, .sl h5 o5 n5, I 0, I 0, I (cond (decide (n5 = 0)) 4 (cond (decide (n5 = 1)) 3 2)), I x9])
      [a0, a1, a2, a3, a4, a5, a6, a7, bxS [.sl h0 o0 n0, I x1, .sl h2 o2 n2, .sl h3 o3 n3, .sl h4 o4 n4, .sl h5 o5 n5, I 0, I 0, I (cond (decide (n5 = 0)) 4 (cond (decide (n5 = 1)) 3 2)), I x9], bxS [.sl h0 o0 n0, I x1, .sl h2 o2 n2, .sl h3 o3 n3, .sl h4 o4 n4, .sl h5 o5 n5, I 0, I 0, I (cond (decide (n5 = 0)) 4 (cond (decide (n5 = 1)) 3 2)), I x9]] true := by
  have e0 : decide (n5 = 0) = decide ((n5 : Int) = 0) := decide_eq_decide.2 (by omega)
  have e1 : decide (n5 = 1) = decide ((n5 : Int) = 1) := decide_eq_decide.2 (by omega)
  rw [e0, e1]
  refine wJ 2 27 Go.Proofs.Try.func70 rfl rfl ?_
  simp only [Go.Proofs.Try.ntmps70, List.length_cons, List.length_nil, Nat.reduceAdd, Nat.reduceSub, List.replicate_succ, List.replicate_zero, List.cons_append, List.nil_append]
  repeat' first | refine zK ?_ | refine zA ?_ | refine zP [] ?_ | (refine isA ?_; refine zd rfl ?_) | (refine isL ?_; refine zU rfl (by kernel_rfl) rfl rfl ?_) | (refine zb rfl ?_; refine zT rfl (by kernel_rfl) rfl rfl ?_) | refine zD ?_ | refine zB _ rfl (by kernel_rfl) ?_ | refine zV rfl ?_ | refine zW rfl ?_ | refine zC ?_ | with_reducible refine zN ?_ | refine zH ?_ | refine zI ?_ | (with_reducible first | refine zL ?_ | refine zM ?_ | refine zE ?_ | refine zG ?_ | refine zF ?_) | refine zO ?_ | refine zh rfl (fun hbr => ?_) (fun hbr => ?_)
  all_goals first
    | (exfalso; have p1 := of_decide_eq_true (by assumption : decide ((n5 : Int) = 1) = true); have p2 := of_decide_eq_true (by assumption : decide ((n5 : Int) = 0) = true); omega)
    | (refine pY (yM rfl rfl rfl rfl rfl) ?_ ?_ <;> simp only [*, cond_true, cond_false] <;> rfl)
theorem tZ (a0 a1 a2 a3 a4 a5 a6 a7 a8 a9 a10 : Reg) (x1 x6 x7 x8 x9 : Int) (h0 o0 n0 h2 o2 n2 h3 o3 n3 h4 o4 n4 h5 o5 n5 : Nat) :
    zz Go.Proofs.Try.prog 70 [.agg [.sl h0 o0 n0, I x1, .sl h2 o2 n2, .sl h3 o3 n3, .sl h4 o4 n4, .sl h5 o5 n5, I x6, I x7, I x8, I x9]] [a0, a1, a2, a3, a4, a5, a6, a7, a8, a9, a10] (.agg [.sl h0 o0 n0, I x1, .sl h2 o2 n2, .sl h3 o3 n3, .sl h4 o4 n4, .sl h5 o5 n5, I 0, I 0, I (cond (decide (n5 = 0)) 4 (cond (decide (n5 = 1)) 3 2)), I x9])
      [a0, a1, a2, a3, a4, a5, a6, a7, a8, a9, a10, bxS [.sl h0 o0 n0, I x1, .sl h2 o2 n2, .sl h3 o3 n3, .sl h4 o4 n4, .sl h5 o5 n5, I 0, I 0, I (cond (decide (n5 = 0)) 4 (cond (decide (n5 = 1)) 3 2)), I x9], bxS [.sl h0 o0 n0, I x1, .sl h2 o2 n2, .sl h3 o3 n3, .sl h4 o4 n4, .sl h5 o5 n5, I 0, I 0, I (cond (decide (n5 = 0)) 4 (cond (decide (n5 = 1)) 3 2)), I x9]] true := by
  have e0 : decide (n5 = 0) = decide ((n5 : Int) = 0) := decide_eq_decide.2 (by omega)
  have e1 : decide (n5 = 1) = decide ((n5 : Int) = 1) := decide_eq_decide.2 (by omega)
  rw [e0, e1]
  refine wJ 2 27 Go.Proofs.Try.func70 rfl rfl ?_
  simp only [Go.Proofs.Try.ntmps70, List.length_cons, List.length_nil, Nat.reduceAdd, Nat.reduceSub, List.replicate_succ, List.replicate_zero, List.cons_append, List.nil_append]
  repeat' first | refine zK ?_ | refine zA ?_ | refine zP [] ?_ | (refine isA ?_; refine zd rfl ?_) | (refine isL ?_; refine zU rfl (by kernel_rfl) rfl rfl ?_) | (refine zb rfl ?_; refine zT rfl (by kernel_rfl) rfl rfl ?_) | refine zD ?_ | refine zB _ rfl (by kernel_rfl) ?_ | refine zV rfl ?_ | refine zW rfl ?_ | refine zC ?_ | with_reducible refine zN ?_ | refine zH ?_ | refine zI ?_ | (with_reducible first | refine zL ?_ | refine zM ?_ | refine zE ?_ | refine zG ?_ | refine zF ?_) | refine zO ?_ | refine zh rfl (fun hbr => ?_) (fun hbr => ?_)
  all_goals first
    | (exfalso; have p1 := of_decide_eq_true (by assumption : decide ((n5 : Int) = 1) = true); have p2 := of_decide_eq_true (by assumption : decide ((n5 : Int) = 0) = true); omega)
    | (refine pY (yM rfl rfl rfl rfl rfl) ?_ ?_ <;> simp only [*, cond_true, cond_false] <;> rfl)
theorem cy (a0 a1 a7 : Reg) (s : So) (k : Nat) (r : Rw) (hok : okSo s) (hk : mQ s.heap = (k : Nat)) (hr : s.heap[k]? = some r) :
    zz Go.Proofs.Try.prog 69 [.agg (soP 2 s)] [a0, a1, rwR s.input, rwR s.heap, rwR s.dfr, rwR s.out, rnR s.runs, a7]
      (.agg [.sl 2 0 s.input.length, I s.pos, .sl 11 0 (s.heap.take k ++ s.heap.drop (k + 1)).length, .sl 4 0 s.dfr.length, .sl 10 0 (s.out ++ [r]).length, .sl 6 0 s.runs.length, I s.lp, I s.rp, I s.ph, I (IntKind.i64.wrap (s.wr + y4 r))])
      [a0, a1, rwR s.input, rwR s.heap, rwR s.dfr, { rwR s.out with mode := 2 }, rnR s.runs, a7, bxS [.sl 2 0 s.input.length, I s.pos, .sl 11 0 (s.heap.take k ++ s.heap.drop (k + 1)).length, .sl 4 0 s.dfr.length, .sl 10 0 (s.out ++ [r]).length, .sl 6 0 s.runs.length, I s.lp, I s.rp, I s.ph, I (IntKind.i64.wrap (s.wr + y4 r))], bxS [.sl 2 0 s.input.length, I s.pos, .sl 11 0 (s.heap.take k ++ s.heap.drop (k + 1)).length, .sl 4 0 s.dfr.length, .sl 10 0 (s.out ++ [r]).length, .sl 6 0 s.runs.length, I s.lp, I s.rp, I s.ph, I (IntKind.i64.wrap (s.wr + y4 r))], rwR (s.out ++ [r]), rwR (s.heap.take k ++ s.heap.drop (k + 1))] true := by
  have g1 := hok.heap
  have g4 := hok.out
  have hlt := (List.getElem?_eq_some_iff.1 hr).1
  have ai := ct s.heap (by omega)
  rw [hk] at ai
  refine wJ 2 27 Go.Proofs.Try.func69 rfl rfl ?_
  simp only [Go.Proofs.Try.ntmps69, List.length_cons, List.length_nil, Nat.reduceAdd, Nat.reduceSub, List.replicate_succ, List.replicate_zero, List.cons_append, List.nil_append]
  repeat' first | (refine zP (id := 9) [8, 10] ?_) | (refine sB rfl ?_; refine zY rfl (by kernel_rfl) rfl (yS rfl rfl rfl rfl rfl) rfl ?_) | (refine xC rfl ?_; refine sA rfl (by kernel_rfl) rfl (yV (t := rwT) (xs := s.out) (ys := [r]) rfl rfl rfl rfl (.lst _ _) (by simp; omega) rfl) rfl ?_) | (refine zh rfl (fun h => absurd (of_decide_eq_true h) (by omega)) (fun _ => ?_)) | (refine isA ?_; refine zc rfl (yS rfl rfl rfl rfl rfl) rfl ?_) | refine zK ?_ | refine zA ?_ | refine zP [10] ?_ | (refine isA ?_; refine zd rfl ?_) | (refine isL ?_; refine zU rfl (by kernel_rfl) rfl rfl ?_) | (refine zb rfl ?_; refine zT rfl (by kernel_rfl) rfl rfl ?_) | (refine zu 119 ?_; refine zc rfl (zQ rfl ai (.cons (zr rfl) .nil) rfl) rfl ?_) | (refine zv 119 rfl ?_; refine zY rfl (by kernel_rfl) rfl (zQ rfl ai (.cons (zr rfl) .nil) rfl) rfl ?_) | (refine yB (x := .tmp 30) ?_; refine zc rfl (zq (j := (k : Int)) rfl rfl rfl (Nat.zero_le _) rfl rfl (Int.natCast_nonneg _) (by omega)) rfl ?_) | (refine yA (x := .tmp 30) rfl ?_; refine zY rfl (by kernel_rfl) rfl (zq (j := (k : Int)) rfl rfl rfl (Nat.zero_le _) rfl rfl (Int.natCast_nonneg _) (by omega)) rfl ?_) | (refine xe (x := .tmp 32) ?_; refine zc rfl (yv (T := rwT) (i := 0 + k) (z := r) rfl rfl rfl (by rw [Nat.zero_add]; exact hr)) rfl ?_) | (refine xi (x := .tmp 32) rfl ?_; refine zY rfl (by kernel_rfl) rfl (yv (T := rwT) (i := 0 + k) (z := r) rfl rfl rfl (by rw [Nat.zero_add]; exact hr)) rfl ?_) | (refine zu 67 ?_; refine zc rfl (zQ rfl (wK r) (.cons (.same rfl) .nil) rfl) rfl ?_) | (refine zv 67 rfl ?_; refine zY rfl (by kernel_rfl) rfl (zQ rfl (wK r) (.cons (.same rfl) .nil) rfl) rfl ?_) | (refine yB (x := .tmp 40) ?_; refine zc rfl (zq (j := (k : Int)) rfl rfl rfl (Nat.zero_le _) rfl rfl (Int.natCast_nonneg _) (by omega)) rfl ?_) | (refine yA (x := .tmp 40) rfl ?_; refine zY rfl (by kernel_rfl) rfl (zq (j := (k : Int)) rfl rfl rfl (Nat.zero_le _) rfl rfl (Int.natCast_nonneg _) (by omega)) rfl ?_) | (refine xe (x := .tmp 42) ?_; refine zc rfl (yv (T := rwT) (i := 0 + k) (z := r) rfl rfl rfl (by rw [Nat.zero_add]; exact hr)) rfl ?_) | (refine xi (x := .tmp 42) rfl ?_; refine zY rfl (by kernel_rfl) rfl (yv (T := rwT) (i := 0 + k) (z := r) rfl rfl rfl (by rw [Nat.zero_add]; exact hr)) rfl ?_) | (refine zu 120 ?_; refine zc rfl (yX rfl (fj s.heap k hlt (by omega)) (.cons (zr rfl) (.cons (.same rfl) .nil)) (fun q hq => by simp at hq; subst hq; exact zJ _ _) rfl rfl) rfl ?_) | (refine zv 120 rfl ?_; refine zY rfl (by kernel_rfl) rfl (yX rfl (fj s.heap k hlt (by omega)) (.cons (zr rfl) (.cons (.same rfl) .nil)) (fun q hq => by simp at hq; subst hq; exact zJ _ _) rfl rfl) rfl ?_) | (refine isL ?_; refine w5 rfl (by kernel_rfl) rfl rfl ?_) | refine zD ?_ | refine zB _ rfl (by kernel_rfl) ?_ | refine zV rfl ?_ | refine zW rfl ?_ | refine zC ?_ | with_reducible refine zN ?_ | refine zH ?_ | refine zI ?_ | (with_reducible first | refine zL ?_ | refine zM ?_ | refine zE ?_ | refine zG ?_ | refine zF ?_) | refine zO ?_
  exact pY (yM rfl rfl rfl rfl rfl) rfl rfl
theorem cx (a0 a1 a7 : Reg) (s : So) (hok : okSo s) (hh : s.heap = []) :
    zz Go.Proofs.Try.prog 69 [.agg (soP 2 s)] [a0, a1, rwR s.input, rwR s.heap, rwR s.dfr, rwR s.out, rnR s.runs, a7]
      (.agg [.sl 2 0 s.input.length, I s.pos, .sl 4 0 s.dfr.length, .lst 0 [], .lst 0 [], .sl 11 0 (s.runs.length + 1), I s.lp, I s.rp, I s.ph, I s.wr])
      [a0, a1, rwR s.input, rwR s.heap, rwR s.dfr, rwR s.out, { rnR s.runs with mode := 2 }, a7, bxS [.sl 2 0 s.input.length, I s.pos, .sl 4 0 s.dfr.length, .lst 0 [], .lst 0 [], .sl 11 0 (s.runs.length + 1), I s.lp, I s.rp, I s.ph, I s.wr], bxS [.sl 2 0 s.input.length, I s.pos, .sl 4 0 s.dfr.length, .lst 0 [], .lst 0 [], .sl 11 0 (s.runs.length + 1), I s.lp, I s.rp, I s.ph, I s.wr], ⟨84, 1, [.sl 5 0 s.out.length], 0⟩, ⟨84, 1, rnT.flat s.runs ++ [.sl 5 0 s.out.length], 0⟩] true := by
  have g5 := hok.runs
  have hh0 : s.heap.length = 0 := by rw [hh]; rfl
  refine wJ 2 27 Go.Proofs.Try.func69 rfl rfl ?_
  simp only [Go.Proofs.Try.ntmps69, List.length_cons, List.length_nil, Nat.reduceAdd, Nat.reduceSub, List.replicate_succ, List.replicate_zero, List.cons_append, List.nil_append]
  repeat' first | (refine zh rfl (fun _ => ?_) (fun h => absurd (of_decide_eq_false h) (by omega))) | (refine isA ?_; refine zc rfl (yS (ps := []) rfl rfl rfl rfl rfl) rfl ?_) | refine zK ?_ | refine zA ?_ | refine zP [] ?_ | (refine isA ?_; refine zd rfl ?_) | (refine isL ?_; refine zU rfl (by kernel_rfl) rfl rfl ?_) | (refine zb rfl ?_; refine zT rfl (by kernel_rfl) rfl rfl ?_) | (refine xR ?_; refine zc rfl (tz (outs := s.runs) (hz := 10) (zi := 5) (n := s.out.length) rfl rfl rfl rfl rfl (by omega)) rfl ?_) | (refine xC rfl ?_; refine zY rfl (by kernel_rfl) rfl (tz (outs := s.runs) (hz := 10) (zi := 5) (n := s.out.length) rfl rfl rfl rfl rfl (by omega)) rfl ?_) | refine zD ?_ | refine zB _ rfl (by kernel_rfl) ?_ | refine zV rfl ?_ | refine zW rfl ?_ | refine zC ?_ | with_reducible refine zN ?_ | refine zH ?_ | refine zI ?_ | (with_reducible first | refine zL ?_ | refine zM ?_ | refine zE ?_ | refine zG ?_ | refine zF ?_) | refine zO ?_
  exact pY (yM rfl rfl rfl rfl rfl) rfl rfl
end Go.Proofs.Ytojcojanokhnaaa.Ab
