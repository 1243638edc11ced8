/- What the row FnSorterInvariant leans on, part 4: a walk over abstract values, and contracts proved with it. -/
import Derived.WalkKit
import Derived.Laws.Rows
import Derived.RowKit
import Derived.OrdersHeld
import Derived.Deep.RegionHeld3
import Derived.Deep.Draws
import Derived.BigCall
import Derived.KernelRfl
import Derived.Deep.Slices
import Derived.ChangeArms
import Derived.ChangeShapes
import Derived.WideShapes
import Derived.Test.YtojcojanokhnaaaProg
import Derived.Laws.StructEq
import Derived.Lib.Overlaps
import Derived.Test.YtojcojanokhnaaaZv2
set_option linter.unusedVariables false
set_option linter.unusedSimpArgs false
set_option maxRecDepth 20000
set_option maxHeartbeats 8000000
namespace Go.Proofs.Ytojcojanokhnaaa.Ab
open Go.RowKit
theorem d2 (xs : List Rw) (hl : xs.length ≤ 1000000000) : zz Go.Proofs.Try.prog 61 [rwL xs] [] (I (ni xs)) [] false := by
  refine zx [2] Go.Proofs.Try.func61 rfl rfl ?_
  simp only [Go.Proofs.Try.ntmps61, List.length_cons, List.length_nil, Nat.reduceAdd, Nat.reduceSub, List.replicate_succ, List.replicate_zero, List.cons_append, List.nil_append]
  repeat' first | refine zK ?_ | refine zA ?_ | refine zP [] ?_ | (refine isA ?_; refine zg rfl ?_) | (refine isL ?_; refine zW rfl (by kernel_rfl) rfl rfl ?_) | (refine zd rfl ?_; refine zV rfl (by kernel_rfl) rfl rfl ?_) | refine zD ?_ | refine zB _ rfl (by kernel_rfl) ?_ | refine zX rfl ?_ | refine zY rfl ?_ | refine zC ?_ | with_reducible refine zN ?_ | refine zH ?_ | refine zI ?_ | (with_reducible first | refine zL ?_ | refine zM ?_ | refine zE ?_ | refine zG ?_ | refine zF ?_) | refine zO ?_
  refine yE (α := { i : Nat // i ≤ xs.length }) (fun i => ⟨[rwL xs, .any, .any, I (ui xs i.1), .any, .any, rwL xs, I xs.length, I i.1, .any, .any, .any, .any, .any, .any, .any, .any, .any, .any, .any, .any, .any, .any, .any, .any, .any, .any], [], 0⟩) (fun i => xs.length - i.1) ⟨0, Nat.zero_le _⟩ ?_ ?_
  · exact yf [] rfl rfl (by decide) .nil (by repeat' first | exact zm | refine zZ ?_ ?_ | exact zo | exact le_refl rfl | exact zj rfl rfl | exact zr rfl)
  · rintro ⟨i, hi⟩
    repeat' first | refine zK ?_ | refine zA ?_ | refine zP [] ?_ | (refine isA ?_; refine zg rfl ?_) | (refine isL ?_; refine zW rfl (by kernel_rfl) rfl rfl ?_) | (refine zd rfl ?_; refine zV rfl (by kernel_rfl) rfl rfl ?_) | refine zD ?_ | refine zB _ rfl (by kernel_rfl) ?_ | refine zX rfl ?_ | refine zY rfl ?_ | refine zC ?_ | with_reducible refine zN ?_ | refine zH ?_ | refine zI ?_ | (with_reducible first | refine zL ?_ | refine zM ?_ | refine zE ?_ | refine zG ?_ | refine zF ?_) | refine zO ?_
    refine zk rfl (fun h => ?_) (fun h => ?_)
    · have hlt : i < xs.length := by simpa using h
      obtain ⟨x, hx⟩ : ∃ z, xs[i]? = some z := ⟨_, List.getElem?_eq_getElem hlt⟩
      rcases Nat.eq_zero_or_pos i with rfl | hpos
      · have e1 : ui xs (0 + 1) = ((0 : Nat) : Int) := rfl
        repeat' first | refine zK ?_ | refine zA ?_ | refine zP [] ?_ | (refine isA ?_; refine zg rfl ?_) | (refine isL ?_; refine zW rfl (by kernel_rfl) rfl rfl ?_) | (refine zd rfl ?_; refine zV rfl (by kernel_rfl) rfl rfl ?_) | (refine yB (x := .tmp 6) ?_; refine zb rfl (z5 (t := rwT) (z := x) rfl rfl rfl rfl (Int.natCast_nonneg _) hx) rfl ?_) | (refine yA (x := .tmp 6) rfl ?_; refine zU rfl (by kernel_rfl) rfl (z5 (t := rwT) (z := x) rfl rfl rfl rfl (Int.natCast_nonneg _) hx) rfl ?_) | refine zD ?_ | refine zB _ rfl (by kernel_rfl) ?_ | refine zX rfl ?_ | refine zY rfl ?_ | refine zC ?_ | with_reducible refine zN ?_ | refine zH ?_ | refine zI ?_ | (with_reducible first | refine zL ?_ | refine zM ?_ | refine zE ?_ | refine zG ?_ | refine zF ?_) | refine zO ?_
        refine ⟨⟨0 + 1, hlt⟩, by simp only; omega, ?_⟩
        exact yf [] rfl rfl (by decide) .nil (by
          repeat' first | exact zm | refine zZ ?_ ?_ | exact zo | exact le_refl rfl | exact z7 (congrArg _ e1) | exact xZ (by assumption) (by omega))
      · obtain ⟨k, y, m1, m2, m3, m4⟩ := t6 (xs := xs) (n := i) (by omega) hpos
        have e1 : ui xs (i + 1) = cond (decide (yp x y < 0)) (i : Int) (k : Int) := by
          rw [ui, m1, decide_eq_false (show ¬ ((k : Nat) : Int) < 0 from by have := Int.natCast_nonneg k; omega), cond_false, Int.toNat_natCast, hx, m3]
        refine uD (T := ⟨[rwL xs, .any, .any, I ((k : Nat) : Int), .any, .any, rwL xs, I xs.length, I ((i : Nat) : Int), .any, .any, .any, .any, .any, .any, .any, .any, .any, .any, .any, .any, .any, .any, .any, .any, .any, .any], [], 0⟩) (yf [] rfl rfl (by decide) .nil (by
          repeat' first | exact zm | refine zZ ?_ ?_ | exact zo | exact le_refl rfl | exact z7 (congrArg _ m1.symm))) ?_
        repeat' first | refine zK ?_ | refine zA ?_ | refine zP [] ?_ | (refine isA ?_; refine zg rfl ?_) | (refine isL ?_; refine zW rfl (by kernel_rfl) rfl rfl ?_) | (refine zd rfl ?_; refine zV rfl (by kernel_rfl) rfl rfl ?_) | (refine yB (x := .tmp 6) ?_; refine zb rfl (z5 (t := rwT) (z := x) rfl rfl rfl rfl (Int.natCast_nonneg _) hx) rfl ?_) | (refine yA (x := .tmp 6) rfl ?_; refine zU rfl (by kernel_rfl) rfl (z5 (t := rwT) (z := x) rfl rfl rfl rfl (Int.natCast_nonneg _) hx) rfl ?_) | refine zD ?_ | refine zB _ rfl (by kernel_rfl) ?_ | refine zX rfl ?_ | refine zY rfl ?_ | refine zC ?_ | with_reducible refine zN ?_ | refine zH ?_ | refine zI ?_ | (with_reducible first | refine zL ?_ | refine zM ?_ | refine zE ?_ | refine zG ?_ | refine zF ?_) | refine zO ?_
        refine yJ rfl rfl rfl rfl (fun p => absurd (of_decide_eq_true p) (by omega)) (fun p => ?_)
        repeat' first | refine zK ?_ | refine zA ?_ | refine zP [] ?_ | (refine isA ?_; refine zg rfl ?_) | (refine isL ?_; refine zW rfl (by kernel_rfl) rfl rfl ?_) | (refine zd rfl ?_; refine zV rfl (by kernel_rfl) rfl rfl ?_) | (refine yB (x := .tmp 17) ?_; refine zb rfl (z5 (t := rwT) (z := y) rfl rfl rfl rfl (Int.natCast_nonneg _) m3) rfl ?_) | (refine yA (x := .tmp 17) rfl ?_; refine zU rfl (by kernel_rfl) rfl (z5 (t := rwT) (z := y) rfl rfl rfl rfl (Int.natCast_nonneg _) m3) rfl ?_) | (refine zv 64 ?_; refine zb rfl (zQ rfl (xL x y) (.cons (.same rfl) (.cons (.same rfl) .nil)) rfl) rfl ?_) | (refine zw 64 rfl ?_; refine zU rfl (by kernel_rfl) rfl (zQ rfl (xL x y) (.cons (.same rfl) (.cons (.same rfl) .nil)) rfl) rfl ?_) | refine zD ?_ | refine zB _ rfl (by kernel_rfl) ?_ | refine zX rfl ?_ | refine zY rfl ?_ | refine zC ?_ | with_reducible refine zN ?_ | refine zH ?_ | refine zI ?_ | (with_reducible first | refine zL ?_ | refine zM ?_ | refine zE ?_ | refine zG ?_ | refine zF ?_) | refine zO ?_
        refine zk rfl (fun p => ?_) (fun p => ?_)
        · rw [p, cond_true] at e1
          repeat' first | refine zK ?_ | refine zA ?_ | refine zP [] ?_ | (refine isA ?_; refine zg rfl ?_) | (refine isL ?_; refine zW rfl (by kernel_rfl) rfl rfl ?_) | (refine zd rfl ?_; refine zV rfl (by kernel_rfl) rfl rfl ?_) | refine zD ?_ | refine zB _ rfl (by kernel_rfl) ?_ | refine zX rfl ?_ | refine zY rfl ?_ | refine zC ?_ | with_reducible refine zN ?_ | refine zH ?_ | refine zI ?_ | (with_reducible first | refine zL ?_ | refine zM ?_ | refine zE ?_ | refine zG ?_ | refine zF ?_) | refine zO ?_
          refine ⟨⟨i + 1, hlt⟩, by simp only; omega, ?_⟩
          exact yf [] rfl rfl (by decide) .nil (by
            repeat' first | exact zm | refine zZ ?_ ?_ | exact zo | exact le_refl rfl | exact z7 (congrArg _ e1) | exact xZ (by assumption) (by omega))
        · rw [p, cond_false] at e1
          repeat' first | refine zK ?_ | refine zA ?_ | refine zP [] ?_ | (refine isA ?_; refine zg rfl ?_) | (refine isL ?_; refine zW rfl (by kernel_rfl) rfl rfl ?_) | (refine zd rfl ?_; refine zV rfl (by kernel_rfl) rfl rfl ?_) | refine zD ?_ | refine zB _ rfl (by kernel_rfl) ?_ | refine zX rfl ?_ | refine zY rfl ?_ | refine zC ?_ | with_reducible refine zN ?_ | refine zH ?_ | refine zI ?_ | (with_reducible first | refine zL ?_ | refine zM ?_ | refine zE ?_ | refine zG ?_ | refine zF ?_) | refine zO ?_
          refine ⟨⟨i + 1, hlt⟩, by simp only; omega, ?_⟩
          exact yf [] rfl rfl (by decide) .nil (by
            repeat' first | exact zm | refine zZ ?_ ?_ | exact zo | exact le_refl rfl | exact z7 (congrArg _ e1) | exact xZ (by assumption) (by omega))
    · have hge : i = xs.length := by
        have : ¬ ((i : Int) < xs.length) := by simpa using h
        omega
      subst hge
      repeat' first | refine zK ?_ | refine zA ?_ | refine zP [] ?_ | (refine isA ?_; refine zg rfl ?_) | (refine isL ?_; refine zW rfl (by kernel_rfl) rfl rfl ?_) | (refine zd rfl ?_; refine zV rfl (by kernel_rfl) rfl rfl ?_) | exact yK rfl rfl rfl | refine zD ?_ | refine zB _ rfl (by kernel_rfl) ?_ | refine zX rfl ?_ | refine zY rfl ?_ | refine zC ?_ | with_reducible refine zN ?_ | refine zH ?_ | refine zI ?_ | (with_reducible first | refine zL ?_ | refine zM ?_ | refine zE ?_ | refine zG ?_ | refine zF ?_) | refine zO ?_
theorem dj (xs : List Rw) (hl : xs.length ≤ 1000000000) : zz Go.Proofs.Try.prog 119 [rwL xs] [] (I (ni xs)) [] false := by
  refine zx [2] Go.Proofs.Try.func119 rfl rfl ?_
  simp only [Go.Proofs.Try.ntmps119, List.length_cons, List.length_nil, Nat.reduceAdd, Nat.reduceSub, List.replicate_succ, List.replicate_zero, List.cons_append, List.nil_append]
  repeat' first | refine zK ?_ | refine zA ?_ | refine zP [] ?_ | (refine isA ?_; refine zg rfl ?_) | (refine isL ?_; refine zW rfl (by kernel_rfl) rfl rfl ?_) | (refine zd rfl ?_; refine zV rfl (by kernel_rfl) rfl rfl ?_) | refine zD ?_ | refine zB _ rfl (by kernel_rfl) ?_ | refine zX rfl ?_ | refine zY rfl ?_ | refine zC ?_ | with_reducible refine zN ?_ | refine zH ?_ | refine zI ?_ | (with_reducible first | refine zL ?_ | refine zM ?_ | refine zE ?_ | refine zG ?_ | refine zF ?_) | refine zO ?_
  refine yE (α := { i : Nat // i ≤ xs.length }) (fun i => ⟨[rwL xs, .any, .any, I (ui xs i.1), I i.1, .any, .any, .any, .any, .any, .any, .any, .any, .any, .any, .any, .any, .any, .any, .any, .any, .any, .any, .any, .any, .any, .any], [], 0⟩) (fun i => xs.length - i.1) ⟨0, Nat.zero_le _⟩ ?_ ?_
  · exact yf [] rfl rfl (by decide) .nil (by repeat' first | exact zm | refine zZ ?_ ?_ | exact zo | exact le_refl rfl | exact zj rfl rfl | exact zr rfl)
  · rintro ⟨i, hi⟩
    repeat' first | refine zK ?_ | refine zA ?_ | refine zP [] ?_ | (refine isA ?_; refine zg rfl ?_) | (refine isL ?_; refine zW rfl (by kernel_rfl) rfl rfl ?_) | (refine zd rfl ?_; refine zV rfl (by kernel_rfl) rfl rfl ?_) | refine zD ?_ | refine zB _ rfl (by kernel_rfl) ?_ | refine zX rfl ?_ | refine zY rfl ?_ | refine zC ?_ | with_reducible refine zN ?_ | refine zH ?_ | refine zI ?_ | (with_reducible first | refine zL ?_ | refine zM ?_ | refine zE ?_ | refine zG ?_ | refine zF ?_) | refine zO ?_
    refine zk rfl (fun h => ?_) (fun h => ?_)
    · have hlt : i < xs.length := by simpa using h
      obtain ⟨x, hx⟩ : ∃ z, xs[i]? = some z := ⟨_, List.getElem?_eq_getElem hlt⟩
      rcases Nat.eq_zero_or_pos i with rfl | hpos
      · have e1 : ui xs (0 + 1) = ((0 : Nat) : Int) := rfl
        repeat' first | refine zK ?_ | refine zA ?_ | refine zP [] ?_ | (refine isA ?_; refine zg rfl ?_) | (refine isL ?_; refine zW rfl (by kernel_rfl) rfl rfl ?_) | (refine zd rfl ?_; refine zV rfl (by kernel_rfl) rfl rfl ?_) | refine zD ?_ | refine zB _ rfl (by kernel_rfl) ?_ | refine zX rfl ?_ | refine zY rfl ?_ | refine zC ?_ | with_reducible refine zN ?_ | refine zH ?_ | refine zI ?_ | (with_reducible first | refine zL ?_ | refine zM ?_ | refine zE ?_ | refine zG ?_ | refine zF ?_) | refine zO ?_
        refine ⟨⟨0 + 1, hlt⟩, by simp only; omega, ?_⟩
        exact yf [] rfl rfl (by decide) .nil (by
          repeat' first | exact zm | refine zZ ?_ ?_ | exact zo | exact le_refl rfl | exact z7 (congrArg _ e1) | exact xZ (by assumption) (by omega))
      · obtain ⟨k, y, m1, m2, m3, m4⟩ := t6 (xs := xs) (n := i) (by omega) hpos
        have e1 : ui xs (i + 1) = cond (decide (yp x y < 0)) (i : Int) (k : Int) := by
          rw [ui, m1, decide_eq_false (show ¬ ((k : Nat) : Int) < 0 from by have := Int.natCast_nonneg k; omega), cond_false, Int.toNat_natCast, hx, m3]
        refine uD (T := ⟨[rwL xs, .any, .any, I ((k : Nat) : Int), I ((i : Nat) : Int), .any, .any, .any, .any, .any, .any, .any, .any, .any, .any, .any, .any, .any, .any, .any, .any, .any, .any, .any, .any, .any, .any], [], 0⟩) (yf [] rfl rfl (by decide) .nil (by
          repeat' first | exact zm | refine zZ ?_ ?_ | exact zo | exact le_refl rfl | exact z7 (congrArg _ m1.symm))) ?_
        repeat' first | refine zK ?_ | refine zA ?_ | refine zP [] ?_ | (refine isA ?_; refine zg rfl ?_) | (refine isL ?_; refine zW rfl (by kernel_rfl) rfl rfl ?_) | (refine zd rfl ?_; refine zV rfl (by kernel_rfl) rfl rfl ?_) | refine zD ?_ | refine zB _ rfl (by kernel_rfl) ?_ | refine zX rfl ?_ | refine zY rfl ?_ | refine zC ?_ | with_reducible refine zN ?_ | refine zH ?_ | refine zI ?_ | (with_reducible first | refine zL ?_ | refine zM ?_ | refine zE ?_ | refine zG ?_ | refine zF ?_) | refine zO ?_
        refine yJ rfl rfl rfl rfl (fun p => absurd (of_decide_eq_true p) (by omega)) (fun p => ?_)
        repeat' first | refine zK ?_ | refine zA ?_ | refine zP [] ?_ | (refine isA ?_; refine zg rfl ?_) | (refine isL ?_; refine zW rfl (by kernel_rfl) rfl rfl ?_) | (refine zd rfl ?_; refine zV rfl (by kernel_rfl) rfl rfl ?_) | (refine yB (x := .tmp 14) ?_; refine zb rfl (z5 (t := rwT) (z := x) rfl rfl rfl rfl (Int.natCast_nonneg _) hx) rfl ?_) | (refine yA (x := .tmp 14) rfl ?_; refine zU rfl (by kernel_rfl) rfl (z5 (t := rwT) (z := x) rfl rfl rfl rfl (Int.natCast_nonneg _) hx) rfl ?_) | (refine yB (x := .tmp 18) ?_; refine zb rfl (z5 (t := rwT) (z := y) rfl rfl rfl rfl (Int.natCast_nonneg _) m3) rfl ?_) | (refine yA (x := .tmp 18) rfl ?_; refine zU rfl (by kernel_rfl) rfl (z5 (t := rwT) (z := y) rfl rfl rfl rfl (Int.natCast_nonneg _) m3) rfl ?_) | (refine zv 68 ?_; refine zb rfl (zQ rfl (xt x y) (.cons (.same rfl) (.cons (.same rfl) .nil)) rfl) rfl ?_) | (refine zw 68 rfl ?_; refine zU rfl (by kernel_rfl) rfl (zQ rfl (xt x y) (.cons (.same rfl) (.cons (.same rfl) .nil)) rfl) rfl ?_) | refine zD ?_ | refine zB _ rfl (by kernel_rfl) ?_ | refine zX rfl ?_ | refine zY rfl ?_ | refine zC ?_ | with_reducible refine zN ?_ | refine zH ?_ | refine zI ?_ | (with_reducible first | refine zL ?_ | refine zM ?_ | refine zE ?_ | refine zG ?_ | refine zF ?_) | refine zO ?_
        refine zk rfl (fun p => ?_) (fun p => ?_)
        · rw [p, cond_true] at e1
          repeat' first | refine zK ?_ | refine zA ?_ | refine zP [] ?_ | (refine isA ?_; refine zg rfl ?_) | (refine isL ?_; refine zW rfl (by kernel_rfl) rfl rfl ?_) | (refine zd rfl ?_; refine zV rfl (by kernel_rfl) rfl rfl ?_) | refine zD ?_ | refine zB _ rfl (by kernel_rfl) ?_ | refine zX rfl ?_ | refine zY rfl ?_ | refine zC ?_ | with_reducible refine zN ?_ | refine zH ?_ | refine zI ?_ | (with_reducible first | refine zL ?_ | refine zM ?_ | refine zE ?_ | refine zG ?_ | refine zF ?_) | refine zO ?_
          refine ⟨⟨i + 1, hlt⟩, by simp only; omega, ?_⟩
          exact yf [] rfl rfl (by decide) .nil (by
            repeat' first | exact zm | refine zZ ?_ ?_ | exact zo | exact le_refl rfl | exact z7 (congrArg _ e1) | exact xZ (by assumption) (by omega))
        · rw [p, cond_false] at e1
          repeat' first | refine zK ?_ | refine zA ?_ | refine zP [] ?_ | (refine isA ?_; refine zg rfl ?_) | (refine isL ?_; refine zW rfl (by kernel_rfl) rfl rfl ?_) | (refine zd rfl ?_; refine zV rfl (by kernel_rfl) rfl rfl ?_) | refine zD ?_ | refine zB _ rfl (by kernel_rfl) ?_ | refine zX rfl ?_ | refine zY rfl ?_ | refine zC ?_ | with_reducible refine zN ?_ | refine zH ?_ | refine zI ?_ | (with_reducible first | refine zL ?_ | refine zM ?_ | refine zE ?_ | refine zG ?_ | refine zF ?_) | refine zO ?_
          refine ⟨⟨i + 1, hlt⟩, by simp only; omega, ?_⟩
          exact yf [] rfl rfl (by decide) .nil (by
            repeat' first | exact zm | refine zZ ?_ ?_ | exact zo | exact le_refl rfl | exact z7 (congrArg _ e1) | exact xZ (by assumption) (by omega))
    · have hge : i = xs.length := by
        have : ¬ ((i : Int) < xs.length) := by simpa using h
        omega
      subst hge
      repeat' first | refine zK ?_ | refine zA ?_ | refine zP [] ?_ | (refine isA ?_; refine zg rfl ?_) | (refine isL ?_; refine zW rfl (by kernel_rfl) rfl rfl ?_) | (refine zd rfl ?_; refine zV rfl (by kernel_rfl) rfl rfl ?_) | exact yK rfl rfl rfl | refine zD ?_ | refine zB _ rfl (by kernel_rfl) ?_ | refine zX rfl ?_ | refine zY rfl ?_ | refine zC ?_ | with_reducible refine zN ?_ | refine zH ?_ | refine zI ?_ | (with_reducible first | refine zL ?_ | refine zM ?_ | refine zE ?_ | refine zG ?_ | refine zF ?_) | refine zO ?_
theorem mn (xs : List Rw) (k : Nat) (hk : k < xs.length) (hl : xs.length ≤ 100000000) : zz Go.Proofs.Try.prog 62 [rwL xs, I k] [] (.sl 0 0 (xs.take k ++ xs.drop (k + 1)).length) [rwR (xs.take k ++ xs.drop (k + 1))] false := by
  have ew : IntKind.i64.wrap ((k : Int) + 1) = ((k + 1 : Nat) : Int) := by rw [IntKind.wrap_i64]; omega
  refine zx [4] Go.Proofs.Try.func62 rfl rfl ?_
  simp only [Go.Proofs.Try.ntmps62, List.length_cons, List.length_nil, Nat.reduceAdd, Nat.reduceSub, List.replicate_succ, List.replicate_zero, List.cons_append, List.nil_append]
  repeat' first | refine zK ?_ | refine zA ?_ | refine zP [] ?_ | (refine isA ?_; refine zg rfl ?_) | (refine isL ?_; refine zW rfl (by kernel_rfl) rfl rfl ?_) | (refine zd rfl ?_; refine zV rfl (by kernel_rfl) rfl rfl ?_) | (refine v6 (x := .tmp 6) ?_; refine zb rfl (yh rfl rfl rfl (by omega)) rfl ?_) | (refine v5 (x := .tmp 6) rfl ?_; refine zU rfl (by kernel_rfl) rfl (yh rfl rfl rfl (by omega)) rfl ?_) | (refine v6 (x := .tmp 11) ?_; refine zb rfl (xc (k := k + 1) rfl rfl rfl ew (by omega)) rfl ?_) | (refine v5 (x := .tmp 11) rfl ?_; refine zU rfl (by kernel_rfl) rfl (xc (k := k + 1) rfl rfl rfl ew (by omega)) rfl ?_) | (refine zv 114 ?_; refine zb rfl (ye rfl (wc (xs.take k) (by simp; omega)) (.cons (.same rfl) .nil) (fun q hq => by simp at hq; subst hq; exact zJ _ _) rfl rfl) rfl ?_) | (refine zw 114 rfl ?_; refine zU rfl (by kernel_rfl) rfl (ye rfl (wc (xs.take k) (by simp; omega)) (.cons (.same rfl) .nil) (fun q hq => by simp at hq; subst hq; exact zJ _ _) rfl rfl) rfl ?_) | (refine xb ?_; refine zb rfl (yV (t := rwT) (xs := xs.take k) (ys := xs.drop (k + 1)) rfl rfl rfl rfl (.lst _ _) (by simp; omega) rfl) rfl ?_) | (refine xH rfl ?_; refine zU rfl (by kernel_rfl) rfl (yV (t := rwT) (xs := xs.take k) (ys := xs.drop (k + 1)) rfl rfl rfl rfl (.lst _ _) (by simp; omega) rfl) rfl ?_) | exact jJ [1] rfl (wn (by decide) (.cons rfl rfl rfl rfl (zT (zJ _ _)) .nil)) (zj rfl rfl) (Or.inr ⟨rfl, fun q hq => by simp at hq; subst hq; exact ⟨Nat.zero_ne_one, fun _ => (x3 _).flatS⟩⟩) | refine zD ?_ | refine zB _ rfl (by kernel_rfl) ?_ | refine zX rfl ?_ | refine zY rfl ?_ | refine zC ?_ | with_reducible refine zN ?_ | refine zH ?_ | refine zI ?_ | (with_reducible first | refine zL ?_ | refine zM ?_ | refine zE ?_ | refine zG ?_ | refine zF ?_) | refine zO ?_
theorem gl (xs : List Rw) (k : Nat) (hk : k < xs.length) (hl : xs.length ≤ 100000000) : zz Go.Proofs.Try.prog 120 [rwL xs, I k] [] (.sl 0 0 (xs.take k ++ xs.drop (k + 1)).length) [rwR (xs.take k ++ xs.drop (k + 1))] false := by
  have ew : IntKind.i64.wrap ((k : Int) + 1) = ((k + 1 : Nat) : Int) := by rw [IntKind.wrap_i64]; omega
  refine zx [4] Go.Proofs.Try.func120 rfl rfl ?_
  simp only [Go.Proofs.Try.ntmps120, List.length_cons, List.length_nil, Nat.reduceAdd, Nat.reduceSub, List.replicate_succ, List.replicate_zero, List.cons_append, List.nil_append]
  repeat' first | refine zK ?_ | refine zA ?_ | (refine isA ?_; refine zg rfl ?_) | (refine isL ?_; refine zW rfl (by kernel_rfl) rfl rfl ?_) | (refine zd rfl ?_; refine zV rfl (by kernel_rfl) rfl rfl ?_) | refine zD ?_ | refine zB _ rfl (by kernel_rfl) ?_ | refine zX rfl ?_ | refine zY rfl ?_ | refine zC ?_ | with_reducible refine zN ?_ | refine zH ?_ | refine zI ?_ | (with_reducible first | refine zL ?_ | refine zM ?_ | refine zE ?_ | refine zG ?_ | refine zF ?_) | refine zO ?_
  refine tH (fun _ => True) 11 rfl ?_
  refine yY 1 trivial rfl (by kernel_rfl) rfl (fun _ => rfl) rfl ?_
  refine yY 2 trivial rfl (by kernel_rfl) rfl (fun _ => rfl) rfl ?_
  refine xA 3 trivial rfl (by kernel_rfl) rfl (fun _ _ => yh rfl rfl rfl (by omega)) rfl ?_
  refine yY 5 trivial rfl (by kernel_rfl) rfl (fun _ => rfl) rfl ?_
  refine yY 6 trivial rfl (by kernel_rfl) rfl (fun _ => rfl) rfl ?_
  refine yY 7 trivial rfl (by kernel_rfl) rfl (fun _ => rfl) rfl ?_
  refine xA 8 trivial rfl (by kernel_rfl) rfl (fun _ _ => xc (k := k + 1) rfl rfl rfl ew (by omega)) rfl ?_
  refine wV 0 (by kernel_rfl) ?_
  refine gq rfl rfl rfl trivial rfl ?_
  refine wV 4 (by kernel_rfl) ?_
  refine sx rfl rfl (yV (t := rwT) (xs := []) (ys := xs.take k) rfl rfl rfl rfl (.lst _ _) (by simp; omega) rfl) trivial rfl ?_
  refine wV 9 (by kernel_rfl) ?_
  refine sx rfl rfl (yV (t := rwT) (xs := [] ++ xs.take k) (ys := xs.drop (k + 1)) rfl rfl rfl rfl (.lst _ _) (by simp; omega) rfl) trivial rfl ?_
  refine yY 10 trivial rfl (by kernel_rfl) rfl (fun _ => rfl) rfl ?_
  refine w6 (by kernel_rfl) ?_
  repeat' first | refine zK ?_ | refine zA ?_ | refine zP [] ?_ | (refine isA ?_; refine zg rfl ?_) | (refine isL ?_; refine zW rfl (by kernel_rfl) rfl rfl ?_) | (refine zd rfl ?_; refine zV rfl (by kernel_rfl) rfl rfl ?_) | exact jJ [2] rfl (wn (by decide) (.cons rfl rfl rfl rfl (zT (zJ _ _)) .nil)) (zj rfl rfl) (Or.inr ⟨rfl, fun q hq => by simp at hq; subst hq; exact ⟨Nat.zero_ne_one, fun _ => (x3 _).flatS⟩⟩) | refine zD ?_ | refine zB _ rfl (by kernel_rfl) ?_ | refine zX rfl ?_ | refine zY rfl ?_ | refine zC ?_ | with_reducible refine zN ?_ | refine zH ?_ | refine zI ?_ | (with_reducible first | refine zL ?_ | refine zM ?_ | refine zE ?_ | refine zG ?_ | refine zF ?_) | refine zO ?_
end Go.Proofs.Ytojcojanokhnaaa.Ab
namespace Go.Proofs.Ytojcojanokhnaaa.Ab
open Go.RowKit
theorem vZ (rs : List Rn) : rs.flatten.length = tot rs := by rw [List.length_flatten]; rfl
theorem w7 {rs : List Rn} {i : Nat} {z : Rn} (hz : rs[i]? = some z) : (rs.take (i + 1)).flatten = (rs.take i).flatten ++ z := by
  rw [yr hz]; simp
theorem mq (rs : List Rn) (hok : tP rs) (ht : tot rs ≤ 100000000) : zz Go.Proofs.Try.prog 85 [rnL rs] [] (.sl 0 0 rs.flatten.length) [rwR rs.flatten] false := by
  have hl := hok.1
  refine zx [2] Go.Proofs.Try.func85 rfl rfl ?_
  simp only [Go.Proofs.Try.ntmps85, List.length_cons, List.length_nil, Nat.reduceAdd, Nat.reduceSub, List.replicate_succ, List.replicate_zero, List.cons_append, List.nil_append]
  repeat' first | refine zK ?_ | refine zA ?_ | refine zP [] ?_ | (refine isA ?_; refine zg rfl ?_) | (refine isL ?_; refine zW rfl (by kernel_rfl) rfl rfl ?_) | (refine zd rfl ?_; refine zV rfl (by kernel_rfl) rfl rfl ?_) | refine zD ?_ | refine zB _ rfl (by kernel_rfl) ?_ | refine zX rfl ?_ | refine zY rfl ?_ | refine zC ?_ | with_reducible refine zN ?_ | refine zH ?_ | refine zI ?_ | (with_reducible first | refine zL ?_ | refine zM ?_ | refine zE ?_ | refine zG ?_ | refine zF ?_) | refine zO ?_
  refine yE (α := { i : Nat // i ≤ rs.length }) (fun i => ⟨[rnL rs, .any, .any, .sl 0 0 (rs.take i.1).flatten.length, I i.1, .any, .any, .any, .any, .any, .any, .any, .any, .any, .any, .any, .any, .any, .any, .any], [rwR (rs.take i.1).flatten], 0⟩) (fun i => rs.length - i.1) ⟨0, Nat.zero_le _⟩ ?_ ?_
  · exact xI rfl (by repeat' first | exact EqS.nil | refine EqS.any ?_ | refine EqS.same rfl ?_)
  · rintro ⟨i, hi⟩
    repeat' first | refine zK ?_ | refine zA ?_ | refine zP [] ?_ | (refine isA ?_; refine zg rfl ?_) | (refine isL ?_; refine zW rfl (by kernel_rfl) rfl rfl ?_) | (refine zd rfl ?_; refine zV rfl (by kernel_rfl) rfl rfl ?_) | refine zD ?_ | refine zB _ rfl (by kernel_rfl) ?_ | refine zX rfl ?_ | refine zY rfl ?_ | refine zC ?_ | with_reducible refine zN ?_ | refine zH ?_ | refine zI ?_ | (with_reducible first | refine zL ?_ | refine zM ?_ | refine zE ?_ | refine zG ?_ | refine zF ?_) | refine zO ?_
    refine zk rfl (fun h => ?_) (fun h => ?_)
    · have hlt : i < rs.length := by simpa using h
      obtain ⟨z, hz⟩ : ∃ z, rs[i]? = some z := ⟨_, List.getElem?_eq_getElem hlt⟩
      have h1 := nO rs (i + 1)
      rw [sF hz] at h1
      have h2 := vZ (rs.take i)
      repeat' first | refine zK ?_ | refine zA ?_ | refine zP [] ?_ | (refine isA ?_; refine zg rfl ?_) | (refine isL ?_; refine zW rfl (by kernel_rfl) rfl rfl ?_) | (refine zd rfl ?_; refine zV rfl (by kernel_rfl) rfl rfl ?_) | (refine yB ?_; refine zb rfl (z5 (t := rnT) (z := z) rfl rfl rfl rfl (Int.natCast_nonneg i) hz) rfl ?_) | (refine yA rfl ?_; refine zU rfl (by kernel_rfl) rfl (z5 (t := rnT) (z := z) rfl rfl rfl rfl (Int.natCast_nonneg i) hz) rfl ?_) | (refine xb ?_; refine zb rfl (yV (t := rwT) (xs := (rs.take i).flatten) (ys := z) rfl rfl rfl rfl (.lst _ _) (by omega) rfl) rfl ?_) | (refine xH rfl ?_; refine zU rfl (by kernel_rfl) rfl (yV (t := rwT) (xs := (rs.take i).flatten) (ys := z) rfl rfl rfl rfl (.lst _ _) (by omega) rfl) rfl ?_) | refine zD ?_ | refine zB _ rfl (by kernel_rfl) ?_ | refine zX rfl ?_ | refine zY rfl ?_ | refine zC ?_ | with_reducible refine zN ?_ | refine zH ?_ | refine zI ?_ | (with_reducible first | refine zL ?_ | refine zM ?_ | refine zE ?_ | refine zG ?_ | refine zF ?_) | refine zO ?_
      refine ⟨⟨i + 1, hlt⟩, by simp only; omega, ?_⟩
      exact yf [1] rfl rfl (by decide) (.cons rfl rfl rfl rfl (yk (by rw [w7 hz]) (zJ _ _)) .nil) (by
        repeat' first | exact zm | refine zZ ?_ ?_ | exact zo | exact le_refl rfl | exact zj rfl rfl | exact zj rfl (by rw [w7 hz, List.length_append]) | exact xZ (by assumption) (by omega))
    · have hge : i = rs.length := by
        have : ¬ ((i : Int) < rs.length) := by simpa using h
        omega
      subst hge
      repeat' first | refine zK ?_ | refine zA ?_ | refine zP [] ?_ | (refine isA ?_; refine zg rfl ?_) | (refine isL ?_; refine zW rfl (by kernel_rfl) rfl rfl ?_) | (refine zd rfl ?_; refine zV rfl (by kernel_rfl) rfl rfl ?_) | exact lf (ty := rwT) rfl rfl rfl rfl (by simp) (by simp) (x3 _) | refine zD ?_ | refine zB _ rfl (by kernel_rfl) ?_ | refine zX rfl ?_ | refine zY rfl ?_ | refine zC ?_ | with_reducible refine zN ?_ | refine zH ?_ | refine zI ?_ | (with_reducible first | refine zL ?_ | refine zM ?_ | refine zE ?_ | refine zG ?_ | refine zF ?_) | refine zO ?_
theorem fz (rs : List Rn) (hok : tP rs) (ht : tot rs ≤ 100000000) : zz Go.Proofs.Try.prog 78 [rnL rs] [] (.sl 0 0 rs.flatten.length) [rwR rs.flatten] false := by
  have hl := hok.1
  refine zx [2] Go.Proofs.Try.func78 rfl rfl ?_
  simp only [Go.Proofs.Try.ntmps78, List.length_cons, List.length_nil, Nat.reduceAdd, Nat.reduceSub, List.replicate_succ, List.replicate_zero, List.cons_append, List.nil_append]
  repeat' first | refine zK ?_ | refine zA ?_ | refine zP [] ?_ | (refine isA ?_; refine zg rfl ?_) | (refine isL ?_; refine zW rfl (by kernel_rfl) rfl rfl ?_) | (refine zd rfl ?_; refine zV rfl (by kernel_rfl) rfl rfl ?_) | refine zD ?_ | refine zB _ rfl (by kernel_rfl) ?_ | refine zX rfl ?_ | refine zY rfl ?_ | refine zC ?_ | with_reducible refine zN ?_ | refine zH ?_ | refine zI ?_ | (with_reducible first | refine zL ?_ | refine zM ?_ | refine zE ?_ | refine zG ?_ | refine zF ?_) | refine zO ?_
  refine yE (α := { i : Nat // i ≤ rs.length }) (fun i => ⟨[rnL rs, .any, .any, .sl 0 0 (rs.take i.1).flatten.length, .any, .any, .any, rnL rs, I rs.length, I i.1, .any, .any, .any, .any, .any, .any, .any, .any, .any], [rwR (rs.take i.1).flatten], 0⟩) (fun i => rs.length - i.1) ⟨0, Nat.zero_le _⟩ ?_ ?_
  · exact xI rfl (by repeat' first | exact EqS.nil | refine EqS.any ?_ | refine EqS.same rfl ?_)
  · rintro ⟨i, hi⟩
    repeat' first | refine zK ?_ | refine zA ?_ | refine zP [] ?_ | (refine isA ?_; refine zg rfl ?_) | (refine isL ?_; refine zW rfl (by kernel_rfl) rfl rfl ?_) | (refine zd rfl ?_; refine zV rfl (by kernel_rfl) rfl rfl ?_) | refine zD ?_ | refine zB _ rfl (by kernel_rfl) ?_ | refine zX rfl ?_ | refine zY rfl ?_ | refine zC ?_ | with_reducible refine zN ?_ | refine zH ?_ | refine zI ?_ | (with_reducible first | refine zL ?_ | refine zM ?_ | refine zE ?_ | refine zG ?_ | refine zF ?_) | refine zO ?_
    refine zk rfl (fun h => ?_) (fun h => ?_)
    · have hlt : i < rs.length := by simpa using h
      obtain ⟨z, hz⟩ : ∃ z, rs[i]? = some z := ⟨_, List.getElem?_eq_getElem hlt⟩
      have h1 := nO rs (i + 1)
      rw [sF hz] at h1
      have h2 := vZ (rs.take i)
      repeat' first | refine zK ?_ | refine zA ?_ | refine zP [] ?_ | (refine isA ?_; refine zg rfl ?_) | (refine isL ?_; refine zW rfl (by kernel_rfl) rfl rfl ?_) | (refine zd rfl ?_; refine zV rfl (by kernel_rfl) rfl rfl ?_) | (refine yB ?_; refine zb rfl (z5 (t := rnT) (z := z) rfl rfl rfl rfl (Int.natCast_nonneg i) hz) rfl ?_) | (refine yA rfl ?_; refine zU rfl (by kernel_rfl) rfl (z5 (t := rnT) (z := z) rfl rfl rfl rfl (Int.natCast_nonneg i) hz) rfl ?_) | (refine xb ?_; refine zb rfl (yV (t := rwT) (xs := (rs.take i).flatten) (ys := z) rfl rfl rfl rfl (.lst _ _) (by omega) rfl) rfl ?_) | (refine xH rfl ?_; refine zU rfl (by kernel_rfl) rfl (yV (t := rwT) (xs := (rs.take i).flatten) (ys := z) rfl rfl rfl rfl (.lst _ _) (by omega) rfl) rfl ?_) | refine zD ?_ | refine zB _ rfl (by kernel_rfl) ?_ | refine zX rfl ?_ | refine zY rfl ?_ | refine zC ?_ | with_reducible refine zN ?_ | refine zH ?_ | refine zI ?_ | (with_reducible first | refine zL ?_ | refine zM ?_ | refine zE ?_ | refine zG ?_ | refine zF ?_) | refine zO ?_
      refine ⟨⟨i + 1, hlt⟩, by simp only; omega, ?_⟩
      exact yf [2] rfl rfl (by decide) (.cons rfl rfl rfl rfl (yk (by rw [w7 hz]) (zJ _ _)) .nil) (by
        repeat' first | exact zm | refine zZ ?_ ?_ | exact zo | exact le_refl rfl | exact zj rfl rfl | exact zj rfl (by rw [w7 hz, List.length_append]) | exact xZ (by assumption) (by omega))
    · have hge : i = rs.length := by
        have : ¬ ((i : Int) < rs.length) := by simpa using h
        omega
      subst hge
      repeat' first | refine zK ?_ | refine zA ?_ | refine zP [] ?_ | (refine isA ?_; refine zg rfl ?_) | (refine isL ?_; refine zW rfl (by kernel_rfl) rfl rfl ?_) | (refine zd rfl ?_; refine zV rfl (by kernel_rfl) rfl rfl ?_) | exact lf (ty := rwT) rfl rfl rfl rfl (by simp) (by simp) (x3 _) | refine zD ?_ | refine zB _ rfl (by kernel_rfl) ?_ | refine zX rfl ?_ | refine zY rfl ?_ | refine zC ?_ | with_reducible refine zN ?_ | refine zH ?_ | refine zI ?_ | (with_reducible first | refine zL ?_ | refine zM ?_ | refine zE ?_ | refine zG ?_ | refine zF ?_) | refine zO ?_
end Go.Proofs.Ytojcojanokhnaaa.Ab
namespace Go.Proofs.Ytojcojanokhnaaa.Ab
open Go.RowKit
def rcV (rs : List Rn) (k : Nat) (p : Int) : Int := cond (decide (p < 0)) 0 (xF ((rs.getD k [])[p.toNat]?).toList)
def yj (s : So) : Int := cond (decide (s.ph = 1)) (xF s.heap + xF s.dfr) (cond (decide (s.ph = 2)) (cond (decide (s.lp < 0) || decide (s.rp < 0)) 0 (rcV s.runs 0 s.lp + rcV s.runs 1 s.rp)) (cond (decide (s.ph = 3)) (rcV s.runs 0 s.lp) 0))
def vq (s : So) : Bool := avR s.input && (inV s.pos 0 s.input.length && (avS s.runs && (decide (0 ≤ s.wr) && (vo s.out && s.heap.all fun r => !bel r s.out))))
def sE (s : So) : Bool := decide (s.lp = 0) && (decide (s.rp = 0) && ((decide (0 < s.out.length) || decide (s.dfr.length = 0)) && (decide (yj s ≤ 60) && eqB (s.runs.flatten ++ s.out ++ s.heap ++ s.dfr) (s.input.take s.pos.toNat))))
def vW (s : So) : Bool := decide (s.pos = s.input.length) && (decide (s.heap.length = 0) && (decide (s.dfr.length = 0) && eqB s.runs.flatten s.input))
def vN (s : So) : Bool := match s.runs with
  | a :: b :: _ => inV s.lp 0 a.length && (inV s.rp 0 b.length && (xN s.out (mgV (a.take s.lp.toNat) (b.take s.rp.toNat)) && xN s.out ((mgV a b).take (s.lp.toNat + s.rp.toNat))))
  | _ => false
def uV (s : So) : Bool := decide (s.runs.length = 1) && (inV s.lp 0 ((s.input.length : Int) - 1) && (decide (s.rp = 0) && decide (s.out.length = 0)))
def uW (s : So) : Bool := decide (s.runs.length ≤ 1) && (decide (s.lp = s.input.length) && (decide (s.rp = 0) && decide (s.out.length = 0)))
def vS (s : So) : Bool := vq s && cond (decide (s.ph = 1)) (sE s) (vW s && cond (decide (s.ph = 2)) (vN s) (cond (decide (s.ph = 3)) (uV s) (cond (decide (s.ph = 4)) (uW s) false)))
def yF (s : So) : So := { s with lp := 0, rp := 0, ph := cond (decide (s.runs.length = 0)) 4 (cond (decide (s.runs.length = 1)) 3 2) }
def endV (s : So) : So := { s with runs := s.runs ++ [s.out], out := [] }
def wk (s : So) (r : Rw) : So := cond (bel r s.out) { s with dfr := s.dfr ++ [r], pos := s.pos + 1 } { s with heap := s.heap ++ [r], pos := s.pos + 1 }
def uR (s : So) (k : Nat) (r : Rw) : So := { s with heap := s.heap.take k ++ s.heap.drop (k + 1), out := s.out ++ [r], wr := IntKind.i64.wrap (s.wr + y3 r) }
def yS (s : So) : So := { s with runs := s.runs ++ [s.out], out := [], heap := s.dfr, dfr := [] }
def wE (s : So) : So := cond (decide (0 < s.out.length)) (endV s) s
def uA (s : So) : So := { s with runs := s.runs.drop 2 ++ [s.out], out := [] }
def vK (s : So) (r : Rw) : So := { s with out := s.out ++ [r], wr := IntKind.i64.wrap (s.wr + y3 r), lp := s.lp + 1 }
def wO (s : So) (r : Rw) : So := { s with out := s.out ++ [r], wr := IntKind.i64.wrap (s.wr + y3 r), rp := s.rp + 1 }
def wF (s : So) : So := { s with lp := s.lp + 1, ph := cond (decide (s.lp + 1 = s.input.length)) 4 3 }
inductive StepV (s : So) (g : Int) : So → List Rw → Prop where
  | put {r : Rw} (hp : s.ph = 1) (hr : s.input[s.pos.toNat]? = some r) (hf : yj s + y3 r ≤ g) : StepV s g (wk s r) []
  | pop {k : Nat} {r : Rw} (hp : s.ph = 1) (hf : ∀ r, s.input[s.pos.toNat]? = some r → g < yj s + y3 r) (hh : 0 < s.heap.length) (hk : ni s.heap = (k : Nat)) (hr : s.heap[k]? = some r) : StepV s g (uR s k r) []
  | swap (hp : s.ph = 1) (hf : ∀ r, s.input[s.pos.toNat]? = some r → g < yj s + y3 r) (hh : s.heap = []) (hd : 0 < s.dfr.length) : StepV s g (yS s) []
  | close (hp : s.ph = 1) (hf : ∀ r, s.input[s.pos.toNat]? = some r → g < yj s + y3 r) (hh : s.heap = []) (hd : s.dfr = []) : StepV s g (yF (wE s)) []
  | merged {a b : Rn} {rest : List Rn} (hp : s.ph = 2) (hr : s.runs = a :: b :: rest) (h1 : s.lp = a.length) (h2 : s.rp = b.length) : StepV s g (yF (uA s)) []
  | left {a b : Rn} {rest : List Rn} {r : Rw} (hp : s.ph = 2) (hr : s.runs = a :: b :: rest) (h1 : a[s.lp.toNat]? = some r) (h2 : ∀ q, b[s.rp.toNat]? = some q → leW r q) : StepV s g (vK s r) []
  | right {a b : Rn} {rest : List Rn} {r : Rw} (hp : s.ph = 2) (hr : s.runs = a :: b :: rest) (h1 : b[s.rp.toNat]? = some r) (h2 : ∀ q, a[s.lp.toNat]? = some q → ¬ leW q r) : StepV s g (wO s r) []
  | emit {a : Rn} {r : Rw} (hp : s.ph = 3) (hr : s.runs = [a]) (h1 : a[s.lp.toNat]? = some r) : StepV s g (wF s) [r]
end Go.Proofs.Ytojcojanokhnaaa.Ab
namespace Go.Proofs.Ytojcojanokhnaaa.Ab
open Go.RowKit
instance : DecidableEq Rw := fun x y => decidable_of_iff (rwD x y = true) qp
theorem vd {xs ys : List Rw} : xs.Perm ys ↔ ∀ a, xs.count a = ys.count a := List.perm_iff_count
theorem wb : ∀ xs ys : List Rw, (mgV xs ys).Perm (xs ++ ys)
  | [], ys => by rw [v3]; exact .refl _
  | x :: xs, [] => by rw [u5, List.append_nil]
  | x :: xs, y :: ys => by
    cases h : decide (yp x y ≤ 0) with
    | true => rw [mM h]; exact (wb xs (y :: ys)).cons x
    | false =>
      rw [mN h]
      exact ((wb (x :: xs) ys).cons y).trans List.perm_middle.symm
termination_by xs ys => xs.length + ys.length
theorem vQ : ∀ {xs ys : List Rw}, Srt xs → Srt ys → Srt (mgV xs ys)
  | [], ys, _, h => by rw [v3]; exact h
  | x :: xs, [], h, _ => by rw [u5]; exact h
  | x :: xs, y :: ys, hx, hy => by
    have hx' := List.pairwise_cons.1 hx
    have hy' := List.pairwise_cons.1 hy
    cases h : decide (yp x y ≤ 0) with
    | true =>
      have hle : leW x y := of_decide_eq_true h
      rw [mM h]
      refine List.pairwise_cons.2 ⟨fun z hz => ?_, vQ hx'.2 hy⟩
      rcases List.mem_append.1 ((wb xs (y :: ys)).mem_iff.1 hz) with hz | hz
      · exact hx'.1 z hz
      · rcases List.mem_cons.1 hz with rfl | hz
        · exact hle
        · exact xS hle (hy'.1 z hz)
    | false =>
      have hle : leW y x := wy (of_decide_eq_false h)
      rw [mN h]
      refine List.pairwise_cons.2 ⟨fun z hz => ?_, vQ hx hy'.2⟩
      rcases List.mem_append.1 ((wb (x :: xs) ys).mem_iff.1 hz) with hz | hz
      · rcases List.mem_cons.1 hz with rfl | hz
        · exact hle
        · exact xS hle (hx'.1 z hz)
      · exact hy'.1 z hz
termination_by xs ys => xs.length + ys.length
theorem el {xs ys : List Rw} (hx : Srt xs) (hy : Srt ys) : mgV xs ys = yN (xs ++ ys) := ww (vQ hx hy) (wb xs ys)
theorem wg {xs : List Rw} (h : Srt xs) (n : Nat) : Srt (xs.take n) := h.sublist (List.take_sublist n xs)
theorem kT {xs : List Rw} (h : Srt xs) (n : Nat) : Srt (xs.drop n) := h.sublist (List.drop_sublist n xs)
theorem sg {S out D D' : List Rw} {r : Rw} (hS : Srt S) (ho : out = S.take out.length) (hp : (out ++ D).Perm S) (hD : D.Perm (r :: D')) (hr : ∀ z ∈ D', leW r z) : S.take (out.length + 1) = out ++ [r] := by
  have e : S = out ++ S.drop out.length := by
    have := List.take_append_drop out.length S
    rw [← ho] at this
    exact this.symm
  have hd : (S.drop out.length).Perm (r :: D') := by
    rw [vd] at *
    intro a
    have h1 := hp a
    have h2 := hD a
    rw [e] at h1
    simp only [List.count_append] at h1
    omega
  have hs : Srt (r :: yN D') := List.pairwise_cons.2 ⟨fun z hz => hr z ((yZ D').mem_iff.1 hz), xQ D'⟩
  have e2 : S.drop out.length = r :: yN D' := vc (kT hS _) hs (hd.trans ((yZ D').symm.cons r))
  have e3 : S[out.length]? = some r := by
    have := congrArg (fun l => l[0]?) e2
    simp only [List.getElem?_drop, Nat.add_zero] at this
    exact this
  rw [List.take_add_one, e3, ← ho]
  rfl
theorem mj {xs : List Rw} {i : Nat} {r : Rw} (h : Srt xs) (hr : xs[i]? = some r) : ∀ z ∈ xs.drop i, leW r z := fun z hz => by
  obtain ⟨j, hj⟩ := List.getElem?_of_mem hz
  rw [List.getElem?_drop] at hj
  exact vv h (Nat.le_add_right i j) hr hj
theorem nB {xs : List Rw} {i : Nat} {r : Rw} (h : Srt xs) (hr : ∀ q, xs[i]? = some q → leW r q) : ∀ z ∈ xs.drop i, leW r z := fun z hz => by
  obtain ⟨j, hj⟩ := List.getElem?_of_mem hz
  rw [List.getElem?_drop] at hj
  have hlt := (List.getElem?_eq_some_iff.1 hj).1
  obtain ⟨q, hq⟩ : ∃ z, xs[i]? = some z := ⟨_, List.getElem?_eq_getElem (by omega)⟩
  exact xS (hr q hq) (vv h (Nat.le_add_right i j) hq hj)
structure MgI (a b : Rn) (i j : Nat) (out : List Rw) : Prop where
  ha : i ≤ a.length
  hb : j ≤ b.length
  o1 : out = mgV (a.take i) (b.take j)
  o2 : out = (mgV a b).take (i + j)
theorem MgI.len {a b : Rn} {i j : Nat} {out : List Rw} (h : MgI a b i j out) : out.length = i + j := by
  have h1 := h.ha
  have h2 := h.hb
  rw [h.o1, tQ, List.length_take, List.length_take]; omega
theorem k7 {a b : Rn} {i j : Nat} {out : List Rw} {r : Rw} (sa : Srt a) (sb : Srt b) (h : MgI a b i j out) (hr : a[i]? = some r) (hq : ∀ q, b[j]? = some q → leW r q) : MgI a b (i + 1) j (out ++ [r]) := by
  have hl := h.len
  have hlt := (List.getElem?_eq_some_iff.1 hr).1
  have p0 : out.Perm (a.take i ++ b.take j) := by have := wb (a.take i) (b.take j); rw [← h.o1] at this; exact this
  have ea : a = a.take i ++ r :: a.drop (i + 1) := by rw [← yD hr, List.take_append_drop]
  have eb : b = b.take j ++ b.drop j := (List.take_append_drop _ _).symm
  have p1 : (out ++ (a.drop i ++ b.drop j)).Perm (mgV a b) := by
    refine List.Perm.trans ?_ (wb a b).symm
    rw [vd] at *
    intro x
    have h1 := p0 x
    have h2 := congrArg (List.count x) ea
    have h3 := congrArg (List.count x) eb
    rw [yD hr]
    simp only [List.count_append, List.count_cons] at *
    omega
  have hn := sg (vQ sa sb) (by rw [hl]; exact h.o2) p1 (D' := a.drop (i + 1) ++ b.drop j) (r := r) (by rw [yD hr]; exact .refl _) (fun z hz => by
    rcases List.mem_append.1 hz with hz | hz
    · exact mj sa hr z (by rw [yD hr]; exact List.mem_cons_of_mem _ hz)
    · exact nB sb hq z hz)
  refine ⟨hlt, h.hb, ?_, by rw [← hn, hl]; congr 1; omega⟩
  rw [el (wg sa _) (wg sb _)]
  refine ww (by rw [← hn]; exact wg (vQ sa sb) _) ?_
  rw [yr hr]
  rw [vd] at *
  intro x
  have h1 := p0 x
  simp only [List.count_append] at *
  omega
theorem lX {a b : Rn} {i j : Nat} {out : List Rw} {r : Rw} (sa : Srt a) (sb : Srt b) (h : MgI a b i j out) (hr : b[j]? = some r) (hq : ∀ q, a[i]? = some q → leW r q) : MgI a b i (j + 1) (out ++ [r]) := by
  have hl := h.len
  have hlt := (List.getElem?_eq_some_iff.1 hr).1
  have p0 : out.Perm (a.take i ++ b.take j) := by have := wb (a.take i) (b.take j); rw [← h.o1] at this; exact this
  have eb : b = b.take j ++ r :: b.drop (j + 1) := by rw [← yD hr, List.take_append_drop]
  have ea : a = a.take i ++ a.drop i := (List.take_append_drop _ _).symm
  have p1 : (out ++ (a.drop i ++ b.drop j)).Perm (mgV a b) := by
    refine List.Perm.trans ?_ (wb a b).symm
    rw [vd] at *
    intro x
    have h1 := p0 x
    have h2 := congrArg (List.count x) ea
    have h3 := congrArg (List.count x) eb
    rw [yD hr]
    simp only [List.count_append, List.count_cons] at *
    omega
  have hn := sg (vQ sa sb) (by rw [hl]; exact h.o2) p1 (D' := a.drop i ++ b.drop (j + 1)) (r := r) (by rw [yD hr]; exact List.perm_middle) (fun z hz => by
    rcases List.mem_append.1 hz with hz | hz
    · exact nB sa hq z hz
    · exact mj sb hr z (by rw [yD hr]; exact List.mem_cons_of_mem _ hz))
  refine ⟨h.ha, hlt, ?_, by rw [← hn, hl]; congr 1⟩
  rw [el (wg sa _) (wg sb _)]
  refine ww (by rw [← hn]; exact wg (vQ sa sb) _) ?_
  rw [yr hr]
  rw [vd] at *
  intro x
  have h1 := p0 x
  simp only [List.count_append] at *
  omega
def fC (r : Rn) : Prop := r ≠ [] ∧ Srt r ∧ avR r = true
structure VBa (s : So) : Prop where
  input : avR s.input = true
  pos : ∃ p : Nat, s.pos = (p : Int) ∧ p ≤ s.input.length
  runs : ∀ r ∈ s.runs, fC r
  wr : 0 ≤ s.wr
  out : Srt s.out
  heap : ∀ x ∈ s.heap, bel x s.out = false
structure VRe (s : So) : Prop where
  ph : s.ph = 1
  lp : s.lp = 0
  rp : s.rp = 0
  dfr : s.dfr ≠ [] → s.out ≠ []
  mem : xF s.heap + xF s.dfr ≤ 60
  bag : (s.runs.flatten ++ s.out ++ s.heap ++ s.dfr).Perm (s.input.take s.pos.toNat)
structure VTe (s : So) : Prop where
  pos : s.pos = s.input.length
  heap : s.heap = []
  dfr : s.dfr = []
  bag : s.runs.flatten.Perm s.input
inductive VS (s : So) : Prop where
  | read (b : VBa s) (r : VRe s) : VS s
  | merge (b : VBa s) (t : VTe s) (ph : s.ph = 2) {x y : Rn} {rest : List Rn} {i j : Nat} (runs : s.runs = x :: y :: rest) (lp : s.lp = (i : Int)) (rp : s.rp = (j : Int)) (m : MgI x y i j s.out) : VS s
  | emit (b : VBa s) (t : VTe s) (ph : s.ph = 3) {x : Rn} {i : Nat} (runs : s.runs = [x]) (lp : s.lp = (i : Int)) (h : i < s.input.length) (rp : s.rp = 0) (out : s.out = []) : VS s
  | done (b : VBa s) (t : VTe s) (ph : s.ph = 4) (runs : s.runs.length ≤ 1) (lp : s.lp = s.input.length) (rp : s.rp = 0) (out : s.out = []) : VS s
theorem lA {s : So} : vq s = true ↔ VBa s := by
  simp only [vq, Bool.and_eq_true, xz, decide_eq_true_eq, vo, List.all_eq_true, avS, Bool.not_eq_true']
  constructor
  · rintro ⟨h1, h2, h3, h4, h5, h6⟩
    refine ⟨h1, ⟨s.pos.toNat, by omega, by omega⟩, fun r hr => ?_, h4, h5, h6⟩
    obtain ⟨a, b, c⟩ := h3 r hr
    refine ⟨?_, b, c⟩
    rintro rfl
    simp at a
  · rintro ⟨h1, ⟨p, h2, h2'⟩, h3, h4, h5, h6⟩
    refine ⟨h1, by omega, fun r hr => ?_, h4, h5, h6⟩
    obtain ⟨a, b, c⟩ := h3 r hr
    refine ⟨?_, b, c⟩
    simpa using a
theorem gP {xs ys : List Rw} : (xN xs ys = true) = (xs = ys) := propext vG
theorem vA {s : So} : vS s = true ↔ VS s := by
  unfold vS
  rw [Bool.and_eq_true, lA]
  constructor
  · rintro ⟨b, h⟩
    rcases Classical.em (s.ph = 1) with h1 | h1
    · rw [decide_eq_true h1, cond_true] at h
      simp only [sE, Bool.and_eq_true, Bool.or_eq_true, decide_eq_true_eq, uL, yj, h1, decide_true, cond_true] at h
      obtain ⟨q1, q2, q3, q4, q5⟩ := h
      refine .read b ⟨h1, q1, q2, fun hd => ?_, q4, q5⟩
      rintro e
      rw [e] at q3
      rcases q3 with q3 | q3
      · simp at q3
      · exact hd (List.eq_nil_of_length_eq_zero q3)
    · rw [decide_eq_false h1, cond_false] at h
      simp only [vW, Bool.and_eq_true, decide_eq_true_eq, uL] at h
      obtain ⟨⟨t1, t2, t3, t4⟩, h⟩ := h
      have t : VTe s := ⟨t1, List.eq_nil_of_length_eq_zero t2, List.eq_nil_of_length_eq_zero t3, t4⟩
      rcases Classical.em (s.ph = 2) with h2 | h2
      · rw [decide_eq_true h2, cond_true] at h
        unfold vN at h
        split at h
        · rename_i a b' rest hr
          simp only [Bool.and_eq_true, xz, gP] at h
          obtain ⟨q1, q2, q3, q4⟩ := h
          exact .merge b t h2 hr (i := s.lp.toNat) (j := s.rp.toNat) (by omega) (by omega) ⟨by omega, by omega, q3, q4⟩
        · cases h
      · rw [decide_eq_false h2, cond_false] at h
        rcases Classical.em (s.ph = 3) with h3 | h3
        · rw [decide_eq_true h3, cond_true] at h
          simp only [uV, Bool.and_eq_true, xz, decide_eq_true_eq] at h
          obtain ⟨q1, q2, q3, q4⟩ := h
          obtain ⟨x, hx⟩ := List.length_eq_one_iff.1 q1
          exact .emit b t h3 hx (i := s.lp.toNat) (by omega) (by omega) q3 (List.eq_nil_of_length_eq_zero q4)
        · rw [decide_eq_false h3, cond_false] at h
          rcases Classical.em (s.ph = 4) with h4 | h4
          · rw [decide_eq_true h4, cond_true] at h
            simp only [uW, Bool.and_eq_true, decide_eq_true_eq] at h
            obtain ⟨q1, q2, q3, q4⟩ := h
            exact .done b t h4 q1 q2 q3 (List.eq_nil_of_length_eq_zero q4)
          · rw [decide_eq_false h4, cond_false] at h
            cases h
  · intro h
    cases h with
    | read b r =>
      refine ⟨b, ?_⟩
      rw [decide_eq_true r.ph, cond_true]
      simp only [sE, Bool.and_eq_true, Bool.or_eq_true, decide_eq_true_eq, uL, yj, r.ph, decide_true, cond_true]
      refine ⟨r.lp, r.rp, ?_, r.mem, r.bag⟩
      rcases Classical.em (s.dfr = []) with e | e
      · right; rw [e]; rfl
      · left; exact List.length_pos_iff.2 (r.dfr e)
    | merge b t ph runs lp rp m =>
      refine ⟨b, ?_⟩
      have ht : vW s = true := by simp only [vW, Bool.and_eq_true, decide_eq_true_eq, uL]; exact ⟨t.pos, by rw [t.heap]; rfl, by rw [t.dfr]; rfl, t.bag⟩
      rw [decide_eq_false (by rw [ph]; decide), cond_false, ht, Bool.true_and, decide_eq_true ph, cond_true]
      have q1 := m.ha
      have q2 := m.hb
      simp only [vN, runs, Bool.and_eq_true, xz, gP, lp, rp, Int.toNat_natCast]
      exact ⟨by omega, by omega, m.o1, m.o2⟩
    | emit b t ph runs lp h rp out =>
      refine ⟨b, ?_⟩
      have ht : vW s = true := by simp only [vW, Bool.and_eq_true, decide_eq_true_eq, uL]; exact ⟨t.pos, by rw [t.heap]; rfl, by rw [t.dfr]; rfl, t.bag⟩
      rw [decide_eq_false (by rw [ph]; decide), cond_false, ht, Bool.true_and, decide_eq_false (by rw [ph]; decide), cond_false, decide_eq_true ph, cond_true]
      simp only [uV, Bool.and_eq_true, xz, decide_eq_true_eq]
      exact ⟨by rw [runs]; rfl, by omega, rp, by rw [out]; rfl⟩
    | done b t ph runs lp rp out =>
      refine ⟨b, ?_⟩
      have ht : vW s = true := by simp only [vW, Bool.and_eq_true, decide_eq_true_eq, uL]; exact ⟨t.pos, by rw [t.heap]; rfl, by rw [t.dfr]; rfl, t.bag⟩
      rw [decide_eq_false (by rw [ph]; decide), cond_false, ht, Bool.true_and, decide_eq_false (by rw [ph]; decide), cond_false, decide_eq_false (by rw [ph]; decide), cond_false, decide_eq_true ph, cond_true]
      simp only [uW, Bool.and_eq_true, decide_eq_true_eq]
      exact ⟨runs, lp, rp, by rw [out]; rfl⟩
end Go.Proofs.Ytojcojanokhnaaa.Ab
namespace Go.Proofs.Ytojcojanokhnaaa.Ab
open Go.RowKit
theorem vh {xs : List Rw} : avR xs = true ↔ (∀ x ∈ xs, vRw x = true) ∧ xs.length ≤ 24 := by
  simp only [avR, Bool.and_eq_true, List.all_eq_true, decide_eq_true_eq]
  constructor
  · rintro ⟨a, b⟩; exact ⟨a, by omega⟩
  · rintro ⟨a, b⟩; exact ⟨a, by omega⟩
def ue (s : So) (g : Int) : Prop := ∀ r, s.input[s.pos.toNat]? = some r → g < yj s + y3 r
theorem fN {s : So} {g : Int} (hv : VS s) (hd : s.ph ≠ 4) : ∃ x r, StepV s g x r := by
  cases hv with
  | read b q =>
    rcases Classical.em (∃ r, s.input[s.pos.toNat]? = some r ∧ yj s + y3 r ≤ g) with ⟨r, h1, h2⟩ | hn
    · exact ⟨_, _, .put q.ph h1 h2⟩
    · have hf : ue s g := fun r hr => Classical.byContradiction fun h => hn ⟨r, hr, by omega⟩
      rcases Nat.eq_zero_or_pos s.heap.length with h0 | h0
      · rcases Nat.eq_zero_or_pos s.dfr.length with d0 | d0
        · exact ⟨_, _, .close q.ph hf (List.eq_nil_of_length_eq_zero h0) (List.eq_nil_of_length_eq_zero d0)⟩
        · exact ⟨_, _, .swap q.ph hf (List.eq_nil_of_length_eq_zero h0) d0⟩
      · obtain ⟨k, y, h1, h2, _⟩ := mL h0
        exact ⟨_, _, .pop q.ph hf h0 h1 h2⟩
  | @merge b t ph x y rest i j runs lp rp m =>
    have e1 : s.lp.toNat = i := by omega
    have e2 : s.rp.toNat = j := by omega
    rcases Classical.em (i = x.length) with h1 | h1
    · rcases Classical.em (j = y.length) with h2 | h2
      · exact ⟨_, _, .merged ph runs (by omega) (by omega)⟩
      · have := m.hb
        obtain ⟨r, hr⟩ : ∃ z, y[j]? = some z := ⟨_, List.getElem?_eq_getElem (by omega)⟩
        refine ⟨_, _, .right (r := r) ph runs (by rw [e2]; exact hr) (fun q hq => ?_)⟩
        rw [e1, h1, List.getElem?_eq_none (Nat.le_refl _)] at hq
        cases hq
    · have := m.ha
      obtain ⟨r, hr⟩ : ∃ z, x[i]? = some z := ⟨_, List.getElem?_eq_getElem (by omega)⟩
      rcases Classical.em (∀ q, y[j]? = some q → leW r q) with hq | hq
      · exact ⟨_, _, .left (r := r) ph runs (by rw [e1]; exact hr) (by rw [e2]; exact hq)⟩
      · obtain ⟨q, hq⟩ := Classical.not_forall.1 hq
        have h3 : y[j]? = some q := Classical.byContradiction fun h => hq fun h' => absurd h' h
        have h4 : ¬ leW r q := fun h => hq fun _ => h
        refine ⟨_, _, .right (r := q) ph runs (by rw [e2]; exact h3) (fun q' hq' => ?_)⟩
        rw [e1, hr] at hq'
        cases hq'
        exact h4
  | @emit b t ph x i runs lp h rp out =>
    have hb := t.bag.length_eq
    rw [runs] at hb
    simp at hb
    obtain ⟨r, hr⟩ : ∃ z, x[i]? = some z := ⟨_, List.getElem?_eq_getElem (by omega)⟩
    exact ⟨_, _, .emit ph runs (by rw [lp]; exact hr)⟩
  | done b t ph => exact absurd ph hd
theorem uh {s : So} (b : VBa s) (t : VTe s) (ho : s.out = []) : VS (yF s) := by
  have b' : VBa (yF s) := ⟨b.input, b.pos, b.runs, b.wr, b.out, b.heap⟩
  have t' : VTe (yF s) := ⟨t.pos, t.heap, t.dfr, t.bag⟩
  match hr : s.runs with
  | [] =>
    have hb := t.bag.length_eq
    rw [hr] at hb
    simp at hb
    refine .done b' t' (by simp [yF, hr]) (by simp [yF, hr]) ?_ rfl ho
    show (0 : Int) = s.input.length
    omega
  | [x] =>
    have hb := t.bag.length_eq
    rw [hr] at hb
    simp at hb
    have hx : x ≠ [] := (b.runs x (by rw [hr]; simp)).1
    have := List.length_pos_iff.2 hx
    exact .emit b' t' (by simp [yF, hr]) hr (i := 0) rfl (by show 0 < s.input.length; omega) rfl ho
  | x :: y :: rest =>
    refine .merge b' t' ?_ hr (i := 0) (j := 0) rfl rfl ⟨Nat.zero_le _, Nat.zero_le _, ?_, ?_⟩
    · show cond (decide (s.runs.length = 0)) 4 (cond (decide (s.runs.length = 1)) 3 2) = 2
      rw [hr, decide_eq_false (by simp), decide_eq_false (by simp)]; rfl
    · show s.out = mgV [] []
      rw [v3]; exact ho
    · exact ho
theorem ly {xs : List Rw} {p : Int} (h : p = xs.length) : xs.take p.toNat = xs := by rw [h]; simp
theorem eD {s : So} (h : (s.runs.flatten ++ s.out ++ s.heap ++ s.dfr).Perm (s.input.take s.pos.toNat)) {x : Rw} (hx : x ∈ s.out) : x ∈ s.input :=
  List.mem_of_mem_take (h.mem_iff.1 (by simp [hx]))
theorem eE {s : So} (h : (s.runs.flatten ++ s.out ++ s.heap ++ s.dfr).Perm (s.input.take s.pos.toNat)) : s.out.length + s.heap.length + s.dfr.length ≤ s.input.length := by
  have := h.length_eq
  simp only [List.length_append, List.length_take] at this
  omega
theorem ku {s : So} (b : VBa s) (q : VRe s) (h : s.out ≠ []) : fC s.out := by
  refine ⟨h, b.out, vh.2 ⟨fun x hx => (vh.1 b.input).1 x (eD q.bag hx), ?_⟩⟩
  have := eE q.bag
  have := (vh.1 b.input).2
  omega
theorem vE {s : So} (q : s.ph = 1) : yj s = xF s.heap + xF s.dfr := by simp [yj, q]
theorem lC {s : So} {g : Int} (b : VBa s) (q : VRe s) (hg : 8 ≤ g) (hf : ue s g) (hh : s.heap = []) (hd : s.dfr = []) : s.pos = s.input.length := by
  obtain ⟨p, hp, hle⟩ := b.pos
  have hm : yj s = 0 := by rw [vE q.ph, hh, hd]; rfl
  rcases Nat.lt_or_ge p s.input.length with hlt | hge
  · exfalso
    have := hf _ (show s.input[s.pos.toNat]? = some _ from by rw [hp, Int.toNat_natCast]; exact List.getElem?_eq_getElem hlt)
    have := wq s.input[p]
    omega
  · omega
theorem tK {w c : Int} (h0 : 0 ≤ w) (h1 : w ≤ 4611686018427387904) (c0 : 0 ≤ c) (c1 : c ≤ 4) : IntKind.i64.wrap (w + c) = w + c := by rw [IntKind.wrap_i64]; omega
theorem nP {s x : So} {g : Int} {r : List Rw} (hv : VS s) (hg : 8 ≤ g) (hg2 : g ≤ 60) (hw : s.wr ≤ 4611686018427387904) (h : StepV s g x r) : VS x := by
  cases h with
  | @put r hp hr hf =>
    cases hv with
    | read b q =>
      obtain ⟨p, hpp, hle⟩ := b.pos
      have e : s.pos.toNat = p := by omega
      rw [e] at hr
      have hlt := (List.getElem?_eq_some_iff.1 hr).1
      have ew : (s.pos + 1).toNat = p + 1 := by omega
      have hm := vE q.ph
      have bg := q.bag
      rw [e] at bg
      unfold wk
      cases hb : bel r s.out with
      | true =>
        rw [cond_true]
        refine .read ⟨b.input, ⟨p + 1, by simp only; omega, hlt⟩, b.runs, b.wr, b.out, b.heap⟩ ⟨hp, q.lp, q.rp, fun _ he => ?_, ?_, ?_⟩
        · simp only at he
          rw [he] at hb
          cases hb
        · simp only [xu, xF]; omega
        · simp only [ew]
          rw [yr hr, ← List.append_assoc]
          exact bg.append_right [r]
      | false =>
        rw [cond_false]
        refine .read ⟨b.input, ⟨p + 1, by simp only; omega, hlt⟩, b.runs, b.wr, b.out, fun y hy => ?_⟩ ⟨hp, q.lp, q.rp, q.dfr, ?_, ?_⟩
        · simp only at hy ⊢
          rcases List.mem_append.1 hy with hy | hy
          · exact b.heap y hy
          · have : y = r := by simpa using hy
            rw [this]; exact hb
        · simp only [xu, xF]; omega
        · simp only [ew]
          rw [yr hr]
          rw [vd] at *
          intro a
          have := bg a
          simp only [List.count_append] at *
          omega
    | merge b t ph => rw [hp] at ph; cases ph
    | emit b t ph => rw [hp] at ph; cases ph
    | done b t ph => rw [hp] at ph; cases ph
  | @pop k r hp hf hh hk hr =>
    cases hv with
    | read b q =>
      obtain ⟨k', y, m1, m2, m3⟩ := mL hh
      obtain rfl : k' = k := by rw [hk] at m1; omega
      rw [hr] at m2
      cases m2
      have hb := b.heap r (List.mem_of_getElem? hr)
      have hp1 := qA hr
      have bg := q.bag
      have c := wq r
      have e := s9 hp1
      simp only [xu, xF] at e
      have hmem : ∀ z, z ∈ s.heap.take k' ++ s.heap.drop (k' + 1) → z ∈ s.heap := fun z hz => hp1.mem_iff.1 (List.mem_append_left _ hz)
      refine .read ⟨b.input, b.pos, b.runs, ?_, kS b.out hb, fun y hy => ?_⟩ ⟨hp, q.lp, q.rp, fun _ he => ?_, ?_, ?_⟩
      · simp only [uR]
        rw [tK b.wr hw c.1 c.2]
        have := b.wr
        omega
      · simp only [uR] at hy ⊢
        rw [gt]
        exact decide_eq_false (fun h => absurd (m3 y (hmem y hy)) (xY.1 h))
      · simp [uR] at he
      · have := q.mem
        simp only [uR, xu]; omega
      · simp only [uR]
        rw [vd] at *
        intro a
        have := bg a
        have := hp1 a
        simp only [List.count_append] at *
        omega
    | merge b t ph => rw [hp] at ph; cases ph
    | emit b t ph => rw [hp] at ph; cases ph
    | done b t ph => rw [hp] at ph; cases ph
  | swap hp hf hh hd =>
    cases hv with
    | read b q =>
      have hd' : s.dfr ≠ [] := List.ne_nil_of_length_pos hd
      have ho := ku b q (q.dfr hd')
      have bg := q.bag
      refine .read ⟨b.input, b.pos, fun r hr => ?_, b.wr, List.Pairwise.nil, fun y hy => rfl⟩ ⟨hp, q.lp, q.rp, fun h => absurd rfl h, ?_, ?_⟩
      · simp only [yS] at hr
        rcases List.mem_append.1 hr with hr | hr
        · exact b.runs r hr
        · have : r = s.out := by simpa using hr
          rw [this]; exact ho
      · have := q.mem
        rw [hh] at this
        simp only [yS, xF] at this ⊢
        omega
      · simp only [yS]
        rw [vd] at *
        intro a
        have := bg a
        rw [hh] at this
        simp only [List.count_append, List.flatten_append, List.flatten_cons, List.flatten_nil, List.append_nil] at *
        omega
    | merge b t ph => rw [hp] at ph; cases ph
    | emit b t ph => rw [hp] at ph; cases ph
    | done b t ph => rw [hp] at ph; cases ph
  | close hp hf hh hd =>
    cases hv with
    | read b q =>
      have hpos := lC b q hg hf hh hd
      have bg := q.bag
      rw [ly hpos, hh, hd, List.append_nil, List.append_nil] at bg
      unfold wE
      rcases Nat.eq_zero_or_pos s.out.length with h0 | h0
      · rw [decide_eq_false (by omega), cond_false]
        have ho := List.eq_nil_of_length_eq_zero h0
        rw [ho, List.append_nil] at bg
        exact uh b ⟨hpos, hh, hd, bg⟩ ho
      · rw [decide_eq_true h0, cond_true]
        have ho := ku b q (List.ne_nil_of_length_pos h0)
        refine uh ⟨b.input, b.pos, fun r hr => ?_, b.wr, List.Pairwise.nil, fun y hy => rfl⟩ ⟨hpos, hh, hd, ?_⟩ rfl
        · simp only [endV] at hr
          rcases List.mem_append.1 hr with hr | hr
          · exact b.runs r hr
          · have : r = s.out := by simpa using hr
            rw [this]; exact ho
        · simp only [endV, List.flatten_append, List.flatten_cons, List.flatten_nil, List.append_nil]
          exact bg
    | merge b t ph => rw [hp] at ph; cases ph
    | emit b t ph => rw [hp] at ph; cases ph
    | done b t ph => rw [hp] at ph; cases ph
  | @merged a c rest hp hr h1 h2 =>
    cases hv with
    | read b q => rw [q.ph] at hp; cases hp
    | @merge b t ph x y rest' i j runs lp rp m =>
      rw [hr] at runs
      cases runs
      have e1 : i = a.length := by omega
      have e2 : j = c.length := by omega
      subst e1 e2
      have bg := t.bag
      rw [hr] at bg
      have o1 := m.o1
      rw [List.take_length, List.take_length] at o1
      have oa := b.runs a (by rw [hr]; simp)
      have oc := b.runs c (by rw [hr]; simp)
      have po : s.out.Perm (a ++ c) := by rw [o1]; exact wb a c
      have hin : ∀ z ∈ s.out, z ∈ s.input := fun z hz => bg.mem_iff.1 (by
        have := po.mem_iff.1 hz
        simp only [List.flatten_cons, List.mem_append] at this ⊢
        rcases this with h | h
        · exact Or.inl h
        · exact Or.inr (Or.inl h))
      have hlen : s.out.length ≤ s.input.length := by
        have q1 := bg.length_eq
        have q2 := po.length_eq
        simp only [List.flatten_cons, List.length_append] at q1 q2
        omega
      have ed : s.runs.drop 2 = rest := by rw [hr]; rfl
      refine uh ⟨b.input, b.pos, fun r hr' => ?_, b.wr, List.Pairwise.nil, fun y hy => rfl⟩ ⟨t.pos, t.heap, t.dfr, ?_⟩ rfl
      · simp only [uA, ed] at hr'
        rcases List.mem_append.1 hr' with hr' | hr'
        · exact b.runs r (by rw [hr]; simp [hr'])
        · have : r = s.out := by simpa using hr'
          rw [this]
          refine ⟨?_, by rw [o1]; exact vQ oa.2.1 oc.2.1, vh.2 ⟨fun z hz => (vh.1 b.input).1 z (hin z hz), by have := (vh.1 b.input).2; omega⟩⟩
          intro he
          have := po.length_eq
          rw [he] at this
          have := List.length_pos_iff.2 oa.1
          simp only [List.length_append, List.length_nil] at *
          omega
      · simp only [uA, ed]
        rw [vd] at *
        intro z
        have := bg z
        have := po z
        simp only [List.count_append, List.flatten_append, List.flatten_cons, List.flatten_nil, List.append_nil] at *
        omega
    | emit b t ph => rw [hp] at ph; cases ph
    | done b t ph => rw [hp] at ph; cases ph
  | @left a c rest r hp hr h1 h2 =>
    cases hv with
    | read b q => rw [q.ph] at hp; cases hp
    | @merge b t ph x y rest' i j runs lp rp m =>
      rw [hr] at runs
      cases runs
      rw [show s.lp.toNat = i by omega] at h1
      rw [show s.rp.toNat = j by omega] at h2
      have hlt := (List.getElem?_eq_some_iff.1 h1).1
      have q := k7 (b.runs a (by rw [hr]; simp)).2.1 (b.runs c (by rw [hr]; simp)).2.1 m h1 h2
      have cb := wq r
      refine .merge ⟨b.input, b.pos, b.runs, ?_, ?_, ?_⟩ ⟨t.pos, t.heap, t.dfr, t.bag⟩ hp hr (i := i + 1) (j := j) ?_ rp q
      · simp only [vK]; rw [tK b.wr hw cb.1 cb.2]; have := b.wr; omega
      · have := q.o2
        simp only [vK]
        rw [this]
        exact wg (vQ (b.runs a (by rw [hr]; simp)).2.1 (b.runs c (by rw [hr]; simp)).2.1) _
      · simp only [vK]; rw [t.heap]; intro z hz; cases hz
      · simp only [vK]; omega
    | emit b t ph => rw [hp] at ph; cases ph
    | done b t ph => rw [hp] at ph; cases ph
  | @right a c rest r hp hr h1 h2 =>
    cases hv with
    | read b q => rw [q.ph] at hp; cases hp
    | @merge b t ph x y rest' i j runs lp rp m =>
      rw [hr] at runs
      cases runs
      rw [show s.rp.toNat = j by omega] at h1
      rw [show s.lp.toNat = i by omega] at h2
      have hlt := (List.getElem?_eq_some_iff.1 h1).1
      have q := lX (b.runs a (by rw [hr]; simp)).2.1 (b.runs c (by rw [hr]; simp)).2.1 m h1 (fun q hq => wy (h2 q hq))
      have cb := wq r
      refine .merge ⟨b.input, b.pos, b.runs, ?_, ?_, ?_⟩ ⟨t.pos, t.heap, t.dfr, t.bag⟩ hp hr (i := i) (j := j + 1) lp ?_ q
      · simp only [wO]; rw [tK b.wr hw cb.1 cb.2]; have := b.wr; omega
      · have := q.o2
        simp only [wO]
        rw [this]
        exact wg (vQ (b.runs a (by rw [hr]; simp)).2.1 (b.runs c (by rw [hr]; simp)).2.1) _
      · simp only [wO]; rw [t.heap]; intro z hz; cases hz
      · simp only [wO]; omega
    | emit b t ph => rw [hp] at ph; cases ph
    | done b t ph => rw [hp] at ph; cases ph
  | @emit a r hp hr h1 =>
    cases hv with
    | read b q => rw [q.ph] at hp; cases hp
    | merge b t ph => rw [hp] at ph; cases ph
    | @emit b t ph x i runs lp hi rp out =>
      have b' : VBa (wF s) := ⟨b.input, b.pos, b.runs, b.wr, b.out, b.heap⟩
      have t' : VTe (wF s) := ⟨t.pos, t.heap, t.dfr, t.bag⟩
      rcases Classical.em (s.lp + 1 = s.input.length) with e | e
      · refine .done b' t' ?_ ?_ e rp out
        · show cond (decide (s.lp + 1 = s.input.length)) 4 3 = 4
          rw [decide_eq_true e]; rfl
        · show s.runs.length ≤ 1
          rw [runs]; simp
      · refine .emit b' t' ?_ runs (i := i + 1) ?_ ?_ rp out
        · show cond (decide (s.lp + 1 = s.input.length)) 4 3 = 3
          rw [decide_eq_false e]; rfl
        · show s.lp + 1 = _
          omega
        · show i + 1 < s.input.length
          omega
    | done b t ph => rw [hp] at ph; cases ph
end Go.Proofs.Ytojcojanokhnaaa.Ab
namespace Go.Proofs.Ytojcojanokhnaaa.Ab
open Go.RowKit
theorem lR (rs : List Rn) (k : Nat) (p : Int) : 0 ≤ rcV rs k p ∧ rcV rs k p ≤ 4 := by
  unfold rcV
  cases decide (p < 0) with
  | true => simp
  | false =>
    rw [cond_false]
    cases (rs.getD k [])[p.toNat]? with
    | none => simp [xF]
    | some x => have := wq x; simp only [Option.toList_some, xF]; omega
theorem vf {s : So} (h : s.ph ≠ 1) : 0 ≤ yj s ∧ yj s ≤ 8 := by
  unfold yj
  rw [decide_eq_false h, cond_false]
  have h0 := lR s.runs 0 s.lp
  have h1 := lR s.runs 1 s.rp
  cases decide (s.ph = 2) with
  | true =>
    rw [cond_true]
    cases (decide (s.lp < 0) || decide (s.rp < 0)) with
    | true => simp
    | false => simp only [cond_false]; omega
  | false =>
    rw [cond_false]
    cases decide (s.ph = 3) with
    | true => simp only [cond_true]; omega
    | false => simp
theorem k8 (s : So) : 0 ≤ yj s := by
  rcases Classical.em (s.ph = 1) with h | h
  · rw [vE h]; have := uX s.heap; have := uX s.dfr; omega
  · exact (vf h).1
theorem mI (s : So) : (yF s).ph ≠ 1 := by
  show cond (decide (s.runs.length = 0)) 4 (cond (decide (s.runs.length = 1)) 3 2) ≠ (1 : Int)
  cases decide (s.runs.length = 0) <;> cases decide (s.runs.length = 1) <;> decide
theorem fY (s : So) : (wF s).ph ≠ 1 := by
  show cond (decide (s.lp + 1 = s.input.length)) 4 3 ≠ (1 : Int)
  cases decide (s.lp + 1 = s.input.length) <;> decide
theorem fS (s : So) (r : Rw) (h : s.ph = 1) : yj (wk s r) = yj s + y3 r := by
  rw [vE h]
  unfold wk
  cases bel r s.out with
  | true => rw [cond_true, vE (by exact h)]; simp only [xu, xF]; omega
  | false => rw [cond_false, vE (by exact h)]; simp only [xu, xF]; omega
theorem fX {s : So} {k : Nat} {r : Rw} (h : s.ph = 1) (hr : s.heap[k]? = some r) : yj (uR s k r) = yj s - y3 r := by
  rw [vE h, vE (by exact h)]
  have e := s9 (qA hr)
  simp only [xu, xF] at e
  simp only [uR, xu]; omega
theorem lz {s : So} (h : s.ph = 1) (hh : s.heap = []) : yj (yS s) = yj s := by
  rw [vE h, vE (by exact h), hh]
  simp only [yS, xF]; omega
theorem kF {s x : So} {g : Int} {r : List Rw} (hg : 8 ≤ g) (h : StepV s g x r) : yj x ≤ max (yj s) g := by
  cases h with
  | put hp hr hf => rw [fS _ _ hp]; omega
  | @pop k r hp hf hh hk hr => rw [fX hp hr]; have := wq r; omega
  | swap hp hf hh hd => rw [lz hp hh]; omega
  | close hp hf hh hd => have := vf (mI (wE s)); omega
  | merged hp hr h1 h2 => have := vf (mI (uA s)); omega
  | @left a b rest r hp hr h1 h2 => have := vf (s := vK s r) (by show s.ph ≠ 1; rw [hp]; decide); omega
  | @right a b rest r hp hr h1 h2 => have := vf (s := wO s r) (by show s.ph ≠ 1; rw [hp]; decide); omega
  | emit hp hr h1 => have := vf (fY s); omega
theorem uI (s : So) (r : Rw) : (wk s r).input = s.input ∧ (wk s r).pos = s.pos + 1 ∧ (wk s r).wr = s.wr ∧ (wk s r).ph = s.ph ∧ (wk s r).runs = s.runs ∧ (wk s r).out = s.out ∧ (wk s r).lp = s.lp := by
  unfold wk; cases bel r s.out <;> exact ⟨rfl, rfl, rfl, rfl, rfl, rfl, rfl⟩
theorem vM (s : So) : (wE s).input = s.input ∧ (wE s).pos = s.pos ∧ (wE s).wr = s.wr := by
  unfold wE; cases decide (0 < s.out.length) <;> exact ⟨rfl, rfl, rfl⟩
theorem nS {s x : So} {g : Int} {r : List Rw} (h : StepV s g x r) : x.input = s.input := by
  cases h with
  | @put r => exact (uI s r).1
  | close => exact (vM s).1
  | pop | swap | merged | left | right | emit => rfl
theorem kA {s x : So} {g : Int} {r : List Rw} (h : StepV s g x r) : s.pos ≤ x.pos := by
  cases h with
  | @put r => rw [(uI s r).2.1]; omega
  | close => exact Int.le_of_eq (vM s).2.1.symm
  | pop | swap | merged | left | right | emit => exact Int.le_refl _
theorem n8 {s x : So} {g : Int} {r : List Rw} (h : StepV s g x r) (h0 : 0 ≤ s.wr) (hw : s.wr ≤ 4611686018427387904) : s.wr ≤ x.wr ∧ x.wr ≤ s.wr + 4 := by
  cases h with
  | @put r => rw [(uI s r).2.2.1]; omega
  | close => rw [show (yF (wE s)).wr = s.wr from (vM s).2.2]; omega
  | @pop k r => have c := wq r; simp only [uR]; rw [tK h0 hw c.1 c.2]; omega
  | swap => simp only [yS]; omega
  | merged => simp only [yF, uA]; omega
  | @left a b rest r => have c := wq r; simp only [vK]; rw [tK h0 hw c.1 c.2]; omega
  | @right a b rest r => have c := wq r; simp only [wO]; rw [tK h0 hw c.1 c.2]; omega
  | emit => simp only [wF]; omega
theorem kK {s x : So} {g : Int} {r : List Rw} (h : StepV s g x r) : r.length ≤ 1 := by
  cases h <;> simp
def uQ (s : So) : Int := cond (decide (s.ph = 3) || decide (s.ph = 4)) (s.input.length - s.lp) s.input.length
theorem wP {s : So} (h3 : s.ph ≠ 3) (h4 : s.ph ≠ 4) : uQ s = s.input.length := by
  simp [uQ, h3, h4]
theorem mH {s : So} (h : s.ph = 3) : uQ s = s.input.length - s.lp := by simp [uQ, h]
theorem kh {s : So} (h : s.ph = 4) : uQ s = s.input.length - s.lp := by simp [uQ, h]
theorem pb (s : So) : uQ (yF s) = s.input.length := by
  unfold uQ
  show cond _ ((s.input.length : Int) - 0) (s.input.length : Int) = _
  cases (decide ((yF s).ph = 3) || decide ((yF s).ph = 4)) <;> simp
theorem lD {s x : So} {g : Int} {r : List Rw} (h : StepV s g x r) : uQ x = uQ s - r.length := by
  cases h with
  | @put r hp =>
    obtain ⟨e1, _, _, e2, _⟩ := uI s r
    rw [wP (by rw [e2, hp]; decide) (by rw [e2, hp]; decide), wP (by rw [hp]; decide) (by rw [hp]; decide), e1]; simp
  | @pop k r hp =>
    rw [wP (s := uR s k r) (by show s.ph ≠ 3; rw [hp]; decide) (by show s.ph ≠ 4; rw [hp]; decide), wP (by rw [hp]; decide) (by rw [hp]; decide)]; simp [uR]
  | swap hp =>
    rw [wP (s := yS s) (by show s.ph ≠ 3; rw [hp]; decide) (by show s.ph ≠ 4; rw [hp]; decide), wP (by rw [hp]; decide) (by rw [hp]; decide)]; simp [yS]
  | close hp =>
    rw [pb, (vM s).1, wP (by rw [hp]; decide) (by rw [hp]; decide)]; simp
  | merged hp =>
    rw [pb, wP (by rw [hp]; decide) (by rw [hp]; decide)]; simp [uA]
  | @left a b rest r hp =>
    rw [wP (s := vK s r) (by show s.ph ≠ 3; rw [hp]; decide) (by show s.ph ≠ 4; rw [hp]; decide), wP (by rw [hp]; decide) (by rw [hp]; decide)]; simp [vK]
  | @right a b rest r hp =>
    rw [wP (s := wO s r) (by show s.ph ≠ 3; rw [hp]; decide) (by show s.ph ≠ 4; rw [hp]; decide), wP (by rw [hp]; decide) (by rw [hp]; decide)]; simp [wO]
  | emit hp hr h1 =>
    rw [mH hp]
    have e : uQ (wF s) = s.input.length - (s.lp + 1) := by
      rcases Classical.em (s.lp + 1 = s.input.length) with h | h
      · exact kh (s := wF s) (by show cond (decide (s.lp + 1 = s.input.length)) 4 3 = 4; rw [decide_eq_true h]; rfl)
      · exact mH (s := wF s) (by show cond (decide (s.lp + 1 = s.input.length)) 4 3 = 3; rw [decide_eq_false h]; rfl)
    rw [e]; simp; omega
inductive Fits (g : Int) : So → Nat → So → Prop where
  | stop {s : So} (h : yj s ≤ g) : Fits g s 0 s
  | step {s x y : So} {r : List Rw} {n : Nat} (h : g < yj s) (st : StepV s g x r) (f : Fits g x n y) : Fits g s (n + 1) y
def bufN (s : So) : Nat := s.heap.length + s.dfr.length + cond (decide (s.dfr.length = 0)) 0 1
end Go.Proofs.Ytojcojanokhnaaa.Ab
namespace Go.Proofs.Ytojcojanokhnaaa.Ab
open Go.RowKit
theorem kj {rs : List Rn} {k : Nat} {p : Int} (h : p < 0) : rcV rs k p = 0 := by unfold rcV; rw [decide_eq_true h, cond_true]
theorem dP {rs : List Rn} {k : Nat} {p : Int} (h : rs.length ≤ k) : rcV rs k p = 0 := by
  unfold rcV
  rw [List.getD_eq_getElem?_getD, List.getElem?_eq_none h]
  cases decide (p < 0) <;> rfl
theorem dQ {rs : List Rn} {k p : Nat} {z : Rn} (hz : rs[k]? = some z) (h : z.length ≤ p) : rcV rs k p = 0 := by
  unfold rcV
  rw [List.getD_eq_getElem?_getD, hz, Option.getD_some, Int.toNat_natCast, List.getElem?_eq_none h]
  cases decide ((p : Int) < 0) <;> rfl
theorem rc_at {rs : List Rn} {k p : Nat} {z : Rn} {x : Rw} (hz : rs[k]? = some z) (hx : z[p]? = some x) : rcV rs k p = y3 x := by
  unfold rcV
  rw [List.getD_eq_getElem?_getD, hz, Option.getD_some, Int.toNat_natCast, hx, decide_eq_false (by omega), cond_false]
  show y3 x + 0 = y3 x
  omega
theorem qW (s : So) (k : Nat) (p : Int) (hok : tP s.runs) (hk : k ≤ 1) : zz Go.Proofs.Try.prog 89 [.agg (soE s), I k, I p] [] (I (rcV s.runs k p)) [] false := by
  have hl := hok.1
  rcases Nat.lt_or_ge k s.runs.length with h1 | h1
  · obtain ⟨z, hz⟩ : ∃ z, s.runs[k]? = some z := ⟨_, List.getElem?_eq_getElem h1⟩
    have zl := hok.at hz
    rcases Int.lt_or_le p 0 with h2 | h2
    · have e := kj (rs := s.runs) (k := k) h2
      refine zx [6] Go.Proofs.Try.func89 rfl rfl ?_
      simp only [Go.Proofs.Try.ntmps89, List.length_cons, List.length_nil, Nat.reduceAdd, Nat.reduceSub, List.replicate_succ, List.replicate_zero, List.cons_append, List.nil_append]
      repeat' first | refine zK ?_ | refine zA ?_ | refine zP [] ?_ | (refine isA ?_; refine zg rfl ?_) | (refine isL ?_; refine zW rfl (by kernel_rfl) rfl rfl ?_) | (refine zd rfl ?_; refine zV rfl (by kernel_rfl) rfl rfl ?_) | refine zD ?_ | refine zB _ rfl (by kernel_rfl) ?_ | refine zX rfl ?_ | refine zY rfl ?_ | refine zC ?_ | with_reducible refine zN ?_ | refine zH ?_ | refine zI ?_ | (with_reducible first | refine zL ?_ | refine zM ?_ | refine zE ?_ | refine zG ?_ | refine zF ?_) | refine zO ?_
      refine yX rfl rfl (fun h => absurd (of_decide_eq_true h) (by omega)) (fun h => ?_)
      repeat' first | refine zK ?_ | refine zA ?_ | refine zP [] ?_ | (refine isA ?_; refine zg rfl ?_) | (refine isL ?_; refine zW rfl (by kernel_rfl) rfl rfl ?_) | (refine zd rfl ?_; refine zV rfl (by kernel_rfl) rfl rfl ?_) | refine zD ?_ | refine zB _ rfl (by kernel_rfl) ?_ | refine zX rfl ?_ | refine zY rfl ?_ | refine zC ?_ | with_reducible refine zN ?_ | refine zH ?_ | refine zI ?_ | (with_reducible first | refine zL ?_ | refine zM ?_ | refine zE ?_ | refine zG ?_ | refine zF ?_) | refine zO ?_
      refine yX rfl rfl (fun h => ?_) (fun h => absurd h2 (of_decide_eq_false h))
      repeat' first | refine zK ?_ | refine zA ?_ | refine zP [] ?_ | (refine isA ?_; refine zg rfl ?_) | (refine isL ?_; refine zW rfl (by kernel_rfl) rfl rfl ?_) | (refine zd rfl ?_; refine zV rfl (by kernel_rfl) rfl rfl ?_) | exact yK rfl rfl (by rw [e]) | refine zD ?_ | refine zB _ rfl (by kernel_rfl) ?_ | refine zX rfl ?_ | refine zY rfl ?_ | refine zC ?_ | with_reducible refine zN ?_ | refine zH ?_ | refine zI ?_ | (with_reducible first | refine zL ?_ | refine zM ?_ | refine zE ?_ | refine zG ?_ | refine zF ?_) | refine zO ?_
    · obtain ⟨q, rfl⟩ := Int.eq_ofNat_of_zero_le h2
      rcases Nat.lt_or_ge q z.length with h3 | h3
      · obtain ⟨x, hx⟩ : ∃ y, z[q]? = some y := ⟨_, List.getElem?_eq_getElem h3⟩
        have e := rc_at hz hx
        refine zx [6] Go.Proofs.Try.func89 rfl rfl ?_
        simp only [Go.Proofs.Try.ntmps89, List.length_cons, List.length_nil, Nat.reduceAdd, Nat.reduceSub, List.replicate_succ, List.replicate_zero, List.cons_append, List.nil_append]
        repeat' first | refine zK ?_ | refine zA ?_ | refine zP [] ?_ | (refine isA ?_; refine zg rfl ?_) | (refine isL ?_; refine zW rfl (by kernel_rfl) rfl rfl ?_) | (refine zd rfl ?_; refine zV rfl (by kernel_rfl) rfl rfl ?_) | refine zD ?_ | refine zB _ rfl (by kernel_rfl) ?_ | refine zX rfl ?_ | refine zY rfl ?_ | refine zC ?_ | with_reducible refine zN ?_ | refine zH ?_ | refine zI ?_ | (with_reducible first | refine zL ?_ | refine zM ?_ | refine zE ?_ | refine zG ?_ | refine zF ?_) | refine zO ?_
        refine yX rfl rfl (fun h => absurd (of_decide_eq_true h) (by omega)) (fun h => ?_)
        repeat' first | refine zK ?_ | refine zA ?_ | refine zP [] ?_ | (refine isA ?_; refine zg rfl ?_) | (refine isL ?_; refine zW rfl (by kernel_rfl) rfl rfl ?_) | (refine zd rfl ?_; refine zV rfl (by kernel_rfl) rfl rfl ?_) | refine zD ?_ | refine zB _ rfl (by kernel_rfl) ?_ | refine zX rfl ?_ | refine zY rfl ?_ | refine zC ?_ | with_reducible refine zN ?_ | refine zH ?_ | refine zI ?_ | (with_reducible first | refine zL ?_ | refine zM ?_ | refine zE ?_ | refine zG ?_ | refine zF ?_) | refine zO ?_
        refine yX rfl rfl (fun h => absurd (of_decide_eq_true h) (by omega)) (fun h => ?_)
        repeat' first | refine zK ?_ | refine zA ?_ | refine zP [] ?_ | (refine isA ?_; refine zg rfl ?_) | (refine isL ?_; refine zW rfl (by kernel_rfl) rfl rfl ?_) | (refine zd rfl ?_; refine zV rfl (by kernel_rfl) rfl rfl ?_) | (refine yB (x := .tmp 19) ?_; refine zb rfl (z5 (t := rnT) (z := z) rfl rfl rfl rfl (Int.natCast_nonneg k) hz) rfl ?_) | (refine yA (x := .tmp 19) rfl ?_; refine zU rfl (by kernel_rfl) rfl (z5 (t := rnT) (z := z) rfl rfl rfl rfl (Int.natCast_nonneg k) hz) rfl ?_) | (refine yB (x := .tmp 28) ?_; refine zb rfl (z5 (t := rnT) (z := z) rfl rfl rfl rfl (Int.natCast_nonneg k) hz) rfl ?_) | (refine yA (x := .tmp 28) rfl ?_; refine zU rfl (by kernel_rfl) rfl (z5 (t := rnT) (z := z) rfl rfl rfl rfl (Int.natCast_nonneg k) hz) rfl ?_) | (refine yB (x := .tmp 32) ?_; refine zb rfl (z5 (t := rwT) (z := x) rfl rfl rfl rfl (Int.natCast_nonneg q) hx) rfl ?_) | (refine yA (x := .tmp 32) rfl ?_; refine zU rfl (by kernel_rfl) rfl (z5 (t := rwT) (z := x) rfl rfl rfl rfl (Int.natCast_nonneg q) hx) rfl ?_) | (refine zv 58 ?_; refine zb rfl (zQ rfl (wt x) (.cons (.same rfl) .nil) rfl) rfl ?_) | (refine zw 58 rfl ?_; refine zU rfl (by kernel_rfl) rfl (zQ rfl (wt x) (.cons (.same rfl) .nil) rfl) rfl ?_) | refine zD ?_ | refine zB _ rfl (by kernel_rfl) ?_ | refine zX rfl ?_ | refine zY rfl ?_ | refine zC ?_ | with_reducible refine zN ?_ | refine zH ?_ | refine zI ?_ | (with_reducible first | refine zL ?_ | refine zM ?_ | refine zE ?_ | refine zG ?_ | refine zF ?_) | refine zO ?_
        refine zk rfl (fun h => absurd (of_decide_eq_true h) (by omega)) (fun h => ?_)
        repeat' first | refine zK ?_ | refine zA ?_ | refine zP [] ?_ | (refine isA ?_; refine zg rfl ?_) | (refine isL ?_; refine zW rfl (by kernel_rfl) rfl rfl ?_) | (refine zd rfl ?_; refine zV rfl (by kernel_rfl) rfl rfl ?_) | (refine yB (x := .tmp 19) ?_; refine zb rfl (z5 (t := rnT) (z := z) rfl rfl rfl rfl (Int.natCast_nonneg k) hz) rfl ?_) | (refine yA (x := .tmp 19) rfl ?_; refine zU rfl (by kernel_rfl) rfl (z5 (t := rnT) (z := z) rfl rfl rfl rfl (Int.natCast_nonneg k) hz) rfl ?_) | (refine yB (x := .tmp 28) ?_; refine zb rfl (z5 (t := rnT) (z := z) rfl rfl rfl rfl (Int.natCast_nonneg k) hz) rfl ?_) | (refine yA (x := .tmp 28) rfl ?_; refine zU rfl (by kernel_rfl) rfl (z5 (t := rnT) (z := z) rfl rfl rfl rfl (Int.natCast_nonneg k) hz) rfl ?_) | (refine yB (x := .tmp 32) ?_; refine zb rfl (z5 (t := rwT) (z := x) rfl rfl rfl rfl (Int.natCast_nonneg q) hx) rfl ?_) | (refine yA (x := .tmp 32) rfl ?_; refine zU rfl (by kernel_rfl) rfl (z5 (t := rwT) (z := x) rfl rfl rfl rfl (Int.natCast_nonneg q) hx) rfl ?_) | (refine zv 58 ?_; refine zb rfl (zQ rfl (wt x) (.cons (.same rfl) .nil) rfl) rfl ?_) | (refine zw 58 rfl ?_; refine zU rfl (by kernel_rfl) rfl (zQ rfl (wt x) (.cons (.same rfl) .nil) rfl) rfl ?_) | exact yK rfl rfl (by rw [e]) | refine zD ?_ | refine zB _ rfl (by kernel_rfl) ?_ | refine zX rfl ?_ | refine zY rfl ?_ | refine zC ?_ | with_reducible refine zN ?_ | refine zH ?_ | refine zI ?_ | (with_reducible first | refine zL ?_ | refine zM ?_ | refine zE ?_ | refine zG ?_ | refine zF ?_) | refine zO ?_
      · have e := dQ hz h3
        refine zx [6] Go.Proofs.Try.func89 rfl rfl ?_
        simp only [Go.Proofs.Try.ntmps89, List.length_cons, List.length_nil, Nat.reduceAdd, Nat.reduceSub, List.replicate_succ, List.replicate_zero, List.cons_append, List.nil_append]
        repeat' first | refine zK ?_ | refine zA ?_ | refine zP [] ?_ | (refine isA ?_; refine zg rfl ?_) | (refine isL ?_; refine zW rfl (by kernel_rfl) rfl rfl ?_) | (refine zd rfl ?_; refine zV rfl (by kernel_rfl) rfl rfl ?_) | refine zD ?_ | refine zB _ rfl (by kernel_rfl) ?_ | refine zX rfl ?_ | refine zY rfl ?_ | refine zC ?_ | with_reducible refine zN ?_ | refine zH ?_ | refine zI ?_ | (with_reducible first | refine zL ?_ | refine zM ?_ | refine zE ?_ | refine zG ?_ | refine zF ?_) | refine zO ?_
        refine yX rfl rfl (fun h => absurd (of_decide_eq_true h) (by omega)) (fun h => ?_)
        repeat' first | refine zK ?_ | refine zA ?_ | refine zP [] ?_ | (refine isA ?_; refine zg rfl ?_) | (refine isL ?_; refine zW rfl (by kernel_rfl) rfl rfl ?_) | (refine zd rfl ?_; refine zV rfl (by kernel_rfl) rfl rfl ?_) | refine zD ?_ | refine zB _ rfl (by kernel_rfl) ?_ | refine zX rfl ?_ | refine zY rfl ?_ | refine zC ?_ | with_reducible refine zN ?_ | refine zH ?_ | refine zI ?_ | (with_reducible first | refine zL ?_ | refine zM ?_ | refine zE ?_ | refine zG ?_ | refine zF ?_) | refine zO ?_
        refine yX rfl rfl (fun h => absurd (of_decide_eq_true h) (by omega)) (fun h => ?_)
        repeat' first | refine zK ?_ | refine zA ?_ | refine zP [] ?_ | (refine isA ?_; refine zg rfl ?_) | (refine isL ?_; refine zW rfl (by kernel_rfl) rfl rfl ?_) | (refine zd rfl ?_; refine zV rfl (by kernel_rfl) rfl rfl ?_) | (refine yB (x := .tmp 19) ?_; refine zb rfl (z5 (t := rnT) (z := z) rfl rfl rfl rfl (Int.natCast_nonneg k) hz) rfl ?_) | (refine yA (x := .tmp 19) rfl ?_; refine zU rfl (by kernel_rfl) rfl (z5 (t := rnT) (z := z) rfl rfl rfl rfl (Int.natCast_nonneg k) hz) rfl ?_) | refine zD ?_ | refine zB _ rfl (by kernel_rfl) ?_ | refine zX rfl ?_ | refine zY rfl ?_ | refine zC ?_ | with_reducible refine zN ?_ | refine zH ?_ | refine zI ?_ | (with_reducible first | refine zL ?_ | refine zM ?_ | refine zE ?_ | refine zG ?_ | refine zF ?_) | refine zO ?_
        refine zk rfl (fun h => ?_) (fun h => absurd (of_decide_eq_false h) (by omega))
        repeat' first | refine zK ?_ | refine zA ?_ | refine zP [] ?_ | (refine isA ?_; refine zg rfl ?_) | (refine isL ?_; refine zW rfl (by kernel_rfl) rfl rfl ?_) | (refine zd rfl ?_; refine zV rfl (by kernel_rfl) rfl rfl ?_) | exact yK rfl rfl (by rw [e]) | refine zD ?_ | refine zB _ rfl (by kernel_rfl) ?_ | refine zX rfl ?_ | refine zY rfl ?_ | refine zC ?_ | with_reducible refine zN ?_ | refine zH ?_ | refine zI ?_ | (with_reducible first | refine zL ?_ | refine zM ?_ | refine zE ?_ | refine zG ?_ | refine zF ?_) | refine zO ?_
  · have e := dP (p := p) h1
    refine zx [6] Go.Proofs.Try.func89 rfl rfl ?_
    simp only [Go.Proofs.Try.ntmps89, List.length_cons, List.length_nil, Nat.reduceAdd, Nat.reduceSub, List.replicate_succ, List.replicate_zero, List.cons_append, List.nil_append]
    repeat' first | refine zK ?_ | refine zA ?_ | refine zP [] ?_ | (refine isA ?_; refine zg rfl ?_) | (refine isL ?_; refine zW rfl (by kernel_rfl) rfl rfl ?_) | (refine zd rfl ?_; refine zV rfl (by kernel_rfl) rfl rfl ?_) | refine zD ?_ | refine zB _ rfl (by kernel_rfl) ?_ | refine zX rfl ?_ | refine zY rfl ?_ | refine zC ?_ | with_reducible refine zN ?_ | refine zH ?_ | refine zI ?_ | (with_reducible first | refine zL ?_ | refine zM ?_ | refine zE ?_ | refine zG ?_ | refine zF ?_) | refine zO ?_
    refine yX rfl rfl (fun h => ?_) (fun h => absurd (of_decide_eq_false h) (by omega))
    repeat' first | refine zK ?_ | refine zA ?_ | refine zP [] ?_ | (refine isA ?_; refine zg rfl ?_) | (refine isL ?_; refine zW rfl (by kernel_rfl) rfl rfl ?_) | (refine zd rfl ?_; refine zV rfl (by kernel_rfl) rfl rfl ?_) | exact yK rfl rfl (by rw [e]) | refine zD ?_ | refine zB _ rfl (by kernel_rfl) ?_ | refine zX rfl ?_ | refine zY rfl ?_ | refine zC ?_ | with_reducible refine zN ?_ | refine zH ?_ | refine zI ?_ | (with_reducible first | refine zL ?_ | refine zM ?_ | refine zE ?_ | refine zG ?_ | refine zF ?_) | refine zO ?_
def wU (rs : List Rn) (k p : Nat) : List Rw := ((rs.getD k [])[p]?).toList
theorem qq (rs : List Rn) (k p : Nat) : (wU rs k p).length ≤ 1 := by
  unfold wU; cases (rs.getD k [])[p]? <;> simp
theorem ne (rs : List Rn) (k p : Nat) : rcV rs k p = xF (wU rs k p) := by
  unfold rcV wU
  rw [decide_eq_false (by omega), cond_false, Int.toNat_natCast]
theorem wQ (rs : List Rn) (k p : Nat) (hok : tP rs) (hk : k ≤ 1) : zz Go.Proofs.Try.prog 71 [rnL rs, I k, I p] [] (rwL (wU rs k p)) [] true := by
  have hl := hok.1
  rcases Nat.lt_or_ge k rs.length with h1 | h1
  · obtain ⟨z, hz⟩ : ∃ z, rs[k]? = some z := ⟨_, List.getElem?_eq_getElem h1⟩
    have zl := hok.at hz
    rcases Nat.lt_or_ge p z.length with h3 | h3
    · obtain ⟨x, hx⟩ : ∃ y, z[p]? = some y := ⟨_, List.getElem?_eq_getElem h3⟩
      have e : wU rs k p = [x] := by unfold wU; rw [List.getD_eq_getElem?_getD, hz, Option.getD_some, hx]; rfl
      rw [e]
      refine zx [6] Go.Proofs.Try.func71 rfl rfl ?_
      simp only [Go.Proofs.Try.ntmps71, List.length_cons, List.length_nil, Nat.reduceAdd, Nat.reduceSub, List.replicate_succ, List.replicate_zero, List.cons_append, List.nil_append]
      repeat' first | refine zK ?_ | refine zA ?_ | refine zP [] ?_ | (refine isA ?_; refine zg rfl ?_) | (refine isL ?_; refine zW rfl (by kernel_rfl) rfl rfl ?_) | (refine zd rfl ?_; refine zV rfl (by kernel_rfl) rfl rfl ?_) | refine zD ?_ | refine zB _ rfl (by kernel_rfl) ?_ | refine zX rfl ?_ | refine zY rfl ?_ | refine zC ?_ | with_reducible refine zN ?_ | refine zH ?_ | refine zI ?_ | (with_reducible first | refine zL ?_ | refine zM ?_ | refine zE ?_ | refine zG ?_ | refine zF ?_) | refine zO ?_
      refine yX rfl rfl (fun h => ?_) (fun h => absurd (of_decide_eq_false h) (by omega))
      repeat' first | refine zK ?_ | refine zA ?_ | refine zP [] ?_ | (refine isA ?_; refine zg rfl ?_) | (refine isL ?_; refine zW rfl (by kernel_rfl) rfl rfl ?_) | (refine zd rfl ?_; refine zV rfl (by kernel_rfl) rfl rfl ?_) | (refine yB (x := .tmp 13) ?_; refine zb rfl (z5 (t := rnT) (z := z) rfl rfl rfl rfl (Int.natCast_nonneg k) hz) rfl ?_) | (refine yA (x := .tmp 13) rfl ?_; refine zU rfl (by kernel_rfl) rfl (z5 (t := rnT) (z := z) rfl rfl rfl rfl (Int.natCast_nonneg k) hz) rfl ?_) | refine zD ?_ | refine zB _ rfl (by kernel_rfl) ?_ | refine zX rfl ?_ | refine zY rfl ?_ | refine zC ?_ | with_reducible refine zN ?_ | refine zH ?_ | refine zI ?_ | (with_reducible first | refine zL ?_ | refine zM ?_ | refine zE ?_ | refine zG ?_ | refine zF ?_) | refine zO ?_
      refine zk rfl (fun h => ?_) (fun h => absurd (of_decide_eq_false h) (by omega))
      repeat' first | (refine isA ?_; refine zb rfl (yO rfl rfl rfl rfl rfl) rfl ?_) | refine zK ?_ | refine zA ?_ | refine zP [] ?_ | (refine isA ?_; refine zg rfl ?_) | (refine isL ?_; refine zW rfl (by kernel_rfl) rfl rfl ?_) | (refine zd rfl ?_; refine zV rfl (by kernel_rfl) rfl rfl ?_) | (refine yB (x := .tmp 21) ?_; refine zb rfl (z5 (t := rnT) (z := z) rfl rfl rfl rfl (Int.natCast_nonneg k) hz) rfl ?_) | (refine yA (x := .tmp 21) rfl ?_; refine zU rfl (by kernel_rfl) rfl (z5 (t := rnT) (z := z) rfl rfl rfl rfl (Int.natCast_nonneg k) hz) rfl ?_) | (refine yB (x := .tmp 25) ?_; refine zb rfl (z5 (t := rwT) (z := x) rfl rfl rfl rfl (Int.natCast_nonneg p) hx) rfl ?_) | (refine yA (x := .tmp 25) rfl ?_; refine zU rfl (by kernel_rfl) rfl (z5 (t := rwT) (z := x) rfl rfl rfl rfl (Int.natCast_nonneg p) hx) rfl ?_) | exact dV rfl (.same rfl) | refine zD ?_ | refine zB _ rfl (by kernel_rfl) ?_ | refine zX rfl ?_ | refine zY rfl ?_ | refine zC ?_ | with_reducible refine zN ?_ | refine zH ?_ | refine zI ?_ | (with_reducible first | refine zL ?_ | refine zM ?_ | refine zE ?_ | refine zG ?_ | refine zF ?_) | refine zO ?_
    · have e : wU rs k p = [] := by unfold wU; rw [List.getD_eq_getElem?_getD, hz, Option.getD_some, List.getElem?_eq_none h3]; rfl
      rw [e]
      refine zx [6] Go.Proofs.Try.func71 rfl rfl ?_
      simp only [Go.Proofs.Try.ntmps71, List.length_cons, List.length_nil, Nat.reduceAdd, Nat.reduceSub, List.replicate_succ, List.replicate_zero, List.cons_append, List.nil_append]
      repeat' first | refine zK ?_ | refine zA ?_ | refine zP [] ?_ | (refine isA ?_; refine zg rfl ?_) | (refine isL ?_; refine zW rfl (by kernel_rfl) rfl rfl ?_) | (refine zd rfl ?_; refine zV rfl (by kernel_rfl) rfl rfl ?_) | refine zD ?_ | refine zB _ rfl (by kernel_rfl) ?_ | refine zX rfl ?_ | refine zY rfl ?_ | refine zC ?_ | with_reducible refine zN ?_ | refine zH ?_ | refine zI ?_ | (with_reducible first | refine zL ?_ | refine zM ?_ | refine zE ?_ | refine zG ?_ | refine zF ?_) | refine zO ?_
      refine yX rfl rfl (fun h => ?_) (fun h => absurd (of_decide_eq_false h) (by omega))
      repeat' first | refine zK ?_ | refine zA ?_ | refine zP [] ?_ | (refine isA ?_; refine zg rfl ?_) | (refine isL ?_; refine zW rfl (by kernel_rfl) rfl rfl ?_) | (refine zd rfl ?_; refine zV rfl (by kernel_rfl) rfl rfl ?_) | (refine yB (x := .tmp 13) ?_; refine zb rfl (z5 (t := rnT) (z := z) rfl rfl rfl rfl (Int.natCast_nonneg k) hz) rfl ?_) | (refine yA (x := .tmp 13) rfl ?_; refine zU rfl (by kernel_rfl) rfl (z5 (t := rnT) (z := z) rfl rfl rfl rfl (Int.natCast_nonneg k) hz) rfl ?_) | refine zD ?_ | refine zB _ rfl (by kernel_rfl) ?_ | refine zX rfl ?_ | refine zY rfl ?_ | refine zC ?_ | with_reducible refine zN ?_ | refine zH ?_ | refine zI ?_ | (with_reducible first | refine zL ?_ | refine zM ?_ | refine zE ?_ | refine zG ?_ | refine zF ?_) | refine zO ?_
      refine zk rfl (fun h => absurd (of_decide_eq_true h) (by omega)) (fun h => ?_)
      repeat' first | (refine isA ?_; refine zb rfl (yO rfl rfl rfl rfl rfl) rfl ?_) | refine zK ?_ | refine zA ?_ | refine zP [] ?_ | (refine isA ?_; refine zg rfl ?_) | (refine isL ?_; refine zW rfl (by kernel_rfl) rfl rfl ?_) | (refine zd rfl ?_; refine zV rfl (by kernel_rfl) rfl rfl ?_) | exact dV rfl (.same rfl) | refine zD ?_ | refine zB _ rfl (by kernel_rfl) ?_ | refine zX rfl ?_ | refine zY rfl ?_ | refine zC ?_ | with_reducible refine zN ?_ | refine zH ?_ | refine zI ?_ | (with_reducible first | refine zL ?_ | refine zM ?_ | refine zE ?_ | refine zG ?_ | refine zF ?_) | refine zO ?_
  · have e : wU rs k p = [] := by unfold wU; rw [List.getD_eq_getElem?_getD, List.getElem?_eq_none h1]; rfl
    rw [e]
    refine zx [6] Go.Proofs.Try.func71 rfl rfl ?_
    simp only [Go.Proofs.Try.ntmps71, List.length_cons, List.length_nil, Nat.reduceAdd, Nat.reduceSub, List.replicate_succ, List.replicate_zero, List.cons_append, List.nil_append]
    repeat' first | refine zK ?_ | refine zA ?_ | refine zP [] ?_ | (refine isA ?_; refine zg rfl ?_) | (refine isL ?_; refine zW rfl (by kernel_rfl) rfl rfl ?_) | (refine zd rfl ?_; refine zV rfl (by kernel_rfl) rfl rfl ?_) | refine zD ?_ | refine zB _ rfl (by kernel_rfl) ?_ | refine zX rfl ?_ | refine zY rfl ?_ | refine zC ?_ | with_reducible refine zN ?_ | refine zH ?_ | refine zI ?_ | (with_reducible first | refine zL ?_ | refine zM ?_ | refine zE ?_ | refine zG ?_ | refine zF ?_) | refine zO ?_
    refine yX rfl rfl (fun h => absurd (of_decide_eq_true h) (by omega)) (fun h => ?_)
    repeat' first | (refine isA ?_; refine zb rfl (yO rfl rfl rfl rfl rfl) rfl ?_) | refine zK ?_ | refine zA ?_ | refine zP [] ?_ | (refine isA ?_; refine zg rfl ?_) | (refine isL ?_; refine zW rfl (by kernel_rfl) rfl rfl ?_) | (refine zd rfl ?_; refine zV rfl (by kernel_rfl) rfl rfl ?_) | exact dV rfl (.same rfl) | refine zD ?_ | refine zB _ rfl (by kernel_rfl) ?_ | refine zX rfl ?_ | refine zY rfl ?_ | refine zC ?_ | with_reducible refine zN ?_ | refine zH ?_ | refine zI ?_ | (with_reducible first | refine zL ?_ | refine zM ?_ | refine zE ?_ | refine zG ?_ | refine zF ?_) | refine zO ?_
theorem eq {s : So} (h : s.ph = 2) : yj s = cond (decide (s.lp < 0) || decide (s.rp < 0)) 0 (rcV s.runs 0 s.lp + rcV s.runs 1 s.rp) := by
  unfold yj; rw [decide_eq_false (by rw [h]; decide), cond_false, decide_eq_true h, cond_true]
theorem eo {s : So} (h : s.ph = 3) : yj s = rcV s.runs 0 s.lp := by
  unfold yj; rw [decide_eq_false (by rw [h]; decide), cond_false, decide_eq_false (by rw [h]; decide), cond_false, decide_eq_true h, cond_true]
theorem er {s : So} (h1 : s.ph ≠ 1) (h2 : s.ph ≠ 2) (h3 : s.ph ≠ 3) : yj s = 0 := by
  unfold yj; rw [decide_eq_false h1, cond_false, decide_eq_false h2, cond_false, decide_eq_false h3, cond_false]
theorem uo {a b : Int} (h : 0 ≤ a ∧ a ≤ 4000000000) (k : 0 ≤ b ∧ b ≤ 4000000000) : IntKind.i64.wrap (a + b) = a + b := by rw [IntKind.wrap_i64]; omega
theorem tb (s : So) (hok : okSo s) : zz Go.Proofs.Try.prog 19 [.agg (soE s)] [] (I (yj s)) [] false := by
  have g2 := hok.heap
  have g3 := hok.dfr
  have t2 := uX s.heap
  have t3 := uX s.dfr
  have r0 := lR s.runs 0 s.lp
  have r1 := lR s.runs 1 s.rp
  have c0 := qW s 0 s.lp hok.rn (by omega)
  have c1 := qW s 1 s.rp hok.rn (by omega)
  refine zx [2] Go.Proofs.Try.func19 rfl rfl ?_
  simp only [Go.Proofs.Try.ntmps19, List.length_cons, List.length_nil, Nat.reduceAdd, Nat.reduceSub, List.replicate_succ, List.replicate_zero, List.cons_append, List.nil_append]
  repeat' first | refine zK ?_ | refine zA ?_ | refine zP [] ?_ | (refine isA ?_; refine zg rfl ?_) | (refine isL ?_; refine zW rfl (by kernel_rfl) rfl rfl ?_) | (refine zd rfl ?_; refine zV rfl (by kernel_rfl) rfl rfl ?_) | refine zD ?_ | refine zB _ rfl (by kernel_rfl) ?_ | refine zX rfl ?_ | refine zY rfl ?_ | refine zC ?_ | with_reducible refine zN ?_ | refine zH ?_ | refine zI ?_ | (with_reducible first | refine zL ?_ | refine zM ?_ | refine zE ?_ | refine zG ?_ | refine zF ?_) | refine zO ?_
  refine zk rfl (fun h => ?_) (fun h => ?_)
  · have e := vE (of_decide_eq_true h)
    repeat' first | refine zK ?_ | refine zA ?_ | refine zP [] ?_ | (refine isA ?_; refine zg rfl ?_) | (refine isL ?_; refine zW rfl (by kernel_rfl) rfl rfl ?_) | (refine zd rfl ?_; refine zV rfl (by kernel_rfl) rfl rfl ?_) | (refine zv 88 (x := #[.tmp 8]) ?_; refine zb rfl (zQ rfl (pF s.heap (by omega)) (.cons (.same rfl) .nil) rfl) rfl ?_) | (refine zw 88 (x := #[.tmp 8]) rfl ?_; refine zU rfl (by kernel_rfl) rfl (zQ rfl (pF s.heap (by omega)) (.cons (.same rfl) .nil) rfl) rfl ?_) | (refine zv 88 (x := #[.tmp 11]) ?_; refine zb rfl (zQ rfl (pF s.dfr (by omega)) (.cons (.same rfl) .nil) rfl) rfl ?_) | (refine zw 88 (x := #[.tmp 11]) rfl ?_; refine zU rfl (by kernel_rfl) rfl (zQ rfl (pF s.dfr (by omega)) (.cons (.same rfl) .nil) rfl) rfl ?_) | exact yK rfl rfl (by rw [e, uo (by omega) (by omega)]) | refine zD ?_ | refine zB _ rfl (by kernel_rfl) ?_ | refine zX rfl ?_ | refine zY rfl ?_ | refine zC ?_ | with_reducible refine zN ?_ | refine zH ?_ | refine zI ?_ | (with_reducible first | refine zL ?_ | refine zM ?_ | refine zE ?_ | refine zG ?_ | refine zF ?_) | refine zO ?_
  have h1 := of_decide_eq_false h
  repeat' first | refine zK ?_ | refine zA ?_ | refine zP [] ?_ | (refine isA ?_; refine zg rfl ?_) | (refine isL ?_; refine zW rfl (by kernel_rfl) rfl rfl ?_) | (refine zd rfl ?_; refine zV rfl (by kernel_rfl) rfl rfl ?_) | refine zD ?_ | refine zB _ rfl (by kernel_rfl) ?_ | refine zX rfl ?_ | refine zY rfl ?_ | refine zC ?_ | with_reducible refine zN ?_ | refine zH ?_ | refine zI ?_ | (with_reducible first | refine zL ?_ | refine zM ?_ | refine zE ?_ | refine zG ?_ | refine zF ?_) | refine zO ?_
  refine zk rfl (fun h => ?_) (fun h => ?_)
  · have e := eq (of_decide_eq_true h)
    repeat' first | refine zK ?_ | refine zA ?_ | refine zP [] ?_ | (refine isA ?_; refine zg rfl ?_) | (refine isL ?_; refine zW rfl (by kernel_rfl) rfl rfl ?_) | (refine zd rfl ?_; refine zV rfl (by kernel_rfl) rfl rfl ?_) | (refine zv 89 ?_; refine zb rfl (zQ rfl c0 (.cons (.same rfl) (.cons (.same rfl) (.cons (.same rfl) .nil))) rfl) rfl ?_) | (refine zw 89 rfl ?_; refine zU rfl (by kernel_rfl) rfl (zQ rfl c0 (.cons (.same rfl) (.cons (.same rfl) (.cons (.same rfl) .nil))) rfl) rfl ?_) | (refine zv 89 ?_; refine zb rfl (zQ rfl c1 (.cons (.same rfl) (.cons (.same rfl) (.cons (.same rfl) .nil))) rfl) rfl ?_) | (refine zw 89 rfl ?_; refine zU rfl (by kernel_rfl) rfl (zQ rfl c1 (.cons (.same rfl) (.cons (.same rfl) (.cons (.same rfl) .nil))) rfl) rfl ?_) | refine zD ?_ | refine zB _ rfl (by kernel_rfl) ?_ | refine zX rfl ?_ | refine zY rfl ?_ | refine zC ?_ | with_reducible refine zN ?_ | refine zH ?_ | refine zI ?_ | (with_reducible first | refine zL ?_ | refine zM ?_ | refine zE ?_ | refine zG ?_ | refine zF ?_) | refine zO ?_ | refine zk rfl (fun hbr => ?_) (fun hbr => ?_) | (refine wW ?_; refine yX rfl rfl (fun hbr => ?_) (fun hbr => ?_) <;> (fail_if_success (with_reducible (have hx : true = true := hbr))) <;> (fail_if_success (with_reducible (have hx : false = false := hbr)))) | (refine zd rfl ?_; refine yJ rfl rfl rfl rfl (fun hbr => ?_) (fun hbr => ?_) <;> (fail_if_success (with_reducible (have hx : true = true := hbr))) <;> (fail_if_success (with_reducible (have hx : false = false := hbr))))
    all_goals exact yK rfl rfl (by simp_all; try exact uo (by omega) (by omega))
  have h2 := of_decide_eq_false h
  repeat' first | refine zK ?_ | refine zA ?_ | refine zP [] ?_ | (refine isA ?_; refine zg rfl ?_) | (refine isL ?_; refine zW rfl (by kernel_rfl) rfl rfl ?_) | (refine zd rfl ?_; refine zV rfl (by kernel_rfl) rfl rfl ?_) | refine zD ?_ | refine zB _ rfl (by kernel_rfl) ?_ | refine zX rfl ?_ | refine zY rfl ?_ | refine zC ?_ | with_reducible refine zN ?_ | refine zH ?_ | refine zI ?_ | (with_reducible first | refine zL ?_ | refine zM ?_ | refine zE ?_ | refine zG ?_ | refine zF ?_) | refine zO ?_
  refine zk rfl (fun h => ?_) (fun h => ?_)
  · have e := eo (of_decide_eq_true h)
    repeat' first | refine zK ?_ | refine zA ?_ | refine zP [] ?_ | (refine isA ?_; refine zg rfl ?_) | (refine isL ?_; refine zW rfl (by kernel_rfl) rfl rfl ?_) | (refine zd rfl ?_; refine zV rfl (by kernel_rfl) rfl rfl ?_) | (refine zv 89 ?_; refine zb rfl (zQ rfl c0 (.cons (.same rfl) (.cons (.same rfl) (.cons (.same rfl) .nil))) rfl) rfl ?_) | (refine zw 89 rfl ?_; refine zU rfl (by kernel_rfl) rfl (zQ rfl c0 (.cons (.same rfl) (.cons (.same rfl) (.cons (.same rfl) .nil))) rfl) rfl ?_) | exact yK rfl rfl (by rw [e]) | refine zD ?_ | refine zB _ rfl (by kernel_rfl) ?_ | refine zX rfl ?_ | refine zY rfl ?_ | refine zC ?_ | with_reducible refine zN ?_ | refine zH ?_ | refine zI ?_ | (with_reducible first | refine zL ?_ | refine zM ?_ | refine zE ?_ | refine zG ?_ | refine zF ?_) | refine zO ?_
  · have e := er h1 h2 (of_decide_eq_false h)
    repeat' first | refine zK ?_ | refine zA ?_ | refine zP [] ?_ | (refine isA ?_; refine zg rfl ?_) | (refine isL ?_; refine zW rfl (by kernel_rfl) rfl rfl ?_) | (refine zd rfl ?_; refine zV rfl (by kernel_rfl) rfl rfl ?_) | exact yK rfl rfl (by rw [e]) | refine zD ?_ | refine zB _ rfl (by kernel_rfl) ?_ | refine zX rfl ?_ | refine zY rfl ?_ | refine zC ?_ | with_reducible refine zN ?_ | refine zH ?_ | refine zI ?_ | (with_reducible first | refine zL ?_ | refine zM ?_ | refine zE ?_ | refine zG ?_ | refine zF ?_) | refine zO ?_
theorem pD (s : So) (hok : okSo s) : zz Go.Proofs.Try.prog 20 [.agg (soE s)] [] (I (yj s)) [] false := by
  have g2 := hok.heap
  have g3 := hok.dfr
  have t2 := uX s.heap
  have t3 := uX s.dfr
  have r0 := lR s.runs 0 s.lp
  have r1 := lR s.runs 1 s.rp
  refine zx [2] Go.Proofs.Try.func20 rfl rfl ?_
  simp only [Go.Proofs.Try.ntmps20, List.length_cons, List.length_nil, Nat.reduceAdd, Nat.reduceSub, List.replicate_succ, List.replicate_zero, List.cons_append, List.nil_append]
  repeat' first | refine zK ?_ | refine zA ?_ | refine zP [] ?_ | (refine isA ?_; refine zg rfl ?_) | (refine isL ?_; refine zW rfl (by kernel_rfl) rfl rfl ?_) | (refine zd rfl ?_; refine zV rfl (by kernel_rfl) rfl rfl ?_) | refine zD ?_ | refine zB _ rfl (by kernel_rfl) ?_ | refine zX rfl ?_ | refine zY rfl ?_ | refine zC ?_ | with_reducible refine zN ?_ | refine zH ?_ | refine zI ?_ | (with_reducible first | refine zL ?_ | refine zM ?_ | refine zE ?_ | refine zG ?_ | refine zF ?_) | refine zO ?_
  refine zk rfl (fun h => ?_) (fun h => ?_)
  · have e := vE (of_decide_eq_true h)
    repeat' first | refine zK ?_ | refine zA ?_ | refine zP [] ?_ | (refine isA ?_; refine zg rfl ?_) | (refine isL ?_; refine zW rfl (by kernel_rfl) rfl rfl ?_) | (refine zd rfl ?_; refine zV rfl (by kernel_rfl) rfl rfl ?_) | (refine zv 90 (x := #[.tmp 8]) ?_; refine zb rfl (zQ rfl (vU s.heap (by omega)) (.cons (.same rfl) .nil) rfl) rfl ?_) | (refine zw 90 (x := #[.tmp 8]) rfl ?_; refine zU rfl (by kernel_rfl) rfl (zQ rfl (vU s.heap (by omega)) (.cons (.same rfl) .nil) rfl) rfl ?_) | (refine zv 90 (x := #[.tmp 11]) ?_; refine zb rfl (zQ rfl (vU s.dfr (by omega)) (.cons (.same rfl) .nil) rfl) rfl ?_) | (refine zw 90 (x := #[.tmp 11]) rfl ?_; refine zU rfl (by kernel_rfl) rfl (zQ rfl (vU s.dfr (by omega)) (.cons (.same rfl) .nil) rfl) rfl ?_) | exact yK rfl rfl (by rw [e, uo (by omega) (by omega)]) | refine zD ?_ | refine zB _ rfl (by kernel_rfl) ?_ | refine zX rfl ?_ | refine zY rfl ?_ | refine zC ?_ | with_reducible refine zN ?_ | refine zH ?_ | refine zI ?_ | (with_reducible first | refine zL ?_ | refine zM ?_ | refine zE ?_ | refine zG ?_ | refine zF ?_) | refine zO ?_
  have h1 := of_decide_eq_false h
  repeat' first | refine zK ?_ | refine zA ?_ | refine zP [] ?_ | (refine isA ?_; refine zg rfl ?_) | (refine isL ?_; refine zW rfl (by kernel_rfl) rfl rfl ?_) | (refine zd rfl ?_; refine zV rfl (by kernel_rfl) rfl rfl ?_) | refine zD ?_ | refine zB _ rfl (by kernel_rfl) ?_ | refine zX rfl ?_ | refine zY rfl ?_ | refine zC ?_ | with_reducible refine zN ?_ | refine zH ?_ | refine zI ?_ | (with_reducible first | refine zL ?_ | refine zM ?_ | refine zE ?_ | refine zG ?_ | refine zF ?_) | refine zO ?_
  refine zk rfl (fun h => ?_) (fun h => ?_)
  · have e := eq (of_decide_eq_true h)
    repeat' first | refine zK ?_ | refine zA ?_ | refine zP [] ?_ | (refine isA ?_; refine zg rfl ?_) | (refine isL ?_; refine zW rfl (by kernel_rfl) rfl rfl ?_) | (refine zd rfl ?_; refine zV rfl (by kernel_rfl) rfl rfl ?_) | refine zD ?_ | refine zB _ rfl (by kernel_rfl) ?_ | refine zX rfl ?_ | refine zY rfl ?_ | refine zC ?_ | with_reducible refine zN ?_ | refine zH ?_ | refine zI ?_ | (with_reducible first | refine zL ?_ | refine zM ?_ | refine zE ?_ | refine zG ?_ | refine zF ?_) | refine zO ?_
    refine yX rfl rfl (fun p => ?_) (fun p => ?_)
    · repeat' first | refine zK ?_ | refine zA ?_ | refine zP [] ?_ | (refine isA ?_; refine zg rfl ?_) | (refine isL ?_; refine zW rfl (by kernel_rfl) rfl rfl ?_) | (refine zd rfl ?_; refine zV rfl (by kernel_rfl) rfl rfl ?_) | exact yK rfl rfl (by rw [e, p]; rfl) | refine zD ?_ | refine zB _ rfl (by kernel_rfl) ?_ | refine zX rfl ?_ | refine zY rfl ?_ | refine zC ?_ | with_reducible refine zN ?_ | refine zH ?_ | refine zI ?_ | (with_reducible first | refine zL ?_ | refine zM ?_ | refine zE ?_ | refine zG ?_ | refine zF ?_) | refine zO ?_
    · repeat' first | refine zK ?_ | refine zA ?_ | refine zP [] ?_ | (refine isA ?_; refine zg rfl ?_) | (refine isL ?_; refine zW rfl (by kernel_rfl) rfl rfl ?_) | (refine zd rfl ?_; refine zV rfl (by kernel_rfl) rfl rfl ?_) | refine zD ?_ | refine zB _ rfl (by kernel_rfl) ?_ | refine zX rfl ?_ | refine zY rfl ?_ | refine zC ?_ | with_reducible refine zN ?_ | refine zH ?_ | refine zI ?_ | (with_reducible first | refine zL ?_ | refine zM ?_ | refine zE ?_ | refine zG ?_ | refine zF ?_) | refine zO ?_
      refine zk rfl (fun q => ?_) (fun q => ?_)
      · repeat' first | refine zK ?_ | refine zA ?_ | refine zP [] ?_ | (refine isA ?_; refine zg rfl ?_) | (refine isL ?_; refine zW rfl (by kernel_rfl) rfl rfl ?_) | (refine zd rfl ?_; refine zV rfl (by kernel_rfl) rfl rfl ?_) | exact yK rfl rfl (by rw [e, p, q]; rfl) | refine zD ?_ | refine zB _ rfl (by kernel_rfl) ?_ | refine zX rfl ?_ | refine zY rfl ?_ | refine zC ?_ | with_reducible refine zN ?_ | refine zH ?_ | refine zI ?_ | (with_reducible first | refine zL ?_ | refine zM ?_ | refine zE ?_ | refine zG ?_ | refine zF ?_) | refine zO ?_
      · obtain ⟨i, hi⟩ := Int.eq_ofNat_of_zero_le (show 0 ≤ s.lp from Int.not_lt.1 (of_decide_eq_false p))
        obtain ⟨j, hj⟩ := Int.eq_ofNat_of_zero_le (show 0 ≤ s.rp from Int.not_lt.1 (of_decide_eq_false q))
        have e' : yj s = xF (wU s.runs 0 i) + xF (wU s.runs 1 j) := by rw [e, p, q, hi, hj]; rw [← ne, ← ne]; try rfl
        have c0 := wQ s.runs 0 i hok.rn (by omega)
        have c1 := wQ s.runs 1 j hok.rn (by omega)
        rw [← hi] at c0
        rw [← hj] at c1
        have b0 := qq s.runs 0 i
        have b1 := qq s.runs 1 j
        have u0 := uX (wU s.runs 0 i)
        have u1 := uX (wU s.runs 1 j)
        generalize wU s.runs 0 i = x0 at *
        generalize wU s.runs 1 j = x1 at *
        repeat' first | refine zK ?_ | refine zA ?_ | refine zP [] ?_ | (refine isA ?_; refine zg rfl ?_) | (refine isL ?_; refine zW rfl (by kernel_rfl) rfl rfl ?_) | (refine zd rfl ?_; refine zV rfl (by kernel_rfl) rfl rfl ?_) | (refine zv 71 ?_; refine zb rfl (zQ rfl c0 (.cons (.same rfl) (.cons (.same rfl) (.cons (.same rfl) .nil))) rfl) rfl ?_) | (refine zw 71 rfl ?_; refine zU rfl (by kernel_rfl) rfl (zQ rfl c0 (.cons (.same rfl) (.cons (.same rfl) (.cons (.same rfl) .nil))) rfl) rfl ?_) | (refine zv 71 ?_; refine zb rfl (zQ rfl c1 (.cons (.same rfl) (.cons (.same rfl) (.cons (.same rfl) .nil))) rfl) rfl ?_) | (refine zw 71 rfl ?_; refine zU rfl (by kernel_rfl) rfl (zQ rfl c1 (.cons (.same rfl) (.cons (.same rfl) (.cons (.same rfl) .nil))) rfl) rfl ?_) | (refine zv 90 (x := #[.tmp 28]) ?_; refine zb rfl (zQ rfl (vU x0 (by omega)) (.cons (.same rfl) .nil) rfl) rfl ?_) | (refine zw 90 (x := #[.tmp 28]) rfl ?_; refine zU rfl (by kernel_rfl) rfl (zQ rfl (vU x0 (by omega)) (.cons (.same rfl) .nil) rfl) rfl ?_) | (refine zv 90 (x := #[.tmp 34]) ?_; refine zb rfl (zQ rfl (vU x1 (by omega)) (.cons (.same rfl) .nil) rfl) rfl ?_) | (refine zw 90 (x := #[.tmp 34]) rfl ?_; refine zU rfl (by kernel_rfl) rfl (zQ rfl (vU x1 (by omega)) (.cons (.same rfl) .nil) rfl) rfl ?_) | exact yK rfl rfl (by rw [e', uo (by omega) (by omega)]) | refine zD ?_ | refine zB _ rfl (by kernel_rfl) ?_ | refine zX rfl ?_ | refine zY rfl ?_ | refine zC ?_ | with_reducible refine zN ?_ | refine zH ?_ | refine zI ?_ | (with_reducible first | refine zL ?_ | refine zM ?_ | refine zE ?_ | refine zG ?_ | refine zF ?_) | refine zO ?_
  have h2 := of_decide_eq_false h
  repeat' first | refine zK ?_ | refine zA ?_ | refine zP [] ?_ | (refine isA ?_; refine zg rfl ?_) | (refine isL ?_; refine zW rfl (by kernel_rfl) rfl rfl ?_) | (refine zd rfl ?_; refine zV rfl (by kernel_rfl) rfl rfl ?_) | refine zD ?_ | refine zB _ rfl (by kernel_rfl) ?_ | refine zX rfl ?_ | refine zY rfl ?_ | refine zC ?_ | with_reducible refine zN ?_ | refine zH ?_ | refine zI ?_ | (with_reducible first | refine zL ?_ | refine zM ?_ | refine zE ?_ | refine zG ?_ | refine zF ?_) | refine zO ?_
  refine zk rfl (fun h => ?_) (fun h => ?_)
  · have e := eo (of_decide_eq_true h)
    repeat' first | refine zK ?_ | refine zA ?_ | refine zP [] ?_ | (refine isA ?_; refine zg rfl ?_) | (refine isL ?_; refine zW rfl (by kernel_rfl) rfl rfl ?_) | (refine zd rfl ?_; refine zV rfl (by kernel_rfl) rfl rfl ?_) | refine zD ?_ | refine zB _ rfl (by kernel_rfl) ?_ | refine zX rfl ?_ | refine zY rfl ?_ | refine zC ?_ | with_reducible refine zN ?_ | refine zH ?_ | refine zI ?_ | (with_reducible first | refine zL ?_ | refine zM ?_ | refine zE ?_ | refine zG ?_ | refine zF ?_) | refine zO ?_
    refine zk rfl (fun q => ?_) (fun q => ?_)
    · have e' := kj (rs := s.runs) (k := 0) (of_decide_eq_true q)
      repeat' first | refine zK ?_ | refine zA ?_ | refine zP [] ?_ | (refine isA ?_; refine zg rfl ?_) | (refine isL ?_; refine zW rfl (by kernel_rfl) rfl rfl ?_) | (refine zd rfl ?_; refine zV rfl (by kernel_rfl) rfl rfl ?_) | exact yK rfl rfl (by rw [e, e']) | refine zD ?_ | refine zB _ rfl (by kernel_rfl) ?_ | refine zX rfl ?_ | refine zY rfl ?_ | refine zC ?_ | with_reducible refine zN ?_ | refine zH ?_ | refine zI ?_ | (with_reducible first | refine zL ?_ | refine zM ?_ | refine zE ?_ | refine zG ?_ | refine zF ?_) | refine zO ?_
    · obtain ⟨i, hi⟩ := Int.eq_ofNat_of_zero_le (show 0 ≤ s.lp from Int.not_lt.1 (of_decide_eq_false q))
      have e' : yj s = xF (wU s.runs 0 i) := by rw [e, hi]; rw [← ne]; try rfl
      have c0 := wQ s.runs 0 i hok.rn (by omega)
      rw [← hi] at c0
      have b0 := qq s.runs 0 i
      generalize wU s.runs 0 i = x0 at *
      repeat' first | refine zK ?_ | refine zA ?_ | refine zP [] ?_ | (refine isA ?_; refine zg rfl ?_) | (refine isL ?_; refine zW rfl (by kernel_rfl) rfl rfl ?_) | (refine zd rfl ?_; refine zV rfl (by kernel_rfl) rfl rfl ?_) | (refine zv 71 ?_; refine zb rfl (zQ rfl c0 (.cons (.same rfl) (.cons (.same rfl) (.cons (.same rfl) .nil))) rfl) rfl ?_) | (refine zw 71 rfl ?_; refine zU rfl (by kernel_rfl) rfl (zQ rfl c0 (.cons (.same rfl) (.cons (.same rfl) (.cons (.same rfl) .nil))) rfl) rfl ?_) | (refine zv 90 ?_; refine zb rfl (zQ rfl (vU x0 (by omega)) (.cons (.same rfl) .nil) rfl) rfl ?_) | (refine zw 90 rfl ?_; refine zU rfl (by kernel_rfl) rfl (zQ rfl (vU x0 (by omega)) (.cons (.same rfl) .nil) rfl) rfl ?_) | exact yK rfl rfl (by rw [e']) | refine zD ?_ | refine zB _ rfl (by kernel_rfl) ?_ | refine zX rfl ?_ | refine zY rfl ?_ | refine zC ?_ | with_reducible refine zN ?_ | refine zH ?_ | refine zI ?_ | (with_reducible first | refine zL ?_ | refine zM ?_ | refine zE ?_ | refine zG ?_ | refine zF ?_) | refine zO ?_
  · have e := er h1 h2 (of_decide_eq_false h)
    repeat' first | refine zK ?_ | refine zA ?_ | refine zP [] ?_ | (refine isA ?_; refine zg rfl ?_) | (refine isL ?_; refine zW rfl (by kernel_rfl) rfl rfl ?_) | (refine zd rfl ?_; refine zV rfl (by kernel_rfl) rfl rfl ?_) | exact yK rfl rfl (by rw [e]) | refine zD ?_ | refine zB _ rfl (by kernel_rfl) ?_ | refine zX rfl ?_ | refine zY rfl ?_ | refine zC ?_ | with_reducible refine zN ?_ | refine zH ?_ | refine zI ?_ | (with_reducible first | refine zL ?_ | refine zM ?_ | refine zE ?_ | refine zG ?_ | refine zF ?_) | refine zO ?_
theorem np (rs : List Rn) (hok : tP rs) (ht : tot rs ≤ 100000000) : zz Go.Proofs.Try.prog 80 [rnL rs] [] (.sl 0 0 rs.flatten.length) [rwR rs.flatten] false := by
  have hl := hok.1
  refine zx [2] Go.Proofs.Try.func80 rfl rfl ?_
  simp only [Go.Proofs.Try.ntmps80, List.length_cons, List.length_nil, Nat.reduceAdd, Nat.reduceSub, List.replicate_succ, List.replicate_zero, List.cons_append, List.nil_append]
  repeat' first | refine zK ?_ | refine zA ?_ | refine zP [] ?_ | (refine isA ?_; refine zg rfl ?_) | (refine isL ?_; refine zW rfl (by kernel_rfl) rfl rfl ?_) | (refine zd rfl ?_; refine zV rfl (by kernel_rfl) rfl rfl ?_) | refine zD ?_ | refine zB _ rfl (by kernel_rfl) ?_ | refine zX rfl ?_ | refine zY rfl ?_ | refine zC ?_ | with_reducible refine zN ?_ | refine zH ?_ | refine zI ?_ | (with_reducible first | refine zL ?_ | refine zM ?_ | refine zE ?_ | refine zG ?_ | refine zF ?_) | refine zO ?_
  refine yE (α := { i : Nat // i ≤ rs.length }) (fun i => ⟨[.any, .any, .any, .sl 0 0 (rs.take i.1).flatten.length, .any, .any, .any, rnL rs, I rs.length, I i.1, .any, .any, .any, .any, .any, .any, .any, .any], [rwR (rs.take i.1).flatten], 0⟩) (fun i => rs.length - i.1) ⟨0, Nat.zero_le _⟩ ?_ ?_
  · exact xI rfl (by repeat' first | exact EqS.nil | refine EqS.any ?_ | refine EqS.same rfl ?_)
  · rintro ⟨i, hi⟩
    repeat' first | refine zK ?_ | refine zA ?_ | refine zP [] ?_ | (refine isA ?_; refine zg rfl ?_) | (refine isL ?_; refine zW rfl (by kernel_rfl) rfl rfl ?_) | (refine zd rfl ?_; refine zV rfl (by kernel_rfl) rfl rfl ?_) | refine zD ?_ | refine zB _ rfl (by kernel_rfl) ?_ | refine zX rfl ?_ | refine zY rfl ?_ | refine zC ?_ | with_reducible refine zN ?_ | refine zH ?_ | refine zI ?_ | (with_reducible first | refine zL ?_ | refine zM ?_ | refine zE ?_ | refine zG ?_ | refine zF ?_) | refine zO ?_
    refine zk rfl (fun h => ?_) (fun h => ?_)
    · have hlt : i < rs.length := by simpa using h
      obtain ⟨z, hz⟩ : ∃ z, rs[i]? = some z := ⟨_, List.getElem?_eq_getElem hlt⟩
      have h1 := nO rs (i + 1)
      rw [sF hz] at h1
      have h2 := vZ (rs.take i)
      repeat' first | refine zK ?_ | refine zA ?_ | refine zP [] ?_ | (refine isA ?_; refine zg rfl ?_) | (refine isL ?_; refine zW rfl (by kernel_rfl) rfl rfl ?_) | (refine zd rfl ?_; refine zV rfl (by kernel_rfl) rfl rfl ?_) | (refine yB ?_; refine zb rfl (z5 (t := rnT) (z := z) rfl rfl rfl rfl (Int.natCast_nonneg i) hz) rfl ?_) | (refine yA rfl ?_; refine zU rfl (by kernel_rfl) rfl (z5 (t := rnT) (z := z) rfl rfl rfl rfl (Int.natCast_nonneg i) hz) rfl ?_) | (refine xb ?_; refine zb rfl (yV (t := rwT) (xs := (rs.take i).flatten) (ys := z) rfl rfl rfl rfl (.lst _ _) (by omega) rfl) rfl ?_) | (refine xH rfl ?_; refine zU rfl (by kernel_rfl) rfl (yV (t := rwT) (xs := (rs.take i).flatten) (ys := z) rfl rfl rfl rfl (.lst _ _) (by omega) rfl) rfl ?_) | refine zD ?_ | refine zB _ rfl (by kernel_rfl) ?_ | refine zX rfl ?_ | refine zY rfl ?_ | refine zC ?_ | with_reducible refine zN ?_ | refine zH ?_ | refine zI ?_ | (with_reducible first | refine zL ?_ | refine zM ?_ | refine zE ?_ | refine zG ?_ | refine zF ?_) | refine zO ?_
      refine ⟨⟨i + 1, hlt⟩, by simp only; omega, ?_⟩
      exact yf [1] rfl rfl (by decide) (.cons rfl rfl rfl rfl (yk (by rw [w7 hz]) (zJ _ _)) .nil) (by
        repeat' first | exact zm | refine zZ ?_ ?_ | exact zo | exact le_refl rfl | exact zj rfl rfl | exact zj rfl (by rw [w7 hz, List.length_append]) | exact xZ (by assumption) (by omega))
    · have hge : i = rs.length := by
        have : ¬ ((i : Int) < rs.length) := by simpa using h
        omega
      subst hge
      repeat' first | refine zK ?_ | refine zA ?_ | refine zP [] ?_ | (refine isA ?_; refine zg rfl ?_) | (refine isL ?_; refine zW rfl (by kernel_rfl) rfl rfl ?_) | (refine zd rfl ?_; refine zV rfl (by kernel_rfl) rfl rfl ?_) | exact lf (ty := rwT) rfl rfl rfl rfl (by simp) (by simp) (x3 _) | refine zD ?_ | refine zB _ rfl (by kernel_rfl) ?_ | refine zX rfl ?_ | refine zY rfl ?_ | refine zC ?_ | with_reducible refine zN ?_ | refine zH ?_ | refine zI ?_ | (with_reducible first | refine zL ?_ | refine zM ?_ | refine zE ?_ | refine zG ?_ | refine zF ?_) | refine zO ?_
end Go.Proofs.Ytojcojanokhnaaa.Ab
namespace Go.Proofs.Ytojcojanokhnaaa.Ab
open Go.RowKit
theorem qc (s : So) : vq s = (avR s.input && (inV s.pos 0 s.input.length && (avS s.runs && (!decide (s.wr < 0) && (vo s.out && s.heap.all fun r => !bel r s.out))))) := by
  unfold vq
  congr 4
  rw [Bool.eq_iff_iff]
  simp
theorem nu {s : So} (h : vq s = false) : vS s = false := by unfold vS; rw [h, Bool.false_and]
theorem eP {s : So} (h : vq s = true) (k : decide (s.ph = 1) = true) : vS s = sE s := by unfold vS; rw [h, Bool.true_and, k, cond_true]
theorem eO {s : So} (h : vq s = true) (k : decide (s.ph = 1) = false) : vS s = (vW s && cond (decide (s.ph = 2)) (vN s) (cond (decide (s.ph = 3)) (uV s) (cond (decide (s.ph = 4)) (uW s) false))) := by unfold vS; rw [h, Bool.true_and, k, cond_false]
theorem mV {s : So} {i : Nat} {z : Rw} (hz : s.heap[i]? = some z) (h : bel z s.out = true) : vq s = false := by
  have e : (s.heap.all fun r => !bel r s.out) = false := by
    rw [List.all_eq_false]
    exact ⟨z, List.mem_of_getElem? hz, by simp [h]⟩
  rw [qc, e]
  simp
theorem pt {s : So} (hb : (avR s.input && (inV s.pos 0 s.input.length && (avS s.runs && (!decide (s.wr < 0) && vo s.out)))) = true) (h : ∀ j z, j < s.heap.length → s.heap[j]? = some z → bel z s.out = false) : vq s = true := by
  have e : (s.heap.all fun r => !bel r s.out) = true := List.all_eq_true.2 fun z hz => by
    obtain ⟨j, hj⟩ := List.getElem?_of_mem hz
    simp [h j z (List.getElem?_eq_some_iff.1 hj).1 hj]
  rw [qc, e]
  simp only [Bool.and_eq_true] at hb ⊢
  obtain ⟨a, b, c, d, e⟩ := hb
  exact ⟨a, b, c, d, e, trivial⟩
theorem tT {xs out : List Rw} {i : Nat} {z : Rw} (hb : ∀ j z, j < i → xs[j]? = some z → bel z out = false) (hz : xs[i]? = some z) (h : bel z out = false) : ∀ j z, j < i + 1 → xs[j]? = some z → bel z out = false := fun j y hj hy => by
  rcases Nat.lt_or_ge j i with hlt | hge
  · exact hb j y hlt hy
  · obtain rfl : j = i := by omega
    rw [hz] at hy
    cases hy
    exact h
theorem nw (s : So) : sE s = (decide (s.lp = 0) && (decide (s.rp = 0) && ((decide ((0 : Int) < (s.out.length : Int)) || decide ((s.dfr.length : Int) = 0)) && (decide (yj s ≤ 60) && eqB (s.runs.flatten ++ s.out ++ s.heap ++ s.dfr) (s.input.take s.pos.toNat))))) := by
  unfold sE
  rw [show decide (0 < s.out.length) = decide ((0 : Int) < (s.out.length : Int)) from decide_eq_decide.2 (by omega), show decide (s.dfr.length = 0) = decide ((s.dfr.length : Int) = 0) from decide_eq_decide.2 (by omega)]
theorem fF (s : So) : vW s = (decide (s.pos = s.input.length) && (decide ((s.heap.length : Int) = 0) && (decide ((s.dfr.length : Int) = 0) && eqB s.runs.flatten s.input))) := by
  unfold vW
  rw [show decide (s.heap.length = 0) = decide ((s.heap.length : Int) = 0) from decide_eq_decide.2 (by omega), show decide (s.dfr.length = 0) = decide ((s.dfr.length : Int) = 0) from decide_eq_decide.2 (by omega)]
theorem nx (s : So) : vq s = (!(!avR s.input || (!inV s.pos 0 s.input.length || (!avS s.runs || (decide (s.wr < 0) || !vo s.out)))) && s.heap.all fun r => !bel r s.out) := by
  rw [qc]
  cases avR s.input <;> cases inV s.pos 0 s.input.length <;> cases avS s.runs <;> cases decide (s.wr < 0) <;> cases vo s.out <;> rfl
theorem nv (s : So) : vW s = !(!decide (s.pos = s.input.length) || (decide ((0 : Int) < (s.heap.length : Int)) || (decide ((0 : Int) < (s.dfr.length : Int)) || !eqB s.runs.flatten s.input))) := by
  rw [fF, show decide ((s.heap.length : Int) = 0) = !decide ((0 : Int) < (s.heap.length : Int)) from by rw [← decide_not]; exact decide_eq_decide.2 (by omega), show decide ((s.dfr.length : Int) = 0) = !decide ((0 : Int) < (s.dfr.length : Int)) from by rw [← decide_not]; exact decide_eq_decide.2 (by omega)]
  cases decide (s.pos = s.input.length) <;> cases decide ((0 : Int) < (s.heap.length : Int)) <;> cases decide ((0 : Int) < (s.dfr.length : Int)) <;> cases eqB s.runs.flatten s.input <;> rfl
theorem fI (s : So) (h : s.input.length ≤ 1000000000) : uV s = (decide ((s.runs.length : Int) = 1) && (inV s.lp 0 (IntKind.i64.wrap ((s.input.length : Int) - 1)) && (decide (s.rp = 0) && decide ((s.out.length : Int) = 0)))) := by
  unfold uV
  rw [show IntKind.i64.wrap ((s.input.length : Int) - 1) = (s.input.length : Int) - 1 by rw [IntKind.wrap_i64]; omega, show decide (s.runs.length = 1) = decide ((s.runs.length : Int) = 1) from decide_eq_decide.2 (by omega), show decide (s.out.length = 0) = decide ((s.out.length : Int) = 0) from decide_eq_decide.2 (by omega)]
theorem fJ (s : So) : uW s = (decide ((s.runs.length : Int) ≤ 1) && (decide (s.lp = s.input.length) && (decide (s.rp = 0) && decide ((s.out.length : Int) = 0)))) := by
  unfold uW
  rw [show decide (s.runs.length ≤ 1) = decide ((s.runs.length : Int) ≤ 1) from decide_eq_decide.2 (by omega), show decide (s.out.length = 0) = decide ((s.out.length : Int) = 0) from decide_eq_decide.2 (by omega)]
theorem pL {s : So} (h : decide ((s.runs.length : Int) < 2) = true) : vN s = false := by
  have := of_decide_eq_true h
  unfold vN
  match hr : s.runs with
  | [] => rfl
  | [x] => rfl
  | x :: y :: rest => rw [hr] at this; simp at this; omega
theorem pN {rs : List Rn} (h : decide ((rs.length : Int) < 2) = false) : ∃ a b rest, rs = a :: b :: rest := by
  have := of_decide_eq_false h
  match rs with
  | [] => simp at this
  | [x] => simp at this
  | x :: y :: rest => exact ⟨x, y, rest, rfl⟩
theorem pM {s : So} {a b : Rn} {rest : List Rn} (hr : s.runs = a :: b :: rest) : vN s = (!(!inV s.lp 0 a.length || !inV s.rp 0 b.length) && (xN s.out (mgV (a.take s.lp.toNat) (b.take s.rp.toNat)) && xN s.out ((mgV a b).take (s.lp.toNat + s.rp.toNat)))) := by
  unfold vN
  rw [hr, Bool.eq_iff_iff]
  simp only [Bool.and_eq_true, Bool.not_eq_true', Bool.or_eq_false_iff, Bool.not_eq_false', and_assoc]
theorem tog4 (s : So) : [s.runs.flatten, s.out, s.heap, s.dfr].flatten = s.runs.flatten ++ s.out ++ s.heap ++ s.dfr := by simp
theorem nG (s : So) (hok : okSo s) : zz Go.Proofs.Try.prog 17 [.agg (soE s)] [] (B (vS s)) [] false := by
  have g1 := hok.input
  have g2 := hok.heap
  have g3 := hok.dfr
  have g4 := hok.out
  have g5 := hok.rn
  have g6 := hok.tot
  have g7 := vZ s.runs
  have a1 := gk s.input (by omega)
  have a2 := d3 s.runs g5
  have a3 := gi s.out (by omega)
  have a4 := tb s hok
  have a5 := (fz s.runs g5 (by omega)).frozen (zt rfl)
  have a6 := gj s.runs.flatten s.input (by omega) (by omega)
  refine zx [2] Go.Proofs.Try.func17 rfl rfl ?_
  simp only [Go.Proofs.Try.ntmps17, List.length_cons, List.length_nil, Nat.reduceAdd, Nat.reduceSub, List.replicate_succ, List.replicate_zero, List.cons_append, List.nil_append]
  repeat' first | refine zK ?_ | refine zA ?_ | refine zP [] ?_ | (refine isA ?_; refine zg rfl ?_) | (refine isL ?_; refine zW rfl (by kernel_rfl) rfl rfl ?_) | (refine zd rfl ?_; refine zV rfl (by kernel_rfl) rfl rfl ?_) | (refine zv 74 ?_; refine zb rfl (zQ rfl a1 (.cons (.same rfl) .nil) rfl) rfl ?_) | (refine zw 74 rfl ?_; refine zU rfl (by kernel_rfl) rfl (zQ rfl a1 (.cons (.same rfl) .nil) rfl) rfl ?_) | (refine zv 75 ?_; refine zb rfl (zQ rfl (xx _ _ _) (.cons (.same rfl) (.cons (.same rfl) (.cons (.same rfl) .nil))) rfl) rfl ?_) | (refine zw 75 rfl ?_; refine zU rfl (by kernel_rfl) rfl (zQ rfl (xx _ _ _) (.cons (.same rfl) (.cons (.same rfl) (.cons (.same rfl) .nil))) rfl) rfl ?_) | (refine zv 76 ?_; refine zb rfl (zQ rfl a2 (.cons (.same rfl) .nil) rfl) rfl ?_) | (refine zw 76 rfl ?_; refine zU rfl (by kernel_rfl) rfl (zQ rfl a2 (.cons (.same rfl) .nil) rfl) rfl ?_) | (refine zv 77 ?_; refine zb rfl (zQ rfl a3 (.cons (.same rfl) .nil) rfl) rfl ?_) | (refine zw 77 rfl ?_; refine zU rfl (by kernel_rfl) rfl (zQ rfl a3 (.cons (.same rfl) .nil) rfl) rfl ?_) | refine zD ?_ | refine zB _ rfl (by kernel_rfl) ?_ | refine zX rfl ?_ | refine zY rfl ?_ | refine zC ?_ | with_reducible refine zN ?_ | refine zH ?_ | refine zI ?_ | (with_reducible first | refine zL ?_ | refine zM ?_ | refine zE ?_ | refine zG ?_ | refine zF ?_) | refine zO ?_ | refine zk rfl (fun hbr => ?_) (fun hbr => ?_) | (refine wW ?_; refine yX rfl rfl (fun hbr => ?_) (fun hbr => ?_) <;> (fail_if_success (with_reducible (have hx : true = true := hbr))) <;> (fail_if_success (with_reducible (have hx : false = false := hbr)))) | (refine zd rfl ?_; refine yJ rfl rfl rfl rfl (fun hbr => ?_) (fun hbr => ?_) <;> (fail_if_success (with_reducible (have hx : true = true := hbr))) <;> (fail_if_success (with_reducible (have hx : false = false := hbr))))
  all_goals first
    | exact yK rfl rfl (congrArg B (nu (by rw [nx]; simp only [*, Bool.true_or, Bool.false_or, Bool.or_true, Bool.or_false, Bool.true_and, Bool.false_and, Bool.and_true, Bool.and_false, Bool.not_true, Bool.not_false, cond_true, cond_false])).symm)
    | skip
  have hq : (avR s.input && (inV s.pos 0 s.input.length && (avS s.runs && (!decide (s.wr < 0) && vo s.out)))) = true := by
    simp only [Bool.not_eq_false'] at *
    simp only [*, Bool.true_and, Bool.not_false]
  refine yE (α := { i : Nat // i ≤ s.heap.length ∧ ∀ j z, j < i → s.heap[j]? = some z → bel z s.out = false }) (fun i => ⟨(.any :: .any :: .any :: (.ptr 1 0) :: .any :: .any :: .any :: .any :: .any :: .any :: .any :: .any :: .any :: .any :: .any :: .any :: .any :: .any :: .any :: .any :: .any :: .any :: .any :: .any :: .any :: .any :: .any :: .any :: .any :: .any :: .any :: .any :: .any :: .any :: .any :: .any :: .any :: .any :: .any :: .any :: .any :: (rwL s.heap) :: (I s.heap.length) :: (I i.1) :: .any :: .any :: .any :: .any :: .any :: .any :: .any :: .any :: .any :: .any :: .any :: .any :: .any :: .any :: .any :: .any :: .any :: .any :: .any :: .any :: .any :: .any :: .any :: .any :: .any :: .any :: .any :: .any :: .any :: .any :: .any :: .any :: .any :: .any :: .any :: .any :: .any :: .any :: .any :: .any :: .any :: .any :: .any :: .any :: .any :: .any :: .any :: .any :: .any :: .any :: .any :: .any :: .any :: .any :: .any :: .any :: .any :: .any :: .any :: .any :: .any :: .any :: .any :: .any :: .any :: .any :: .any :: .any :: .any :: .any :: .any :: .any :: .any :: .any :: .any :: .any :: .any :: .any :: .any :: .any :: .any :: .any :: .any :: .any :: .any :: .any :: .any :: .any :: .any :: .any :: .any :: .any :: .any :: .any :: .any :: .any :: .any :: .any :: .any :: .any :: .any :: .any :: .any :: .any :: .any :: .any :: .any :: .any :: .any :: .any :: .any :: .any :: .any :: .any :: .any :: .any :: .any :: .any :: .any :: .any :: .any :: .any :: .any :: .any :: .any :: .any :: .any :: .any :: .any :: .any :: .any :: .any :: .any :: .any :: .any :: .any :: .any :: .any :: .any :: .any :: .any :: .any :: .any :: .any :: .any :: .any :: .any :: .any :: .any :: .any :: .any :: .any :: .any :: .any :: .any :: .any :: .any :: .any :: .any :: .any :: .any :: .any :: .any :: .any :: .any :: .any :: .any :: .any :: .any :: .any :: .any :: .any :: .any :: .any :: .any :: .any :: .any :: .any :: .any :: .any :: .any :: .any :: .any :: .any :: .any :: .any :: .any :: .any :: .any :: .any :: []), [⟨27, 10, soE s, 0⟩, ⟨27, 10, soE s, 0⟩], 0⟩) (fun i => s.heap.length - i.1) ⟨0, Nat.zero_le _, fun j z h => absurd h (Nat.not_lt_zero j)⟩ ?_ ?_
  · exact yf [0, 1] rfl rfl (by decide) (by repeat' first | exact HLes.nil | refine HLes.cons rfl rfl rfl rfl ?_ ?_ | exact zm | refine zZ ?_ ?_ | exact zo | exact le_refl rfl | exact zj rfl rfl | exact zr rfl) (by repeat' first | exact zm | refine zZ ?_ ?_ | exact zo | exact le_refl rfl | exact zj rfl rfl | exact zr rfl)
  · rintro ⟨i, hi, hb⟩
    repeat' first | refine zK ?_ | refine zA ?_ | refine zP [] ?_ | (refine isA ?_; refine zg rfl ?_) | (refine isL ?_; refine zW rfl (by kernel_rfl) rfl rfl ?_) | (refine zd rfl ?_; refine zV rfl (by kernel_rfl) rfl rfl ?_) | refine zD ?_ | refine zB _ rfl (by kernel_rfl) ?_ | refine zX rfl ?_ | refine zY rfl ?_ | refine zC ?_ | with_reducible refine zN ?_ | refine zH ?_ | refine zI ?_ | (with_reducible first | refine zL ?_ | refine zM ?_ | refine zE ?_ | refine zG ?_ | refine zF ?_) | refine zO ?_
    refine zk rfl (fun h => ?_) (fun h => ?_)
    · have hlt : i < s.heap.length := by simpa using h
      obtain ⟨z, hz⟩ : ∃ z, s.heap[i]? = some z := ⟨_, List.getElem?_eq_getElem hlt⟩
      repeat' first | refine zK ?_ | refine zA ?_ | refine zP [] ?_ | (refine isA ?_; refine zg rfl ?_) | (refine isL ?_; refine zW rfl (by kernel_rfl) rfl rfl ?_) | (refine zd rfl ?_; refine zV rfl (by kernel_rfl) rfl rfl ?_) | (refine yB ?_; refine zb rfl (z5 (t := rwT) (z := z) rfl rfl rfl rfl (Int.natCast_nonneg i) hz) rfl ?_) | (refine yA rfl ?_; refine zU rfl (by kernel_rfl) rfl (z5 (t := rwT) (z := z) rfl rfl rfl rfl (Int.natCast_nonneg i) hz) rfl ?_) | (refine zv 59 ?_; refine zb rfl (zQ rfl (pG z s.out (by omega)) (.cons (.same rfl) (.cons (.same rfl) .nil)) rfl) rfl ?_) | (refine zw 59 rfl ?_; refine zU rfl (by kernel_rfl) rfl (zQ rfl (pG z s.out (by omega)) (.cons (.same rfl) (.cons (.same rfl) .nil)) rfl) rfl ?_) | refine zD ?_ | refine zB _ rfl (by kernel_rfl) ?_ | refine zX rfl ?_ | refine zY rfl ?_ | refine zC ?_ | with_reducible refine zN ?_ | refine zH ?_ | refine zI ?_ | (with_reducible first | refine zL ?_ | refine zM ?_ | refine zE ?_ | refine zG ?_ | refine zF ?_) | refine zO ?_
      refine zk rfl (fun p => ?_) (fun p => ?_)
      · repeat' first | refine zK ?_ | refine zA ?_ | refine zP [] ?_ | (refine isA ?_; refine zg rfl ?_) | (refine isL ?_; refine zW rfl (by kernel_rfl) rfl rfl ?_) | (refine zd rfl ?_; refine zV rfl (by kernel_rfl) rfl rfl ?_) | exact yK rfl rfl (congrArg B (nu (mV hz p)).symm) | refine zD ?_ | refine zB _ rfl (by kernel_rfl) ?_ | refine zX rfl ?_ | refine zY rfl ?_ | refine zC ?_ | with_reducible refine zN ?_ | refine zH ?_ | refine zI ?_ | (with_reducible first | refine zL ?_ | refine zM ?_ | refine zE ?_ | refine zG ?_ | refine zF ?_) | refine zO ?_
      · repeat' first | refine zK ?_ | refine zA ?_ | refine zP [] ?_ | (refine isA ?_; refine zg rfl ?_) | (refine isL ?_; refine zW rfl (by kernel_rfl) rfl rfl ?_) | (refine zd rfl ?_; refine zV rfl (by kernel_rfl) rfl rfl ?_) | refine zD ?_ | refine zB _ rfl (by kernel_rfl) ?_ | refine zX rfl ?_ | refine zY rfl ?_ | refine zC ?_ | with_reducible refine zN ?_ | refine zH ?_ | refine zI ?_ | (with_reducible first | refine zL ?_ | refine zM ?_ | refine zE ?_ | refine zG ?_ | refine zF ?_) | refine zO ?_
        refine ⟨⟨i + 1, hlt, tT hb hz p⟩, by simp only; omega, ?_⟩
        exact yf [0, 1] rfl rfl (by decide) (by repeat' first | exact HLes.nil | refine HLes.cons rfl rfl rfl rfl ?_ ?_ | exact zm | refine zZ ?_ ?_ | exact zo | exact le_refl rfl | exact zj rfl rfl | exact zr rfl) (by repeat' first | exact zm | refine zZ ?_ ?_ | exact zo | exact le_refl rfl | exact zj rfl rfl | exact zr rfl | exact xZ (by assumption) (by omega))
    · have hge : i = s.heap.length := by
        have : ¬ ((i : Int) < s.heap.length) := by simpa using h
        omega
      subst hge
      have hB := pt hq hb
      have e1 := eP hB
      have e2 := eO hB
      simp only [Bool.and_eq_true, xz] at hq
      obtain ⟨hv0, ⟨hp0, hp1⟩, hv1, hv2, hv3⟩ := hq
      repeat' first | refine zK ?_ | refine zA ?_ | refine zP [] ?_ | (refine isA ?_; refine zg rfl ?_) | (refine isL ?_; refine zW rfl (by kernel_rfl) rfl rfl ?_) | (refine zd rfl ?_; refine zV rfl (by kernel_rfl) rfl rfl ?_) | (refine zv 78 ?_; refine zb rfl (zQ rfl a5 (.cons (.same rfl) .nil) rfl) rfl ?_) | (refine zw 78 rfl ?_; refine zU rfl (by kernel_rfl) rfl (zQ rfl a5 (.cons (.same rfl) .nil) rfl) rfl ?_) | refine zD ?_ | refine zB _ rfl (by kernel_rfl) ?_ | refine zX rfl ?_ | refine zY rfl ?_ | refine zC ?_ | with_reducible refine zN ?_ | refine zH ?_ | refine zI ?_ | (with_reducible first | refine zL ?_ | refine zM ?_ | refine zE ?_ | refine zG ?_ | refine zF ?_) | refine zO ?_
      refine zk rfl (fun h => ?_) (fun h => ?_)
      · have e1 := e1 h
        rw [nw] at e1
        have hp : s.pos = ((s.pos.toNat : Nat) : Int) := by omega
        have t4 := tog4 s
        have a7 := (np [s.runs.flatten, s.out, s.heap, s.dfr] ⟨by simp, fun x hx => by simp at hx; rcases hx with rfl | rfl | rfl | rfl <;> omega⟩ (by show ([s.runs.flatten, s.out, s.heap, s.dfr].map List.length).sum ≤ _; simp only [List.map_cons, List.map_nil, List.sum_cons, List.sum_nil]; omega)).frozen (zt rfl)
        rw [t4] at a7
        have a8 := gj (s.runs.flatten ++ s.out ++ s.heap ++ s.dfr) (s.input.take s.pos.toNat) (by rw [List.length_append, List.length_append, List.length_append]; omega) (by simp; omega)
        repeat' first | refine zK ?_ | refine zA ?_ | refine zP [] ?_ | (refine isA ?_; refine zg rfl ?_) | (refine isL ?_; refine zW rfl (by kernel_rfl) rfl rfl ?_) | (refine zd rfl ?_; refine zV rfl (by kernel_rfl) rfl rfl ?_) | refine zb rfl (yO rfl rfl rfl rfl rfl) rfl ?_ | refine zU rfl (by kernel_rfl) rfl (yO rfl rfl rfl rfl rfl) rfl ?_ | (refine zv 19 ?_; refine zb rfl (zQ rfl a4 (.cons (.same rfl) .nil) rfl) rfl ?_) | (refine zw 19 rfl ?_; refine zU rfl (by kernel_rfl) rfl (zQ rfl a4 (.cons (.same rfl) .nil) rfl) rfl ?_) | (refine zv 80 ?_; refine zb rfl (zQ rfl a7 (.cons (.same rfl) .nil) rfl) rfl ?_) | (refine zw 80 rfl ?_; refine zU rfl (by kernel_rfl) rfl (zQ rfl a7 (.cons (.same rfl) .nil) rfl) rfl ?_) | (refine zv 79 ?_; refine zb rfl (zQ rfl a8 (.cons (.same rfl) (.cons (.same rfl) .nil)) rfl) rfl ?_) | (refine zw 79 rfl ?_; refine zU rfl (by kernel_rfl) rfl (zQ rfl a8 (.cons (.same rfl) (.cons (.same rfl) .nil)) rfl) rfl ?_) | (refine v6 (x := .tmp 94) ?_; refine zb rfl (yh rfl rfl (congrArg I hp) (by omega)) rfl ?_) | (refine v5 (x := .tmp 94) rfl ?_; refine zU rfl (by kernel_rfl) rfl (yh rfl rfl (congrArg I hp) (by omega)) rfl ?_) | refine zD ?_ | refine zB _ rfl (by kernel_rfl) ?_ | refine zX rfl ?_ | refine zY rfl ?_ | refine zC ?_ | with_reducible refine zN ?_ | refine zH ?_ | refine zI ?_ | (with_reducible first | refine zL ?_ | refine zM ?_ | refine zE ?_ | refine zG ?_ | refine zF ?_) | refine zO ?_ | refine zk rfl (fun hbr => ?_) (fun hbr => ?_) | (refine wW ?_; refine yX rfl rfl (fun hbr => ?_) (fun hbr => ?_) <;> (fail_if_success (with_reducible (have hx : true = true := hbr))) <;> (fail_if_success (with_reducible (have hx : false = false := hbr)))) | (refine zd rfl ?_; refine yJ rfl rfl rfl rfl (fun hbr => ?_) (fun hbr => ?_) <;> (fail_if_success (with_reducible (have hx : true = true := hbr))) <;> (fail_if_success (with_reducible (have hx : false = false := hbr))))
        all_goals exact yK rfl rfl (congrArg B (by rw [e1]; clear e1 e2 hp; simp only [*, Bool.true_or, Bool.false_or, Bool.or_true, Bool.or_false, Bool.true_and, Bool.false_and, Bool.and_true, Bool.and_false, Bool.not_true, Bool.not_false, cond_true, cond_false]))
      · have e2 := e2 h
        rw [nv] at e2
        repeat' first | refine zK ?_ | refine zA ?_ | refine zP [] ?_ | (refine isA ?_; refine zg rfl ?_) | (refine isL ?_; refine zW rfl (by kernel_rfl) rfl rfl ?_) | (refine zd rfl ?_; refine zV rfl (by kernel_rfl) rfl rfl ?_) | (refine zv 79 ?_; refine zb rfl (zQ rfl a6 (.cons (.same rfl) (.cons (.same rfl) .nil)) rfl) rfl ?_) | (refine zw 79 rfl ?_; refine zU rfl (by kernel_rfl) rfl (zQ rfl a6 (.cons (.same rfl) (.cons (.same rfl) .nil)) rfl) rfl ?_) | refine zD ?_ | refine zB _ rfl (by kernel_rfl) ?_ | refine zX rfl ?_ | refine zY rfl ?_ | refine zC ?_ | with_reducible refine zN ?_ | refine zH ?_ | refine zI ?_ | (with_reducible first | refine zL ?_ | refine zM ?_ | refine zE ?_ | refine zG ?_ | refine zF ?_) | refine zO ?_ | (refine wW ?_; refine yX rfl rfl (fun hbr => ?_) (fun hbr => ?_) <;> (fail_if_success (with_reducible (have hx : true = true := hbr))) <;> (fail_if_success (with_reducible (have hx : false = false := hbr)))) | (refine zd rfl ?_; refine yJ rfl rfl rfl rfl (fun hbr => ?_) (fun hbr => ?_) <;> (fail_if_success (with_reducible (have hx : true = true := hbr))) <;> (fail_if_success (with_reducible (have hx : false = false := hbr))))
        all_goals first
          | exact yK rfl rfl (congrArg B (by rw [e2]; clear e1 e2; simp only [*, Bool.true_or, Bool.false_or, Bool.or_true, Bool.or_false, Bool.true_and, Bool.false_and, Bool.and_true, Bool.and_false, Bool.not_true, Bool.not_false, cond_true, cond_false]))
          | skip
        refine zk rfl (fun q => ?_) (fun q => ?_)
        · repeat' first | refine zK ?_ | refine zA ?_ | refine zP [] ?_ | (refine isA ?_; refine zg rfl ?_) | (refine isL ?_; refine zW rfl (by kernel_rfl) rfl rfl ?_) | (refine zd rfl ?_; refine zV rfl (by kernel_rfl) rfl rfl ?_) | exact yK rfl rfl (congrArg B (by rw [e2]; clear e1 e2; simp only [*, Bool.true_or, Bool.false_or, Bool.or_true, Bool.or_false, Bool.true_and, Bool.false_and, Bool.and_true, Bool.and_false, Bool.not_true, Bool.not_false, cond_true, cond_false])) | refine zD ?_ | refine zB _ rfl (by kernel_rfl) ?_ | refine zX rfl ?_ | refine zY rfl ?_ | refine zC ?_ | with_reducible refine zN ?_ | refine zH ?_ | refine zI ?_ | (with_reducible first | refine zL ?_ | refine zM ?_ | refine zE ?_ | refine zG ?_ | refine zF ?_) | refine zO ?_
        have e3 : vS s = cond (decide (s.ph = 2)) (vN s) (cond (decide (s.ph = 3)) (uV s) (cond (decide (s.ph = 4)) (uW s) false)) := by
          rw [e2]
          clear e1 e2
          simp only [*, Bool.true_or, Bool.false_or, Bool.or_true, Bool.or_false, Bool.true_and, Bool.false_and, Bool.and_true, Bool.and_false, Bool.not_true, Bool.not_false, cond_true, cond_false]
        clear e1 e2
        repeat' first | refine zK ?_ | refine zA ?_ | refine zP [] ?_ | (refine isA ?_; refine zg rfl ?_) | (refine isL ?_; refine zW rfl (by kernel_rfl) rfl rfl ?_) | (refine zd rfl ?_; refine zV rfl (by kernel_rfl) rfl rfl ?_) | refine zD ?_ | refine zB _ rfl (by kernel_rfl) ?_ | refine zX rfl ?_ | refine zY rfl ?_ | refine zC ?_ | with_reducible refine zN ?_ | refine zH ?_ | refine zI ?_ | (with_reducible first | refine zL ?_ | refine zM ?_ | refine zE ?_ | refine zG ?_ | refine zF ?_) | refine zO ?_
        refine zk rfl (fun h2 => ?_) (fun h2 => ?_)
        · rw [h2, cond_true] at e3
          repeat' first | refine zK ?_ | refine zA ?_ | refine zP [] ?_ | (refine isA ?_; refine zg rfl ?_) | (refine isL ?_; refine zW rfl (by kernel_rfl) rfl rfl ?_) | (refine zd rfl ?_; refine zV rfl (by kernel_rfl) rfl rfl ?_) | refine zD ?_ | refine zB _ rfl (by kernel_rfl) ?_ | refine zX rfl ?_ | refine zY rfl ?_ | refine zC ?_ | with_reducible refine zN ?_ | refine zH ?_ | refine zI ?_ | (with_reducible first | refine zL ?_ | refine zM ?_ | refine zE ?_ | refine zG ?_ | refine zF ?_) | refine zO ?_
          refine zk rfl (fun h3 => ?_) (fun h3 => ?_)
          · repeat' first | refine zK ?_ | refine zA ?_ | refine zP [] ?_ | (refine isA ?_; refine zg rfl ?_) | (refine isL ?_; refine zW rfl (by kernel_rfl) rfl rfl ?_) | (refine zd rfl ?_; refine zV rfl (by kernel_rfl) rfl rfl ?_) | exact yK rfl rfl (congrArg B (by rw [e3, pL h3])) | refine zD ?_ | refine zB _ rfl (by kernel_rfl) ?_ | refine zX rfl ?_ | refine zY rfl ?_ | refine zC ?_ | with_reducible refine zN ?_ | refine zH ?_ | refine zI ?_ | (with_reducible first | refine zL ?_ | refine zM ?_ | refine zE ?_ | refine zG ?_ | refine zF ?_) | refine zO ?_
          · obtain ⟨a, b, rest, hr⟩ := pN h3
            rw [pM hr] at e3
            have ra : s.runs[0]? = some a := by rw [hr]; rfl
            have rb : s.runs[1]? = some b := by rw [hr]; rfl
            have la := g5.at ra
            have lb := g5.at rb
            have lab : a.length + b.length ≤ 10000000 := by rw [hr] at g6; simp only [tot, List.map_cons, List.sum_cons] at g6; omega
            repeat' first | refine zK ?_ | refine zA ?_ | refine zP [] ?_ | (refine isA ?_; refine zg rfl ?_) | (refine isL ?_; refine zW rfl (by kernel_rfl) rfl rfl ?_) | (refine zd rfl ?_; refine zV rfl (by kernel_rfl) rfl rfl ?_) | (refine zv 75 ?_; refine zb rfl (zQ rfl (xx _ _ _) (.cons (.same rfl) (.cons (.same rfl) (.cons (.same rfl) .nil))) rfl) rfl ?_) | (refine zw 75 rfl ?_; refine zU rfl (by kernel_rfl) rfl (zQ rfl (xx _ _ _) (.cons (.same rfl) (.cons (.same rfl) (.cons (.same rfl) .nil))) rfl) rfl ?_) | (refine yB (x := .tmp 134) ?_; refine zb rfl (z5 (t := rnT) (z := a) rfl rfl rfl rfl (Int.natCast_nonneg 0) ra) rfl ?_) | (refine yA (x := .tmp 134) rfl ?_; refine zU rfl (by kernel_rfl) rfl (z5 (t := rnT) (z := a) rfl rfl rfl rfl (Int.natCast_nonneg 0) ra) rfl ?_) | (refine yB (x := .tmp 139) ?_; refine zb rfl (z5 (t := rnT) (z := b) rfl rfl rfl rfl (Int.natCast_nonneg 1) rb) rfl ?_) | (refine yA (x := .tmp 139) rfl ?_; refine zU rfl (by kernel_rfl) rfl (z5 (t := rnT) (z := b) rfl rfl rfl rfl (Int.natCast_nonneg 1) rb) rfl ?_) | refine zD ?_ | refine zB _ rfl (by kernel_rfl) ?_ | refine zX rfl ?_ | refine zY rfl ?_ | refine zC ?_ | with_reducible refine zN ?_ | refine zH ?_ | refine zI ?_ | (with_reducible first | refine zL ?_ | refine zM ?_ | refine zE ?_ | refine zG ?_ | refine zF ?_) | refine zO ?_ | (refine wW ?_; refine yX rfl rfl (fun hbr => ?_) (fun hbr => ?_) <;> (fail_if_success (with_reducible (have hx : true = true := hbr))) <;> (fail_if_success (with_reducible (have hx : false = false := hbr)))) | (refine zd rfl ?_; refine yJ rfl rfl rfl rfl (fun hbr => ?_) (fun hbr => ?_) <;> (fail_if_success (with_reducible (have hx : true = true := hbr))) <;> (fail_if_success (with_reducible (have hx : false = false := hbr))))
            all_goals first
              | exact yK rfl rfl (congrArg B (by rw [e3]; simp only [*, Bool.true_or, Bool.false_or, Bool.or_true, Bool.or_false, Bool.true_and, Bool.false_and, Bool.and_true, Bool.and_false, Bool.not_true, Bool.not_false, cond_true, cond_false]))
              | skip
            refine zk rfl (fun p => ?_) (fun p => ?_)
            · repeat' first | refine zK ?_ | refine zA ?_ | refine zP [] ?_ | (refine isA ?_; refine zg rfl ?_) | (refine isL ?_; refine zW rfl (by kernel_rfl) rfl rfl ?_) | (refine zd rfl ?_; refine zV rfl (by kernel_rfl) rfl rfl ?_) | exact yK rfl rfl (congrArg B (by rw [e3]; simp only [*, Bool.true_or, Bool.false_or, Bool.or_true, Bool.or_false, Bool.true_and, Bool.false_and, Bool.and_true, Bool.and_false, Bool.not_true, Bool.not_false, cond_true, cond_false])) | refine zD ?_ | refine zB _ rfl (by kernel_rfl) ?_ | refine zX rfl ?_ | refine zY rfl ?_ | refine zC ?_ | with_reducible refine zN ?_ | refine zH ?_ | refine zI ?_ | (with_reducible first | refine zL ?_ | refine zM ?_ | refine zE ?_ | refine zG ?_ | refine zF ?_) | refine zO ?_
            have p1 : (!inV s.lp 0 a.length) = false := by assumption
            have p1 : inV s.lp 0 a.length = true := by simpa using p1
            have p2 : inV s.rp 0 b.length = true := by simpa using p
            rw [p1, p2] at e3
            simp only [Bool.true_or, Bool.false_or, Bool.or_true, Bool.or_false, Bool.true_and, Bool.false_and, Bool.and_true, Bool.and_false, Bool.not_true, Bool.not_false, cond_true, cond_false] at e3
            obtain ⟨q1, q2⟩ := xz.1 p1
            obtain ⟨q3, q4⟩ := xz.1 p2
            obtain ⟨i, hi⟩ := Int.eq_ofNat_of_zero_le q1
            obtain ⟨j, hj⟩ := Int.eq_ofNat_of_zero_le q3
            have ei : s.lp.toNat = i := by omega
            have ej : s.rp.toNat = j := by omega
            rw [ei, ej] at e3
            have w1 : IntKind.i64.wrap (s.lp + s.rp) = ((i + j : Nat) : Int) := by rw [hi, hj, IntKind.wrap_i64]; omega
            have li : (a.take i).length ≤ 100000000 := by simp; omega
            have lj : (b.take j).length ≤ 100000000 := by simp; omega
            have m1 := (dB (a.take i) (b.take j) li lj).frozen (zt rfl)
            have m2 := (dB a b (by omega) (by omega)).frozen (zt rfl)
            have n2 := tQ a b
            have x1 := sv s.out (mgV (a.take i) (b.take j)) (by omega)
            have x2 := sv s.out ((mgV a b).take (i + j)) (by omega)
            generalize mgV (a.take i) (b.take j) = M1 at m1 x1 e3
            generalize mgV a b = M2 at m2 x2 e3 n2
            repeat' first | refine zK ?_ | refine zA ?_ | refine zP [] ?_ | (refine isA ?_; refine zg rfl ?_) | (refine isL ?_; refine zW rfl (by kernel_rfl) rfl rfl ?_) | (refine zd rfl ?_; refine zV rfl (by kernel_rfl) rfl rfl ?_) | (refine v6 (x := .tmp 159) ?_; refine zb rfl (yh rfl rfl (congrArg I hi) (by omega)) rfl ?_) | (refine v5 (x := .tmp 159) rfl ?_; refine zU rfl (by kernel_rfl) rfl (yh rfl rfl (congrArg I hi) (by omega)) rfl ?_) | (refine v6 (x := .tmp 163) ?_; refine zb rfl (yh rfl rfl (congrArg I hj) (by omega)) rfl ?_) | (refine v5 (x := .tmp 163) rfl ?_; refine zU rfl (by kernel_rfl) rfl (yh rfl rfl (congrArg I hj) (by omega)) rfl ?_) | (refine v6 (x := .tmp 174) ?_; refine zb rfl (yh rfl rfl (congrArg I w1) (by omega)) rfl ?_) | (refine v5 (x := .tmp 174) rfl ?_; refine zU rfl (by kernel_rfl) rfl (yh rfl rfl (congrArg I w1) (by omega)) rfl ?_) | (refine zv 82 (x := #[.tmp 162, .tmp 166]) ?_; refine zb rfl (zQ rfl m1 (.cons (.same rfl) (.cons (.same rfl) .nil)) rfl) rfl ?_) | (refine zw 82 (x := #[.tmp 162, .tmp 166]) rfl ?_; refine zU rfl (by kernel_rfl) rfl (zQ rfl m1 (.cons (.same rfl) (.cons (.same rfl) .nil)) rfl) rfl ?_) | (refine zv 82 (x := #[.tmp 172, .tmp 173]) ?_; refine zb rfl (zQ rfl m2 (.cons (.same rfl) (.cons (.same rfl) .nil)) rfl) rfl ?_) | (refine zw 82 (x := #[.tmp 172, .tmp 173]) rfl ?_; refine zU rfl (by kernel_rfl) rfl (zQ rfl m2 (.cons (.same rfl) (.cons (.same rfl) .nil)) rfl) rfl ?_) | (refine zv 81 (x := #[.tmp 158, .tmp 167]) ?_; refine zb rfl (zQ rfl x1 (.cons (.same rfl) (.cons (.same rfl) .nil)) rfl) rfl ?_) | (refine zw 81 (x := #[.tmp 158, .tmp 167]) rfl ?_; refine zU rfl (by kernel_rfl) rfl (zQ rfl x1 (.cons (.same rfl) (.cons (.same rfl) .nil)) rfl) rfl ?_) | (refine zv 81 (x := #[.tmp 171, .tmp 180]) ?_; refine zb rfl (zQ rfl x2 (.cons (.same rfl) (.cons (.same rfl) .nil)) rfl) rfl ?_) | (refine zw 81 (x := #[.tmp 171, .tmp 180]) rfl ?_; refine zU rfl (by kernel_rfl) rfl (zQ rfl x2 (.cons (.same rfl) (.cons (.same rfl) .nil)) rfl) rfl ?_) | refine zD ?_ | refine zB _ rfl (by kernel_rfl) ?_ | refine zX rfl ?_ | refine zY rfl ?_ | refine zC ?_ | with_reducible refine zN ?_ | refine zH ?_ | refine zI ?_ | (with_reducible first | refine zL ?_ | refine zM ?_ | refine zE ?_ | refine zG ?_ | refine zF ?_) | refine zO ?_ | (refine wW ?_; refine yX rfl rfl (fun hbr => ?_) (fun hbr => ?_) <;> (fail_if_success (with_reducible (have hx : true = true := hbr))) <;> (fail_if_success (with_reducible (have hx : false = false := hbr)))) | (refine zd rfl ?_; refine yJ rfl rfl rfl rfl (fun hbr => ?_) (fun hbr => ?_) <;> (fail_if_success (with_reducible (have hx : true = true := hbr))) <;> (fail_if_success (with_reducible (have hx : false = false := hbr))))
            all_goals exact yK rfl rfl (congrArg B (by rw [e3]; clear hi hj q1 q2 q3 q4; simp only [*, Bool.true_or, Bool.false_or, Bool.or_true, Bool.or_false, Bool.true_and, Bool.false_and, Bool.and_true, Bool.and_false, Bool.not_true, Bool.not_false, cond_true, cond_false]))
        · rw [h2, cond_false] at e3
          repeat' first | refine zK ?_ | refine zA ?_ | refine zP [] ?_ | (refine isA ?_; refine zg rfl ?_) | (refine isL ?_; refine zW rfl (by kernel_rfl) rfl rfl ?_) | (refine zd rfl ?_; refine zV rfl (by kernel_rfl) rfl rfl ?_) | refine zD ?_ | refine zB _ rfl (by kernel_rfl) ?_ | refine zX rfl ?_ | refine zY rfl ?_ | refine zC ?_ | with_reducible refine zN ?_ | refine zH ?_ | refine zI ?_ | (with_reducible first | refine zL ?_ | refine zM ?_ | refine zE ?_ | refine zG ?_ | refine zF ?_) | refine zO ?_
          refine zk rfl (fun h3 => ?_) (fun h3 => ?_)
          · rw [h3, cond_true, fI s (by omega)] at e3
            repeat' first | refine zK ?_ | refine zA ?_ | refine zP [] ?_ | (refine isA ?_; refine zg rfl ?_) | (refine isL ?_; refine zW rfl (by kernel_rfl) rfl rfl ?_) | (refine zd rfl ?_; refine zV rfl (by kernel_rfl) rfl rfl ?_) | (refine zv 75 ?_; refine zb rfl (zQ rfl (xx _ _ _) (.cons (.same rfl) (.cons (.same rfl) (.cons (.same rfl) .nil))) rfl) rfl ?_) | (refine zw 75 rfl ?_; refine zU rfl (by kernel_rfl) rfl (zQ rfl (xx _ _ _) (.cons (.same rfl) (.cons (.same rfl) (.cons (.same rfl) .nil))) rfl) rfl ?_) | refine zD ?_ | refine zB _ rfl (by kernel_rfl) ?_ | refine zX rfl ?_ | refine zY rfl ?_ | refine zC ?_ | with_reducible refine zN ?_ | refine zH ?_ | refine zI ?_ | (with_reducible first | refine zL ?_ | refine zM ?_ | refine zE ?_ | refine zG ?_ | refine zF ?_) | refine zO ?_ | (refine wW ?_; refine yX rfl rfl (fun hbr => ?_) (fun hbr => ?_) <;> (fail_if_success (with_reducible (have hx : true = true := hbr))) <;> (fail_if_success (with_reducible (have hx : false = false := hbr)))) | (refine zd rfl ?_; refine yJ rfl rfl rfl rfl (fun hbr => ?_) (fun hbr => ?_) <;> (fail_if_success (with_reducible (have hx : true = true := hbr))) <;> (fail_if_success (with_reducible (have hx : false = false := hbr))))
            all_goals exact yK rfl rfl (congrArg B (by rw [e3]; simp only [*, Bool.true_or, Bool.false_or, Bool.or_true, Bool.or_false, Bool.true_and, Bool.false_and, Bool.and_true, Bool.and_false, Bool.not_true, Bool.not_false, cond_true, cond_false]))
          · rw [h3, cond_false] at e3
            repeat' first | refine zK ?_ | refine zA ?_ | refine zP [] ?_ | (refine isA ?_; refine zg rfl ?_) | (refine isL ?_; refine zW rfl (by kernel_rfl) rfl rfl ?_) | (refine zd rfl ?_; refine zV rfl (by kernel_rfl) rfl rfl ?_) | refine zD ?_ | refine zB _ rfl (by kernel_rfl) ?_ | refine zX rfl ?_ | refine zY rfl ?_ | refine zC ?_ | with_reducible refine zN ?_ | refine zH ?_ | refine zI ?_ | (with_reducible first | refine zL ?_ | refine zM ?_ | refine zE ?_ | refine zG ?_ | refine zF ?_) | refine zO ?_
            refine zk rfl (fun h4 => ?_) (fun h4 => ?_)
            · rw [h4, cond_true, fJ s] at e3
              repeat' first | refine zK ?_ | refine zA ?_ | refine zP [] ?_ | (refine isA ?_; refine zg rfl ?_) | (refine isL ?_; refine zW rfl (by kernel_rfl) rfl rfl ?_) | (refine zd rfl ?_; refine zV rfl (by kernel_rfl) rfl rfl ?_) | refine zD ?_ | refine zB _ rfl (by kernel_rfl) ?_ | refine zX rfl ?_ | refine zY rfl ?_ | refine zC ?_ | with_reducible refine zN ?_ | refine zH ?_ | refine zI ?_ | (with_reducible first | refine zL ?_ | refine zM ?_ | refine zE ?_ | refine zG ?_ | refine zF ?_) | refine zO ?_ | (refine wW ?_; refine yX rfl rfl (fun hbr => ?_) (fun hbr => ?_) <;> (fail_if_success (with_reducible (have hx : true = true := hbr))) <;> (fail_if_success (with_reducible (have hx : false = false := hbr)))) | (refine zd rfl ?_; refine yJ rfl rfl rfl rfl (fun hbr => ?_) (fun hbr => ?_) <;> (fail_if_success (with_reducible (have hx : true = true := hbr))) <;> (fail_if_success (with_reducible (have hx : false = false := hbr))))
              all_goals exact yK rfl rfl (congrArg B (by rw [e3]; simp only [*, Bool.true_or, Bool.false_or, Bool.or_true, Bool.or_false, Bool.true_and, Bool.false_and, Bool.and_true, Bool.and_false, Bool.not_true, Bool.not_false, cond_true, cond_false]))
            · rw [h4, cond_false] at e3
              repeat' first | refine zK ?_ | refine zA ?_ | refine zP [] ?_ | (refine isA ?_; refine zg rfl ?_) | (refine isL ?_; refine zW rfl (by kernel_rfl) rfl rfl ?_) | (refine zd rfl ?_; refine zV rfl (by kernel_rfl) rfl rfl ?_) | exact yK rfl rfl (congrArg B (by rw [e3])) | refine zD ?_ | refine zB _ rfl (by kernel_rfl) ?_ | refine zX rfl ?_ | refine zY rfl ?_ | refine zC ?_ | with_reducible refine zN ?_ | refine zH ?_ | refine zI ?_ | (with_reducible first | refine zL ?_ | refine zM ?_ | refine zE ?_ | refine zG ?_ | refine zF ?_) | refine zO ?_
end Go.Proofs.Ytojcojanokhnaaa.Ab
namespace Go.Proofs.Ytojcojanokhnaaa.Ab
open Go.RowKit
theorem fH (s : So) (h : s.out.length ≤ 1000000000) : sE s = (decide (s.lp = 0) && (decide (s.rp = 0) && ((decide ((s.dfr.length : Int) = 0) || decide ((0 : Int) ≤ IntKind.i64.wrap ((s.out.length : Int) - 1))) && (decide (yj s ≤ 60) && eqB (s.runs.flatten ++ s.out ++ s.heap ++ s.dfr) (s.input.take s.pos.toNat))))) := by
  rw [nw, Bool.or_comm, show decide ((0 : Int) < (s.out.length : Int)) = decide ((0 : Int) ≤ IntKind.i64.wrap ((s.out.length : Int) - 1)) from decide_eq_decide.2 (by rw [IntKind.wrap_i64]; omega)]
theorem fG (s : So) (h1 : s.heap.length ≤ 1000000000) (h2 : s.dfr.length ≤ 1000000000) : vW s = (!(!decide (s.pos = s.input.length) || decide ((0 : Int) < IntKind.i64.wrap ((s.heap.length : Int) + (s.dfr.length : Int)))) && eqB s.runs.flatten s.input) := by
  rw [nv, show decide ((0 : Int) < IntKind.i64.wrap ((s.heap.length : Int) + (s.dfr.length : Int))) = (decide ((0 : Int) < (s.heap.length : Int)) || decide ((0 : Int) < (s.dfr.length : Int))) from by rw [← Bool.decide_or]; exact decide_eq_decide.2 (by rw [IntKind.wrap_i64]; omega)]
  generalize decide (s.pos = s.input.length) = p
  generalize decide ((0 : Int) < (s.heap.length : Int)) = q
  generalize decide ((0 : Int) < (s.dfr.length : Int)) = r
  generalize eqB s.runs.flatten s.input = t
  cases p <;> cases q <;> cases r <;> cases t <;> rfl
theorem vTail (s : So) : cond (decide (s.ph = 3)) (uV s) (cond (decide (s.ph = 4)) (uW s) false) = (!(decide ((1 : Int) < (s.runs.length : Int)) || (!decide (s.rp = 0) || decide ((0 : Int) < (s.out.length : Int)))) && cond (decide (s.ph = 3)) (decide ((s.runs.length : Int) = 1) && inV s.lp 0 ((s.input.length : Int) - 1)) (decide (s.ph = 4) && decide (s.lp = s.input.length))) := by
  unfold uV uW
  rw [show decide (s.out.length = 0) = !decide ((0 : Int) < (s.out.length : Int)) from by rw [← decide_not]; exact decide_eq_decide.2 (by omega), show decide (s.runs.length ≤ 1) = !decide ((1 : Int) < (s.runs.length : Int)) from by rw [← decide_not]; exact decide_eq_decide.2 (by omega), show decide (s.runs.length = 1) = decide ((s.runs.length : Int) = 1) from decide_eq_decide.2 (by omega)]
  rcases Classical.em ((s.runs.length : Int) = 1) with h | h
  · rw [decide_eq_true h, decide_eq_false (show ¬ (1 : Int) < (s.runs.length : Int) by omega)]
    generalize decide ((0 : Int) < (s.out.length : Int)) = q
    generalize decide (s.rp = 0) = r
    generalize inV s.lp 0 ((s.input.length : Int) - 1) = t
    generalize decide (s.lp = s.input.length) = u
    cases decide (s.ph = 3) <;> cases decide (s.ph = 4) <;> cases q <;> cases r <;> cases t <;> cases u <;> rfl
  · rw [decide_eq_false h]
    generalize decide ((1 : Int) < (s.runs.length : Int)) = p
    generalize decide ((0 : Int) < (s.out.length : Int)) = q
    generalize decide (s.rp = 0) = r
    generalize inV s.lp 0 ((s.input.length : Int) - 1) = t
    generalize decide (s.lp = s.input.length) = u
    cases decide (s.ph = 3) <;> cases decide (s.ph = 4) <;> cases p <;> cases q <;> cases r <;> cases t <;> cases u <;> rfl
theorem uB (s : So) (hok : okSo s) : zz Go.Proofs.Try.prog 18 [.agg (soE s)] [] (B (vS s)) [] false := by
  have g1 := hok.input
  have g2 := hok.heap
  have g3 := hok.dfr
  have g4 := hok.out
  have g5 := hok.rn
  have g6 := hok.tot
  have g7 := vZ s.runs
  have a1 := pE s.input (by omega)
  have a2 := dm s.runs g5
  have a3 := gX s.out (by omega)
  have a4 := pD s hok
  have a5 := (mq s.runs g5 (by omega)).frozen (zt rfl)
  have a6 := mr s.runs.flatten s.input (by omega) (by omega)
  refine zx [2] Go.Proofs.Try.func18 rfl rfl ?_
  simp only [Go.Proofs.Try.ntmps18, List.length_cons, List.length_nil, Nat.reduceAdd, Nat.reduceSub, List.replicate_succ, List.replicate_zero, List.cons_append, List.nil_append]
  repeat' first | refine zK ?_ | refine zA ?_ | refine zP [] ?_ | (refine isA ?_; refine zg rfl ?_) | (refine isL ?_; refine zW rfl (by kernel_rfl) rfl rfl ?_) | (refine zd rfl ?_; refine zV rfl (by kernel_rfl) rfl rfl ?_) | (refine zv 25 ?_; refine zb rfl (zQ rfl a1 (.cons (.same rfl) .nil) rfl) rfl ?_) | (refine zw 25 rfl ?_; refine zU rfl (by kernel_rfl) rfl (zQ rfl a1 (.cons (.same rfl) .nil) rfl) rfl ?_) | (refine zv 66 ?_; refine zb rfl (zQ rfl (uC _ _ _) (.cons (.same rfl) (.cons (.same rfl) (.cons (.same rfl) .nil))) rfl) rfl ?_) | (refine zw 66 rfl ?_; refine zU rfl (by kernel_rfl) rfl (zQ rfl (uC _ _ _) (.cons (.same rfl) (.cons (.same rfl) (.cons (.same rfl) .nil))) rfl) rfl ?_) | (refine zv 83 ?_; refine zb rfl (zQ rfl a2 (.cons (.same rfl) .nil) rfl) rfl ?_) | (refine zw 83 rfl ?_; refine zU rfl (by kernel_rfl) rfl (zQ rfl a2 (.cons (.same rfl) .nil) rfl) rfl ?_) | (refine zv 84 ?_; refine zb rfl (zQ rfl a3 (.cons (.same rfl) .nil) rfl) rfl ?_) | (refine zw 84 rfl ?_; refine zU rfl (by kernel_rfl) rfl (zQ rfl a3 (.cons (.same rfl) .nil) rfl) rfl ?_) | refine zD ?_ | refine zB _ rfl (by kernel_rfl) ?_ | refine zX rfl ?_ | refine zY rfl ?_ | refine zC ?_ | with_reducible refine zN ?_ | refine zH ?_ | refine zI ?_ | (with_reducible first | refine zL ?_ | refine zM ?_ | refine zE ?_ | refine zG ?_ | refine zF ?_) | refine zO ?_ | refine zk rfl (fun hbr => ?_) (fun hbr => ?_) | (refine wW ?_; refine yX rfl rfl (fun hbr => ?_) (fun hbr => ?_) <;> (fail_if_success (with_reducible (have hx : true = true := hbr))) <;> (fail_if_success (with_reducible (have hx : false = false := hbr)))) | (refine zd rfl ?_; refine yJ rfl rfl rfl rfl (fun hbr => ?_) (fun hbr => ?_) <;> (fail_if_success (with_reducible (have hx : true = true := hbr))) <;> (fail_if_success (with_reducible (have hx : false = false := hbr))))
  all_goals first
    | exact yK rfl rfl (congrArg B (nu (by rw [nx]; simp only [*, Bool.true_or, Bool.false_or, Bool.or_true, Bool.or_false, Bool.true_and, Bool.false_and, Bool.and_true, Bool.and_false, Bool.not_true, Bool.not_false, cond_true, cond_false])).symm)
    | skip
  have hq : (avR s.input && (inV s.pos 0 s.input.length && (avS s.runs && (!decide (s.wr < 0) && vo s.out)))) = true := by
    simp only [Bool.not_eq_false'] at *
    simp only [*, Bool.true_and, Bool.not_false]
  refine yE (α := { i : Nat // i ≤ s.heap.length ∧ ∀ j z, j < i → s.heap[j]? = some z → bel z s.out = false }) (fun i => ⟨(.any :: (.ptr 0 0) :: .any :: (I (IntKind.i64.wrap ((s.out.length : Int) - 1))) :: (I i.1) :: .any :: .any :: .any :: .any :: .any :: .any :: .any :: .any :: .any :: .any :: .any :: .any :: .any :: .any :: .any :: .any :: .any :: .any :: .any :: .any :: .any :: .any :: .any :: .any :: .any :: .any :: .any :: .any :: .any :: .any :: .any :: .any :: .any :: .any :: .any :: .any :: .any :: .any :: .any :: .any :: .any :: .any :: .any :: .any :: .any :: .any :: .any :: .any :: .any :: .any :: .any :: .any :: .any :: .any :: .any :: .any :: .any :: .any :: .any :: .any :: .any :: .any :: .any :: .any :: .any :: .any :: .any :: .any :: .any :: .any :: .any :: .any :: .any :: .any :: .any :: .any :: .any :: .any :: .any :: .any :: .any :: .any :: .any :: .any :: .any :: .any :: .any :: .any :: .any :: .any :: .any :: .any :: .any :: .any :: .any :: .any :: .any :: .any :: .any :: .any :: .any :: .any :: .any :: .any :: .any :: .any :: .any :: .any :: .any :: .any :: .any :: .any :: .any :: .any :: .any :: .any :: .any :: .any :: .any :: .any :: .any :: .any :: .any :: .any :: .any :: .any :: .any :: .any :: .any :: .any :: .any :: .any :: .any :: .any :: .any :: .any :: .any :: .any :: .any :: .any :: .any :: .any :: .any :: .any :: .any :: .any :: .any :: .any :: .any :: .any :: .any :: .any :: .any :: .any :: .any :: .any :: .any :: .any :: .any :: .any :: .any :: .any :: .any :: .any :: .any :: .any :: .any :: .any :: .any :: .any :: .any :: .any :: .any :: .any :: .any :: .any :: .any :: .any :: .any :: .any :: .any :: .any :: .any :: .any :: .any :: .any :: .any :: .any :: .any :: .any :: .any :: .any :: .any :: .any :: .any :: .any :: .any :: .any :: .any :: .any :: .any :: .any :: .any :: .any :: .any :: .any :: .any :: .any :: .any :: .any :: .any :: .any :: .any :: .any :: .any :: .any :: .any :: .any :: .any :: .any :: .any :: .any :: .any :: .any :: .any :: .any :: .any :: .any :: .any :: .any :: .any :: .any :: .any :: .any :: .any :: .any :: .any :: .any :: .any :: .any :: .any :: .any :: .any :: .any :: .any :: .any :: .any :: .any :: .any :: .any :: .any :: .any :: .any :: .any :: .any :: []), [⟨27, 10, soE s, 0⟩], 0⟩) (fun i => s.heap.length - i.1) ⟨0, Nat.zero_le _, fun j z h => absurd h (Nat.not_lt_zero j)⟩ ?_ ?_
  · exact yf [0] rfl rfl (by decide) (by repeat' first | exact HLes.nil | refine HLes.cons rfl rfl rfl rfl ?_ ?_ | exact zm | refine zZ ?_ ?_ | exact zo | exact le_refl rfl | exact zj rfl rfl | exact zr rfl) (by repeat' first | exact zm | refine zZ ?_ ?_ | exact zo | exact le_refl rfl | exact zj rfl rfl | exact zr rfl)
  · rintro ⟨i, hi, hb⟩
    repeat' first | refine zK ?_ | refine zA ?_ | refine zP [] ?_ | (refine isA ?_; refine zg rfl ?_) | (refine isL ?_; refine zW rfl (by kernel_rfl) rfl rfl ?_) | (refine zd rfl ?_; refine zV rfl (by kernel_rfl) rfl rfl ?_) | refine zD ?_ | refine zB _ rfl (by kernel_rfl) ?_ | refine zX rfl ?_ | refine zY rfl ?_ | refine zC ?_ | with_reducible refine zN ?_ | refine zH ?_ | refine zI ?_ | (with_reducible first | refine zL ?_ | refine zM ?_ | refine zE ?_ | refine zG ?_ | refine zF ?_) | refine zO ?_
    refine zk rfl (fun h => ?_) (fun h => ?_)
    · have hlt : i < s.heap.length := by simpa using h
      obtain ⟨z, hz⟩ : ∃ z, s.heap[i]? = some z := ⟨_, List.getElem?_eq_getElem hlt⟩
      repeat' first | refine zK ?_ | refine zA ?_ | refine zP [] ?_ | (refine isA ?_; refine zg rfl ?_) | (refine isL ?_; refine zW rfl (by kernel_rfl) rfl rfl ?_) | (refine zd rfl ?_; refine zV rfl (by kernel_rfl) rfl rfl ?_) | refine zD ?_ | refine zB _ rfl (by kernel_rfl) ?_ | refine zX rfl ?_ | refine zY rfl ?_ | refine zC ?_ | with_reducible refine zN ?_ | refine zH ?_ | refine zI ?_ | (with_reducible first | refine zL ?_ | refine zM ?_ | refine zE ?_ | refine zG ?_ | refine zF ?_) | refine zO ?_
      refine yJ rfl rfl rfl rfl (fun p1 => ?_) (fun p1 => ?_)
      · have q1 : 0 < s.out.length := by have := of_decide_eq_true p1; rw [IntKind.wrap_i64] at this; omega
        obtain ⟨y, hy⟩ : ∃ z, s.out[s.out.length - 1]? = some z := ⟨_, List.getElem?_eq_getElem (by omega)⟩
        have ew : IntKind.i64.wrap ((s.out.length : Int) - 1) = ((s.out.length - 1 : Nat) : Int) := by rw [IntKind.wrap_i64]; omega
        have eb : bel z s.out = decide (yp z y < 0) := by unfold bel; rw [hy]; rfl
        repeat' first | refine zK ?_ | refine zA ?_ | refine zP [] ?_ | (refine isA ?_; refine zg rfl ?_) | (refine isL ?_; refine zW rfl (by kernel_rfl) rfl rfl ?_) | (refine zd rfl ?_; refine zV rfl (by kernel_rfl) rfl rfl ?_) | (refine yB (x := .tmp 52) ?_; refine zb rfl (z5 (t := rwT) (z := z) rfl rfl rfl rfl (Int.natCast_nonneg i) hz) rfl ?_) | (refine yA (x := .tmp 52) rfl ?_; refine zU rfl (by kernel_rfl) rfl (z5 (t := rwT) (z := z) rfl rfl rfl rfl (Int.natCast_nonneg i) hz) rfl ?_) | (refine yB (x := .tmp 57) ?_; refine zb rfl (z5 (t := rwT) (j := ((s.out.length - 1 : Nat) : Int)) (z := y) rfl rfl rfl (congrArg I ew) (Int.natCast_nonneg _) hy) rfl ?_) | (refine yA (x := .tmp 57) rfl ?_; refine zU rfl (by kernel_rfl) rfl (z5 (t := rwT) (j := ((s.out.length - 1 : Nat) : Int)) (z := y) rfl rfl rfl (congrArg I ew) (Int.natCast_nonneg _) hy) rfl ?_) | (refine zv 68 ?_; refine zb rfl (zQ rfl (xt z y) (.cons (.same rfl) (.cons (.same rfl) .nil)) rfl) rfl ?_) | (refine zw 68 rfl ?_; refine zU rfl (by kernel_rfl) rfl (zQ rfl (xt z y) (.cons (.same rfl) (.cons (.same rfl) .nil)) rfl) rfl ?_) | refine zD ?_ | refine zB _ rfl (by kernel_rfl) ?_ | refine zX rfl ?_ | refine zY rfl ?_ | refine zC ?_ | with_reducible refine zN ?_ | refine zH ?_ | refine zI ?_ | (with_reducible first | refine zL ?_ | refine zM ?_ | refine zE ?_ | refine zG ?_ | refine zF ?_) | refine zO ?_
        refine zk rfl (fun p => ?_) (fun p => ?_)
        · repeat' first | refine zK ?_ | refine zA ?_ | refine zP [] ?_ | (refine isA ?_; refine zg rfl ?_) | (refine isL ?_; refine zW rfl (by kernel_rfl) rfl rfl ?_) | (refine zd rfl ?_; refine zV rfl (by kernel_rfl) rfl rfl ?_) | exact yK rfl rfl (congrArg B (nu (mV hz (eb.trans p))).symm) | refine zD ?_ | refine zB _ rfl (by kernel_rfl) ?_ | refine zX rfl ?_ | refine zY rfl ?_ | refine zC ?_ | with_reducible refine zN ?_ | refine zH ?_ | refine zI ?_ | (with_reducible first | refine zL ?_ | refine zM ?_ | refine zE ?_ | refine zG ?_ | refine zF ?_) | refine zO ?_
        · repeat' first | refine zK ?_ | refine zA ?_ | refine zP [] ?_ | (refine isA ?_; refine zg rfl ?_) | (refine isL ?_; refine zW rfl (by kernel_rfl) rfl rfl ?_) | (refine zd rfl ?_; refine zV rfl (by kernel_rfl) rfl rfl ?_) | refine zD ?_ | refine zB _ rfl (by kernel_rfl) ?_ | refine zX rfl ?_ | refine zY rfl ?_ | refine zC ?_ | with_reducible refine zN ?_ | refine zH ?_ | refine zI ?_ | (with_reducible first | refine zL ?_ | refine zM ?_ | refine zE ?_ | refine zG ?_ | refine zF ?_) | refine zO ?_
          refine ⟨⟨i + 1, hlt, tT hb hz (eb.trans p)⟩, by simp only; omega, ?_⟩
          exact yf [0] rfl rfl (by decide) (by repeat' first | exact HLes.nil | refine HLes.cons rfl rfl rfl rfl ?_ ?_ | exact zm | refine zZ ?_ ?_ | exact zo | exact le_refl rfl | exact zj rfl rfl | exact zr rfl) (by repeat' first | exact zm | refine zZ ?_ ?_ | exact zo | exact le_refl rfl | exact zj rfl rfl | exact zr rfl | exact xZ (by assumption) (by omega))
      · have q1 : s.out.length = 0 := by have := of_decide_eq_false p1; rw [IntKind.wrap_i64] at this; omega
        have eb : bel z s.out = false := by rw [List.eq_nil_of_length_eq_zero q1]; rfl
        repeat' first | refine zK ?_ | refine zA ?_ | refine zP [] ?_ | (refine isA ?_; refine zg rfl ?_) | (refine isL ?_; refine zW rfl (by kernel_rfl) rfl rfl ?_) | (refine zd rfl ?_; refine zV rfl (by kernel_rfl) rfl rfl ?_) | refine zD ?_ | refine zB _ rfl (by kernel_rfl) ?_ | refine zX rfl ?_ | refine zY rfl ?_ | refine zC ?_ | with_reducible refine zN ?_ | refine zH ?_ | refine zI ?_ | (with_reducible first | refine zL ?_ | refine zM ?_ | refine zE ?_ | refine zG ?_ | refine zF ?_) | refine zO ?_
        refine ⟨⟨i + 1, hlt, tT hb hz eb⟩, by simp only; omega, ?_⟩
        exact yf [0] rfl rfl (by decide) (by repeat' first | exact HLes.nil | refine HLes.cons rfl rfl rfl rfl ?_ ?_ | exact zm | refine zZ ?_ ?_ | exact zo | exact le_refl rfl | exact zj rfl rfl | exact zr rfl) (by repeat' first | exact zm | refine zZ ?_ ?_ | exact zo | exact le_refl rfl | exact zj rfl rfl | exact zr rfl | exact xZ (by assumption) (by omega))
    · have hge : i = s.heap.length := by
        have : ¬ ((i : Int) < s.heap.length) := by simpa using h
        omega
      subst hge
      have hB := pt hq hb
      have e1 := eP hB
      have e2 := eO hB
      simp only [Bool.and_eq_true, xz] at hq
      obtain ⟨hv0, ⟨hp0, hp1⟩, hv1, hv2, hv3⟩ := hq
      repeat' first | refine zK ?_ | refine zA ?_ | refine zP [] ?_ | (refine isA ?_; refine zg rfl ?_) | (refine isL ?_; refine zW rfl (by kernel_rfl) rfl rfl ?_) | (refine zd rfl ?_; refine zV rfl (by kernel_rfl) rfl rfl ?_) | refine zD ?_ | refine zB _ rfl (by kernel_rfl) ?_ | refine zX rfl ?_ | refine zY rfl ?_ | refine zC ?_ | with_reducible refine zN ?_ | refine zH ?_ | refine zI ?_ | (with_reducible first | refine zL ?_ | refine zM ?_ | refine zE ?_ | refine zG ?_ | refine zF ?_) | refine zO ?_
      refine zk rfl (fun h => ?_) (fun h => ?_)
      · have e1 := e1 h
        rw [fH s (by omega)] at e1
        have hp : s.pos = ((s.pos.toNat : Nat) : Int) := by omega
        have a7 := mq s.runs g5 (by omega)
        have a8 := mr (s.runs.flatten ++ s.out ++ s.heap ++ s.dfr) (s.input.take s.pos.toNat) (by rw [List.length_append, List.length_append, List.length_append]; omega) (by simp; omega)
        repeat' first | refine zK ?_ | refine zA ?_ | (refine isA ?_; refine zg rfl ?_) | (refine isL ?_; refine zW rfl (by kernel_rfl) rfl rfl ?_) | (refine zd rfl ?_; refine zV rfl (by kernel_rfl) rfl rfl ?_) | refine zD ?_ | refine zB _ rfl (by kernel_rfl) ?_ | refine zX rfl ?_ | refine zY rfl ?_ | refine zC ?_ | with_reducible refine zN ?_ | refine zH ?_ | refine zI ?_ | (with_reducible first | refine zL ?_ | refine zM ?_ | refine zE ?_ | refine zG ?_ | refine zF ?_) | refine zO ?_
        refine tH (fun H => H[0]? = some (⟨27, 10, soE s, 0⟩ : Reg)) 13 rfl ?_
        refine yY 0 rfl rfl (by kernel_rfl) rfl (fun _ => rfl) rfl ?_
        refine xA 1 rfl rfl (by kernel_rfl) rfl (fun _ hG => xo rfl rfl hG rfl rfl) rfl ?_
        refine yY 3 rfl rfl (by kernel_rfl) rfl (fun _ => rfl) rfl ?_
        refine xA 4 rfl rfl (by kernel_rfl) rfl (fun _ hG => xo rfl rfl hG rfl rfl) rfl ?_
        refine yY 6 rfl rfl (by kernel_rfl) rfl (fun _ => rfl) rfl ?_
        refine xA 7 rfl rfl (by kernel_rfl) rfl (fun _ hG => xo rfl rfl hG rfl rfl) rfl ?_
        refine yY 9 rfl rfl (by kernel_rfl) rfl (fun _ => rfl) rfl ?_
        refine xA 10 rfl rfl (by kernel_rfl) rfl (fun _ hG => xo rfl rfl hG rfl rfl) rfl ?_
        refine wV 2 (by kernel_rfl) ?_
        refine sx rfl rfl (ye rfl a7 (.cons (.same rfl) .nil) (fun q hq => by simp at hq; subst hq; exact zJ _ _) rfl rfl) rfl rfl ?_
        refine wV 5 (by kernel_rfl) ?_
        refine sx rfl rfl (yV (t := rwT) (xs := s.runs.flatten) (ys := s.out) rfl rfl rfl rfl (.lst _ _) (by omega) rfl) rfl rfl ?_
        refine wV 8 (by kernel_rfl) ?_
        refine sx rfl rfl (yV (t := rwT) (xs := s.runs.flatten ++ s.out) (ys := s.heap) rfl rfl rfl rfl (.lst _ _) (by rw [List.length_append]; omega) rfl) rfl rfl ?_
        refine wV 11 (by kernel_rfl) ?_
        refine sx rfl rfl (yV (t := rwT) (xs := s.runs.flatten ++ s.out ++ s.heap) (ys := s.dfr) rfl rfl rfl rfl (.lst _ _) (by rw [List.length_append, List.length_append]; omega) rfl) rfl rfl ?_
        refine yY 12 rfl rfl (by kernel_rfl) rfl (fun _ => rfl) rfl ?_
        refine w6 (by kernel_rfl) ?_
        repeat' first | refine zK ?_ | refine zA ?_ | refine zP [] ?_ | (refine isA ?_; refine zg rfl ?_) | (refine isL ?_; refine zW rfl (by kernel_rfl) rfl rfl ?_) | (refine zd rfl ?_; refine zV rfl (by kernel_rfl) rfl rfl ?_) | (refine zv 20 ?_; refine zb rfl (zQ rfl a4 (.cons (.same rfl) .nil) rfl) rfl ?_) | (refine zw 20 rfl ?_; refine zU rfl (by kernel_rfl) rfl (zQ rfl a4 (.cons (.same rfl) .nil) rfl) rfl ?_) | (refine zv 86 ?_; refine zb rfl (zQ rfl a8 (.cons (zt rfl) (.cons (.same rfl) .nil)) rfl) rfl ?_) | (refine zw 86 rfl ?_; refine zU rfl (by kernel_rfl) rfl (zQ rfl a8 (.cons (zt rfl) (.cons (.same rfl) .nil)) rfl) rfl ?_) | (refine v6 (x := .tmp 105) ?_; refine zb rfl (yh rfl rfl (congrArg I hp) (by omega)) rfl ?_) | (refine v5 (x := .tmp 105) rfl ?_; refine zU rfl (by kernel_rfl) rfl (yh rfl rfl (congrArg I hp) (by omega)) rfl ?_) | refine zD ?_ | refine zB _ rfl (by kernel_rfl) ?_ | refine zX rfl ?_ | refine zY rfl ?_ | refine zC ?_ | with_reducible refine zN ?_ | refine zH ?_ | refine zI ?_ | (with_reducible first | refine zL ?_ | refine zM ?_ | refine zE ?_ | refine zG ?_ | refine zF ?_) | refine zO ?_ | refine zk rfl (fun hbr => ?_) (fun hbr => ?_) | (refine wW ?_; refine yX rfl rfl (fun hbr => ?_) (fun hbr => ?_) <;> (fail_if_success (with_reducible (have hx : true = true := hbr))) <;> (fail_if_success (with_reducible (have hx : false = false := hbr)))) | (refine zd rfl ?_; refine yJ rfl rfl rfl rfl (fun hbr => ?_) (fun hbr => ?_) <;> (fail_if_success (with_reducible (have hx : true = true := hbr))) <;> (fail_if_success (with_reducible (have hx : false = false := hbr))))
        all_goals exact yK rfl rfl (congrArg B (by rw [e1]; clear e1 e2 hp; simp only [*, Bool.true_or, Bool.false_or, Bool.or_true, Bool.or_false, Bool.true_and, Bool.false_and, Bool.and_true, Bool.and_false, Bool.not_true, Bool.not_false, cond_true, cond_false]))
      · have e2 := e2 h
        rw [fG s (by omega) (by omega)] at e2
        repeat' first | refine zK ?_ | refine zA ?_ | refine zP [] ?_ | (refine isA ?_; refine zg rfl ?_) | (refine isL ?_; refine zW rfl (by kernel_rfl) rfl rfl ?_) | (refine zd rfl ?_; refine zV rfl (by kernel_rfl) rfl rfl ?_) | refine zD ?_ | refine zB _ rfl (by kernel_rfl) ?_ | refine zX rfl ?_ | refine zY rfl ?_ | refine zC ?_ | with_reducible refine zN ?_ | refine zH ?_ | refine zI ?_ | (with_reducible first | refine zL ?_ | refine zM ?_ | refine zE ?_ | refine zG ?_ | refine zF ?_) | refine zO ?_ | (refine wW ?_; refine yX rfl rfl (fun hbr => ?_) (fun hbr => ?_) <;> (fail_if_success (with_reducible (have hx : true = true := hbr))) <;> (fail_if_success (with_reducible (have hx : false = false := hbr)))) | (refine zd rfl ?_; refine yJ rfl rfl rfl rfl (fun hbr => ?_) (fun hbr => ?_) <;> (fail_if_success (with_reducible (have hx : true = true := hbr))) <;> (fail_if_success (with_reducible (have hx : false = false := hbr))))
        all_goals first
          | exact yK rfl rfl (congrArg B (by rw [e2]; clear e1 e2; simp only [*, Bool.true_or, Bool.false_or, Bool.or_true, Bool.or_false, Bool.true_and, Bool.false_and, Bool.and_true, Bool.and_false, Bool.not_true, Bool.not_false, cond_true, cond_false]))
          | skip
        refine zk rfl (fun q => ?_) (fun q => ?_)
        · repeat' first | refine zK ?_ | refine zA ?_ | refine zP [] ?_ | (refine isA ?_; refine zg rfl ?_) | (refine isL ?_; refine zW rfl (by kernel_rfl) rfl rfl ?_) | (refine zd rfl ?_; refine zV rfl (by kernel_rfl) rfl rfl ?_) | exact yK rfl rfl (congrArg B (by rw [e2]; clear e1 e2; simp only [*, Bool.true_or, Bool.false_or, Bool.or_true, Bool.or_false, Bool.true_and, Bool.false_and, Bool.and_true, Bool.and_false, Bool.not_true, Bool.not_false, cond_true, cond_false])) | refine zD ?_ | refine zB _ rfl (by kernel_rfl) ?_ | refine zX rfl ?_ | refine zY rfl ?_ | refine zC ?_ | with_reducible refine zN ?_ | refine zH ?_ | refine zI ?_ | (with_reducible first | refine zL ?_ | refine zM ?_ | refine zE ?_ | refine zG ?_ | refine zF ?_) | refine zO ?_
        have e3 : vS s = (eqB s.runs.flatten s.input && cond (decide (s.ph = 2)) (vN s) (cond (decide (s.ph = 3)) (uV s) (cond (decide (s.ph = 4)) (uW s) false))) := by
          rw [e2]
          clear e1 e2
          simp only [*, Bool.true_or, Bool.false_or, Bool.or_true, Bool.or_false, Bool.true_and, Bool.false_and, Bool.and_true, Bool.and_false, Bool.not_true, Bool.not_false, cond_true, cond_false]
        clear e1 e2
        repeat' first | refine zK ?_ | refine zA ?_ | refine zP [] ?_ | (refine isA ?_; refine zg rfl ?_) | (refine isL ?_; refine zW rfl (by kernel_rfl) rfl rfl ?_) | (refine zd rfl ?_; refine zV rfl (by kernel_rfl) rfl rfl ?_) | refine zD ?_ | refine zB _ rfl (by kernel_rfl) ?_ | refine zX rfl ?_ | refine zY rfl ?_ | refine zC ?_ | with_reducible refine zN ?_ | refine zH ?_ | refine zI ?_ | (with_reducible first | refine zL ?_ | refine zM ?_ | refine zE ?_ | refine zG ?_ | refine zF ?_) | refine zO ?_
        refine zk rfl (fun h2 => ?_) (fun h2 => ?_)
        · rw [h2, cond_true] at e3
          repeat' first | refine zK ?_ | refine zA ?_ | refine zP [] ?_ | (refine isA ?_; refine zg rfl ?_) | (refine isL ?_; refine zW rfl (by kernel_rfl) rfl rfl ?_) | (refine zd rfl ?_; refine zV rfl (by kernel_rfl) rfl rfl ?_) | refine zD ?_ | refine zB _ rfl (by kernel_rfl) ?_ | refine zX rfl ?_ | refine zY rfl ?_ | refine zC ?_ | with_reducible refine zN ?_ | refine zH ?_ | refine zI ?_ | (with_reducible first | refine zL ?_ | refine zM ?_ | refine zE ?_ | refine zG ?_ | refine zF ?_) | refine zO ?_
          refine yJ rfl rfl rfl rfl (fun h3 => ?_) (fun h3 => ?_)
          · repeat' first | refine zK ?_ | refine zA ?_ | refine zP [] ?_ | (refine isA ?_; refine zg rfl ?_) | (refine isL ?_; refine zW rfl (by kernel_rfl) rfl rfl ?_) | (refine zd rfl ?_; refine zV rfl (by kernel_rfl) rfl rfl ?_) | exact yK rfl rfl (congrArg B (by rw [e3, pL h3, Bool.and_false])) | refine zD ?_ | refine zB _ rfl (by kernel_rfl) ?_ | refine zX rfl ?_ | refine zY rfl ?_ | refine zC ?_ | with_reducible refine zN ?_ | refine zH ?_ | refine zI ?_ | (with_reducible first | refine zL ?_ | refine zM ?_ | refine zE ?_ | refine zG ?_ | refine zF ?_) | refine zO ?_
          · obtain ⟨a, b, rest, hr⟩ := pN h3
            rw [pM hr] at e3
            have ra : s.runs[0]? = some a := by rw [hr]; rfl
            have rb : s.runs[1]? = some b := by rw [hr]; rfl
            have la := g5.at ra
            have lb := g5.at rb
            have lab : a.length + b.length ≤ 10000000 := by rw [hr] at g6; simp only [tot, List.map_cons, List.sum_cons] at g6; omega
            repeat' first | refine zK ?_ | refine zA ?_ | refine zP [] ?_ | (refine isA ?_; refine zg rfl ?_) | (refine isL ?_; refine zW rfl (by kernel_rfl) rfl rfl ?_) | (refine zd rfl ?_; refine zV rfl (by kernel_rfl) rfl rfl ?_) | (refine zv 66 ?_; refine zb rfl (zQ rfl (uC _ _ _) (.cons (.same rfl) (.cons (.same rfl) (.cons (.same rfl) .nil))) rfl) rfl ?_) | (refine zw 66 rfl ?_; refine zU rfl (by kernel_rfl) rfl (zQ rfl (uC _ _ _) (.cons (.same rfl) (.cons (.same rfl) (.cons (.same rfl) .nil))) rfl) rfl ?_) | (refine yB (x := .tmp 138) ?_; refine zb rfl (z5 (t := rnT) (z := a) rfl rfl rfl rfl (Int.natCast_nonneg 0) ra) rfl ?_) | (refine yA (x := .tmp 138) rfl ?_; refine zU rfl (by kernel_rfl) rfl (z5 (t := rnT) (z := a) rfl rfl rfl rfl (Int.natCast_nonneg 0) ra) rfl ?_) | (refine yB (x := .tmp 150) ?_; refine zb rfl (z5 (t := rnT) (z := b) rfl rfl rfl rfl (Int.natCast_nonneg 1) rb) rfl ?_) | (refine yA (x := .tmp 150) rfl ?_; refine zU rfl (by kernel_rfl) rfl (z5 (t := rnT) (z := b) rfl rfl rfl rfl (Int.natCast_nonneg 1) rb) rfl ?_) | refine zD ?_ | refine zB _ rfl (by kernel_rfl) ?_ | refine zX rfl ?_ | refine zY rfl ?_ | refine zC ?_ | with_reducible refine zN ?_ | refine zH ?_ | refine zI ?_ | (with_reducible first | refine zL ?_ | refine zM ?_ | refine zE ?_ | refine zG ?_ | refine zF ?_) | refine zO ?_ | (refine wW ?_; refine yX rfl rfl (fun hbr => ?_) (fun hbr => ?_) <;> (fail_if_success (with_reducible (have hx : true = true := hbr))) <;> (fail_if_success (with_reducible (have hx : false = false := hbr)))) | (refine zd rfl ?_; refine yJ rfl rfl rfl rfl (fun hbr => ?_) (fun hbr => ?_) <;> (fail_if_success (with_reducible (have hx : true = true := hbr))) <;> (fail_if_success (with_reducible (have hx : false = false := hbr))))
            all_goals first
              | exact yK rfl rfl (congrArg B (by rw [e3]; simp only [*, Bool.true_or, Bool.false_or, Bool.or_true, Bool.or_false, Bool.true_and, Bool.false_and, Bool.and_true, Bool.and_false, Bool.not_true, Bool.not_false, cond_true, cond_false]))
              | skip
            refine zk rfl (fun p => ?_) (fun p => ?_)
            · repeat' first | refine zK ?_ | refine zA ?_ | refine zP [] ?_ | (refine isA ?_; refine zg rfl ?_) | (refine isL ?_; refine zW rfl (by kernel_rfl) rfl rfl ?_) | (refine zd rfl ?_; refine zV rfl (by kernel_rfl) rfl rfl ?_) | exact yK rfl rfl (congrArg B (by rw [e3]; simp only [*, Bool.true_or, Bool.false_or, Bool.or_true, Bool.or_false, Bool.true_and, Bool.false_and, Bool.and_true, Bool.and_false, Bool.not_true, Bool.not_false, cond_true, cond_false])) | refine zD ?_ | refine zB _ rfl (by kernel_rfl) ?_ | refine zX rfl ?_ | refine zY rfl ?_ | refine zC ?_ | with_reducible refine zN ?_ | refine zH ?_ | refine zI ?_ | (with_reducible first | refine zL ?_ | refine zM ?_ | refine zE ?_ | refine zG ?_ | refine zF ?_) | refine zO ?_
            have p1 : (!inV s.lp 0 a.length) = false := by assumption
            have p1 : inV s.lp 0 a.length = true := by simpa using p1
            have p2 : inV s.rp 0 b.length = true := by simpa using p
            rw [p1, p2] at e3
            simp only [Bool.true_or, Bool.false_or, Bool.or_true, Bool.or_false, Bool.true_and, Bool.false_and, Bool.and_true, Bool.and_false, Bool.not_true, Bool.not_false, cond_true, cond_false] at e3
            obtain ⟨q1, q2⟩ := xz.1 p1
            obtain ⟨q3, q4⟩ := xz.1 p2
            obtain ⟨i, hi⟩ := Int.eq_ofNat_of_zero_le q1
            obtain ⟨j, hj⟩ := Int.eq_ofNat_of_zero_le q3
            have ei : s.lp.toNat = i := by omega
            have ej : s.rp.toNat = j := by omega
            rw [ei, ej] at e3
            have w1 : IntKind.i64.wrap (s.lp + s.rp) = ((i + j : Nat) : Int) := by rw [hi, hj, IntKind.wrap_i64]; omega
            have li : (a.take i).length ≤ 100000000 := by simp; omega
            have lj : (b.take j).length ≤ 100000000 := by simp; omega
            have m1 := (e9 (a.take i) (b.take j) li lj).frozen (zt rfl)
            have m2 := (e9 a b (by omega) (by omega)).frozen (zt rfl)
            have n2 := tQ a b
            have n1 := tQ (a.take i) (b.take j)
            have x1 := va (mgV (a.take i) (b.take j)) s.out (by omega)
            rw [show xN (mgV (a.take i) (b.take j)) s.out = xN s.out (mgV (a.take i) (b.take j)) from by rw [Bool.eq_iff_iff, vG, vG]; exact eq_comm] at x1
            have x2 := va s.out ((mgV a b).take (i + j)) (by omega)
            generalize mgV (a.take i) (b.take j) = M1 at m1 x1 e3 n1
            generalize mgV a b = M2 at m2 x2 e3 n2
            repeat' first | refine zK ?_ | refine zA ?_ | refine zP [] ?_ | (refine isA ?_; refine zg rfl ?_) | (refine isL ?_; refine zW rfl (by kernel_rfl) rfl rfl ?_) | (refine zd rfl ?_; refine zV rfl (by kernel_rfl) rfl rfl ?_) | (refine v6 (x := .tmp 162) ?_; refine zb rfl (yh rfl rfl (congrArg I hi) (by omega)) rfl ?_) | (refine v5 (x := .tmp 162) rfl ?_; refine zU rfl (by kernel_rfl) rfl (yh rfl rfl (congrArg I hi) (by omega)) rfl ?_) | (refine v6 (x := .tmp 170) ?_; refine zb rfl (yh rfl rfl (congrArg I hj) (by omega)) rfl ?_) | (refine v5 (x := .tmp 170) rfl ?_; refine zU rfl (by kernel_rfl) rfl (yh rfl rfl (congrArg I hj) (by omega)) rfl ?_) | (refine v6 (x := .tmp 187) ?_; refine zb rfl (yh rfl rfl (congrArg I w1) (by omega)) rfl ?_) | (refine v5 (x := .tmp 187) rfl ?_; refine zU rfl (by kernel_rfl) rfl (yh rfl rfl (congrArg I w1) (by omega)) rfl ?_) | (refine yB (x := .tmp 159) ?_; refine zb rfl (z5 (t := rnT) (z := a) rfl rfl rfl rfl (Int.natCast_nonneg 0) ra) rfl ?_) | (refine yA (x := .tmp 159) rfl ?_; refine zU rfl (by kernel_rfl) rfl (z5 (t := rnT) (z := a) rfl rfl rfl rfl (Int.natCast_nonneg 0) ra) rfl ?_) | (refine yB (x := .tmp 167) ?_; refine zb rfl (z5 (t := rnT) (z := b) rfl rfl rfl rfl (Int.natCast_nonneg 1) rb) rfl ?_) | (refine yA (x := .tmp 167) rfl ?_; refine zU rfl (by kernel_rfl) rfl (z5 (t := rnT) (z := b) rfl rfl rfl rfl (Int.natCast_nonneg 1) rb) rfl ?_) | (refine yB (x := .tmp 178) ?_; refine zb rfl (z5 (t := rnT) (z := a) rfl rfl rfl rfl (Int.natCast_nonneg 0) ra) rfl ?_) | (refine yA (x := .tmp 178) rfl ?_; refine zU rfl (by kernel_rfl) rfl (z5 (t := rnT) (z := a) rfl rfl rfl rfl (Int.natCast_nonneg 0) ra) rfl ?_) | (refine yB (x := .tmp 183) ?_; refine zb rfl (z5 (t := rnT) (z := b) rfl rfl rfl rfl (Int.natCast_nonneg 1) rb) rfl ?_) | (refine yA (x := .tmp 183) rfl ?_; refine zU rfl (by kernel_rfl) rfl (z5 (t := rnT) (z := b) rfl rfl rfl rfl (Int.natCast_nonneg 1) rb) rfl ?_) | (refine zv 87 (x := #[.tmp 165, .tmp 173]) ?_; refine zb rfl (zQ rfl m1 (.cons (.same rfl) (.cons (.same rfl) .nil)) rfl) rfl ?_) | (refine zw 87 (x := #[.tmp 165, .tmp 173]) rfl ?_; refine zU rfl (by kernel_rfl) rfl (zQ rfl m1 (.cons (.same rfl) (.cons (.same rfl) .nil)) rfl) rfl ?_) | (refine zv 87 (x := #[.tmp 181, .tmp 186]) ?_; refine zb rfl (zQ rfl m2 (.cons (.same rfl) (.cons (.same rfl) .nil)) rfl) rfl ?_) | (refine zw 87 (x := #[.tmp 181, .tmp 186]) rfl ?_; refine zU rfl (by kernel_rfl) rfl (zQ rfl m2 (.cons (.same rfl) (.cons (.same rfl) .nil)) rfl) rfl ?_) | (refine zv 72 (x := #[.tmp 196, .tmp 198]) ?_; refine zb rfl (zQ rfl x1 (.cons (.same rfl) (.cons (.same rfl) .nil)) rfl) rfl ?_) | (refine zw 72 (x := #[.tmp 196, .tmp 198]) rfl ?_; refine zU rfl (by kernel_rfl) rfl (zQ rfl x1 (.cons (.same rfl) (.cons (.same rfl) .nil)) rfl) rfl ?_) | (refine zv 72 (x := #[.tmp 176, .tmp 193]) ?_; refine zb rfl (zQ rfl x2 (.cons (.same rfl) (.cons (.same rfl) .nil)) rfl) rfl ?_) | (refine zw 72 (x := #[.tmp 176, .tmp 193]) rfl ?_; refine zU rfl (by kernel_rfl) rfl (zQ rfl x2 (.cons (.same rfl) (.cons (.same rfl) .nil)) rfl) rfl ?_) | (refine zv 85 ?_; refine zb rfl (zQ rfl a5 (.cons (.same rfl) .nil) rfl) rfl ?_) | (refine zw 85 rfl ?_; refine zU rfl (by kernel_rfl) rfl (zQ rfl a5 (.cons (.same rfl) .nil) rfl) rfl ?_) | (refine zv 86 ?_; refine zb rfl (zQ rfl a6 (.cons (.same rfl) (.cons (.same rfl) .nil)) rfl) rfl ?_) | (refine zw 86 rfl ?_; refine zU rfl (by kernel_rfl) rfl (zQ rfl a6 (.cons (.same rfl) (.cons (.same rfl) .nil)) rfl) rfl ?_) | refine zD ?_ | refine zB _ rfl (by kernel_rfl) ?_ | refine zX rfl ?_ | refine zY rfl ?_ | refine zC ?_ | with_reducible refine zN ?_ | refine zH ?_ | refine zI ?_ | (with_reducible first | refine zL ?_ | refine zM ?_ | refine zE ?_ | refine zG ?_ | refine zF ?_) | refine zO ?_ | (refine wW ?_; refine yX rfl rfl (fun hbr => ?_) (fun hbr => ?_) <;> (fail_if_success (with_reducible (have hx : true = true := hbr))) <;> (fail_if_success (with_reducible (have hx : false = false := hbr)))) | (refine zd rfl ?_; refine yJ rfl rfl rfl rfl (fun hbr => ?_) (fun hbr => ?_) <;> (fail_if_success (with_reducible (have hx : true = true := hbr))) <;> (fail_if_success (with_reducible (have hx : false = false := hbr))))
            all_goals exact yK rfl rfl (congrArg B (by rw [e3]; clear hi hj q1 q2 q3 q4; simp only [*, Bool.true_or, Bool.false_or, Bool.or_true, Bool.or_false, Bool.true_and, Bool.false_and, Bool.and_true, Bool.and_false, Bool.not_true, Bool.not_false, cond_true, cond_false]))
        · rw [h2, cond_false, vTail] at e3
          repeat' first | refine zK ?_ | refine zA ?_ | refine zP [] ?_ | (refine isA ?_; refine zg rfl ?_) | (refine isL ?_; refine zW rfl (by kernel_rfl) rfl rfl ?_) | (refine zd rfl ?_; refine zV rfl (by kernel_rfl) rfl rfl ?_) | (refine zv 85 ?_; refine zb rfl (zQ rfl a5 (.cons (.same rfl) .nil) rfl) rfl ?_) | (refine zw 85 rfl ?_; refine zU rfl (by kernel_rfl) rfl (zQ rfl a5 (.cons (.same rfl) .nil) rfl) rfl ?_) | (refine zv 86 ?_; refine zb rfl (zQ rfl a6 (.cons (.same rfl) (.cons (.same rfl) .nil)) rfl) rfl ?_) | (refine zw 86 rfl ?_; refine zU rfl (by kernel_rfl) rfl (zQ rfl a6 (.cons (.same rfl) (.cons (.same rfl) .nil)) rfl) rfl ?_) | refine zD ?_ | refine zB _ rfl (by kernel_rfl) ?_ | refine zX rfl ?_ | refine zY rfl ?_ | refine zC ?_ | with_reducible refine zN ?_ | refine zH ?_ | refine zI ?_ | (with_reducible first | refine zL ?_ | refine zM ?_ | refine zE ?_ | refine zG ?_ | refine zF ?_) | refine zO ?_ | (refine wW ?_; refine yX rfl rfl (fun hbr => ?_) (fun hbr => ?_) <;> (fail_if_success (with_reducible (have hx : true = true := hbr))) <;> (fail_if_success (with_reducible (have hx : false = false := hbr)))) | (refine zd rfl ?_; refine yJ rfl rfl rfl rfl (fun hbr => ?_) (fun hbr => ?_) <;> (fail_if_success (with_reducible (have hx : true = true := hbr))) <;> (fail_if_success (with_reducible (have hx : false = false := hbr))))
          all_goals first
            | exact yK rfl rfl (congrArg B (by rw [e3]; simp only [*, Bool.true_or, Bool.false_or, Bool.or_true, Bool.or_false, Bool.true_and, Bool.false_and, Bool.and_true, Bool.and_false, Bool.not_true, Bool.not_false, cond_true, cond_false]))
            | skip
          refine zk rfl (fun q => ?_) (fun q => ?_)
          · repeat' first | refine zK ?_ | refine zA ?_ | refine zP [] ?_ | (refine isA ?_; refine zg rfl ?_) | (refine isL ?_; refine zW rfl (by kernel_rfl) rfl rfl ?_) | (refine zd rfl ?_; refine zV rfl (by kernel_rfl) rfl rfl ?_) | exact yK rfl rfl (congrArg B (by rw [e3]; simp only [Bool.not_eq_true'] at q; rw [q, Bool.false_and])) | refine zD ?_ | refine zB _ rfl (by kernel_rfl) ?_ | refine zX rfl ?_ | refine zY rfl ?_ | refine zC ?_ | with_reducible refine zN ?_ | refine zH ?_ | refine zI ?_ | (with_reducible first | refine zL ?_ | refine zM ?_ | refine zE ?_ | refine zG ?_ | refine zF ?_) | refine zO ?_
          have q2 : eqB s.runs.flatten s.input = true := by simpa using q
          have w1 : IntKind.i64.wrap ((s.input.length : Int) - 1) = (s.input.length : Int) - 1 := by rw [IntKind.wrap_i64]; omega
          rw [q2, ← w1] at e3
          repeat' first | refine zK ?_ | refine zA ?_ | refine zP [] ?_ | (refine isA ?_; refine zg rfl ?_) | (refine isL ?_; refine zW rfl (by kernel_rfl) rfl rfl ?_) | (refine zd rfl ?_; refine zV rfl (by kernel_rfl) rfl rfl ?_) | refine zD ?_ | refine zB _ rfl (by kernel_rfl) ?_ | refine zX rfl ?_ | refine zY rfl ?_ | refine zC ?_ | with_reducible refine zN ?_ | refine zH ?_ | refine zI ?_ | (with_reducible first | refine zL ?_ | refine zM ?_ | refine zE ?_ | refine zG ?_ | refine zF ?_) | refine zO ?_
          refine zk rfl (fun h3 => ?_) (fun h3 => ?_)
          · rw [h3, cond_true] at e3
            repeat' first | refine zK ?_ | refine zA ?_ | refine zP [] ?_ | (refine isA ?_; refine zg rfl ?_) | (refine isL ?_; refine zW rfl (by kernel_rfl) rfl rfl ?_) | (refine zd rfl ?_; refine zV rfl (by kernel_rfl) rfl rfl ?_) | (refine zv 66 ?_; refine zb rfl (zQ rfl (uC _ _ _) (.cons (.same rfl) (.cons (.same rfl) (.cons (.same rfl) .nil))) rfl) rfl ?_) | (refine zw 66 rfl ?_; refine zU rfl (by kernel_rfl) rfl (zQ rfl (uC _ _ _) (.cons (.same rfl) (.cons (.same rfl) (.cons (.same rfl) .nil))) rfl) rfl ?_) | refine zD ?_ | refine zB _ rfl (by kernel_rfl) ?_ | refine zX rfl ?_ | refine zY rfl ?_ | refine zC ?_ | with_reducible refine zN ?_ | refine zH ?_ | refine zI ?_ | (with_reducible first | refine zL ?_ | refine zM ?_ | refine zE ?_ | refine zG ?_ | refine zF ?_) | refine zO ?_ | (refine wW ?_; refine yX rfl rfl (fun hbr => ?_) (fun hbr => ?_) <;> (fail_if_success (with_reducible (have hx : true = true := hbr))) <;> (fail_if_success (with_reducible (have hx : false = false := hbr)))) | (refine zd rfl ?_; refine yJ rfl rfl rfl rfl (fun hbr => ?_) (fun hbr => ?_) <;> (fail_if_success (with_reducible (have hx : true = true := hbr))) <;> (fail_if_success (with_reducible (have hx : false = false := hbr))))
            all_goals exact yK rfl rfl (congrArg B (by rw [e3]; clear w1; simp only [*, Bool.true_or, Bool.false_or, Bool.or_true, Bool.or_false, Bool.true_and, Bool.false_and, Bool.and_true, Bool.and_false, Bool.not_true, Bool.not_false, cond_true, cond_false]))
          · rw [h3, cond_false] at e3
            repeat' first | refine zK ?_ | refine zA ?_ | refine zP [] ?_ | (refine isA ?_; refine zg rfl ?_) | (refine isL ?_; refine zW rfl (by kernel_rfl) rfl rfl ?_) | (refine zd rfl ?_; refine zV rfl (by kernel_rfl) rfl rfl ?_) | refine zD ?_ | refine zB _ rfl (by kernel_rfl) ?_ | refine zX rfl ?_ | refine zY rfl ?_ | refine zC ?_ | with_reducible refine zN ?_ | refine zH ?_ | refine zI ?_ | (with_reducible first | refine zL ?_ | refine zM ?_ | refine zE ?_ | refine zG ?_ | refine zF ?_) | refine zO ?_ | (refine wW ?_; refine yX rfl rfl (fun hbr => ?_) (fun hbr => ?_) <;> (fail_if_success (with_reducible (have hx : true = true := hbr))) <;> (fail_if_success (with_reducible (have hx : false = false := hbr)))) | (refine zd rfl ?_; refine yJ rfl rfl rfl rfl (fun hbr => ?_) (fun hbr => ?_) <;> (fail_if_success (with_reducible (have hx : true = true := hbr))) <;> (fail_if_success (with_reducible (have hx : false = false := hbr))))
            all_goals exact yK rfl rfl (congrArg B (by rw [e3]; clear w1; simp only [*, Bool.true_or, Bool.false_or, Bool.or_true, Bool.or_false, Bool.true_and, Bool.false_and, Bool.and_true, Bool.and_false, Bool.not_true, Bool.not_false, cond_true, cond_false]))
end Go.Proofs.Ytojcojanokhnaaa.Ab
namespace Go.Proofs.Ytojcojanokhnaaa.Ab
open Go.RowKit
def rmV (s : So) : Int := cond (vS s) (uQ s) 0
theorem qr {s : So} (h : vS s = true) (k : s.ph = 3 ∨ s.ph = 4) : 0 ≤ s.lp ∧ s.lp ≤ s.input.length := by
  cases vA.1 h with
  | read b r => rw [r.ph] at k; omega
  | merge b t ph => rw [ph] at k; omega
  | emit b t ph runs lp hi => omega
  | done b t ph runs lp => omega
theorem gf (s : So) (hok : okSo s) : zz Go.Proofs.Try.prog 21 [.agg (soE s)] [] (I (rmV s)) [] false := by
  have g1 := hok.input
  have a1 := nG s hok
  refine zx [2] Go.Proofs.Try.func21 rfl rfl ?_
  simp only [Go.Proofs.Try.ntmps21, List.length_cons, List.length_nil, Nat.reduceAdd, Nat.reduceSub, List.replicate_succ, List.replicate_zero, List.cons_append, List.nil_append]
  repeat' first | refine zK ?_ | refine zA ?_ | refine zP [] ?_ | (refine isA ?_; refine zg rfl ?_) | (refine isL ?_; refine zW rfl (by kernel_rfl) rfl rfl ?_) | (refine zd rfl ?_; refine zV rfl (by kernel_rfl) rfl rfl ?_) | (refine zv 17 ?_; refine zb rfl (zQ rfl a1 (.cons (.same rfl) .nil) rfl) rfl ?_) | (refine zw 17 rfl ?_; refine zU rfl (by kernel_rfl) rfl (zQ rfl a1 (.cons (.same rfl) .nil) rfl) rfl ?_) | refine zD ?_ | refine zB _ rfl (by kernel_rfl) ?_ | refine zX rfl ?_ | refine zY rfl ?_ | refine zC ?_ | with_reducible refine zN ?_ | refine zH ?_ | refine zI ?_ | (with_reducible first | refine zL ?_ | refine zM ?_ | refine zE ?_ | refine zG ?_ | refine zF ?_) | refine zO ?_
  refine zk rfl (fun h => ?_) (fun h => ?_)
  · have h : vS s = false := by simpa using h
    repeat' first | refine zK ?_ | refine zA ?_ | refine zP [] ?_ | (refine isA ?_; refine zg rfl ?_) | (refine isL ?_; refine zW rfl (by kernel_rfl) rfl rfl ?_) | (refine zd rfl ?_; refine zV rfl (by kernel_rfl) rfl rfl ?_) | exact yK rfl rfl (by rw [rmV, h, cond_false]) | refine zD ?_ | refine zB _ rfl (by kernel_rfl) ?_ | refine zX rfl ?_ | refine zY rfl ?_ | refine zC ?_ | with_reducible refine zN ?_ | refine zH ?_ | refine zI ?_ | (with_reducible first | refine zL ?_ | refine zM ?_ | refine zE ?_ | refine zG ?_ | refine zF ?_) | refine zO ?_
  · have h : vS s = true := by simpa using h
    repeat' first | refine zK ?_ | refine zA ?_ | refine zP [] ?_ | (refine isA ?_; refine zg rfl ?_) | (refine isL ?_; refine zW rfl (by kernel_rfl) rfl rfl ?_) | (refine zd rfl ?_; refine zV rfl (by kernel_rfl) rfl rfl ?_) | refine zD ?_ | refine zB _ rfl (by kernel_rfl) ?_ | refine zX rfl ?_ | refine zY rfl ?_ | refine zC ?_ | with_reducible refine zN ?_ | refine zH ?_ | refine zI ?_ | (with_reducible first | refine zL ?_ | refine zM ?_ | refine zE ?_ | refine zG ?_ | refine zF ?_) | refine zO ?_
    refine yX rfl rfl (fun h3 => ?_) (fun h3 => ?_)
    · have q := qr h (Or.inl (of_decide_eq_true h3))
      repeat' first | refine zK ?_ | refine zA ?_ | refine zP [] ?_ | (refine isA ?_; refine zg rfl ?_) | (refine isL ?_; refine zW rfl (by kernel_rfl) rfl rfl ?_) | (refine zd rfl ?_; refine zV rfl (by kernel_rfl) rfl rfl ?_) | exact yK rfl rfl (by rw [rmV, h, cond_true, mH (of_decide_eq_true h3)]; refine congrArg I ?_; rw [IntKind.wrap_i64]; omega) | refine zD ?_ | refine zB _ rfl (by kernel_rfl) ?_ | refine zX rfl ?_ | refine zY rfl ?_ | refine zC ?_ | with_reducible refine zN ?_ | refine zH ?_ | refine zI ?_ | (with_reducible first | refine zL ?_ | refine zM ?_ | refine zE ?_ | refine zG ?_ | refine zF ?_) | refine zO ?_
    · repeat' first | refine zK ?_ | refine zA ?_ | refine zP [] ?_ | (refine isA ?_; refine zg rfl ?_) | (refine isL ?_; refine zW rfl (by kernel_rfl) rfl rfl ?_) | (refine zd rfl ?_; refine zV rfl (by kernel_rfl) rfl rfl ?_) | refine zD ?_ | refine zB _ rfl (by kernel_rfl) ?_ | refine zX rfl ?_ | refine zY rfl ?_ | refine zC ?_ | with_reducible refine zN ?_ | refine zH ?_ | refine zI ?_ | (with_reducible first | refine zL ?_ | refine zM ?_ | refine zE ?_ | refine zG ?_ | refine zF ?_) | refine zO ?_
      refine zk rfl (fun h4 => ?_) (fun h4 => ?_)
      · have q := qr h (Or.inr (of_decide_eq_true h4))
        repeat' first | refine zK ?_ | refine zA ?_ | refine zP [] ?_ | (refine isA ?_; refine zg rfl ?_) | (refine isL ?_; refine zW rfl (by kernel_rfl) rfl rfl ?_) | (refine zd rfl ?_; refine zV rfl (by kernel_rfl) rfl rfl ?_) | exact yK rfl rfl (by rw [rmV, h, cond_true, kh (of_decide_eq_true h4)]; refine congrArg I ?_; rw [IntKind.wrap_i64]; omega) | refine zD ?_ | refine zB _ rfl (by kernel_rfl) ?_ | refine zX rfl ?_ | refine zY rfl ?_ | refine zC ?_ | with_reducible refine zN ?_ | refine zH ?_ | refine zI ?_ | (with_reducible first | refine zL ?_ | refine zM ?_ | refine zE ?_ | refine zG ?_ | refine zF ?_) | refine zO ?_
      · repeat' first | refine zK ?_ | refine zA ?_ | refine zP [] ?_ | (refine isA ?_; refine zg rfl ?_) | (refine isL ?_; refine zW rfl (by kernel_rfl) rfl rfl ?_) | (refine zd rfl ?_; refine zV rfl (by kernel_rfl) rfl rfl ?_) | exact yK rfl rfl (by rw [rmV, h, cond_true, wP (of_decide_eq_false h3) (of_decide_eq_false h4)]) | refine zD ?_ | refine zB _ rfl (by kernel_rfl) ?_ | refine zX rfl ?_ | refine zY rfl ?_ | refine zC ?_ | with_reducible refine zN ?_ | refine zH ?_ | refine zI ?_ | (with_reducible first | refine zL ?_ | refine zM ?_ | refine zE ?_ | refine zG ?_ | refine zF ?_) | refine zO ?_
end Go.Proofs.Ytojcojanokhnaaa.Ab
namespace Go.Proofs.Ytojcojanokhnaaa.Ab
open Go.RowKit
section
variable {P : Program}
def xp (r : Reg) : Reg := { r with mode := 2 }
theorem zz.frozenK {f : FuncId} {cargs : List V} {Rs Rs' K : List Reg} {r r' : V} {al : Bool} (h : zz P f cargs Rs r (Rs' ++ K) al) (hl : Rs'.length = Rs.length) (hN : ∀ q ∈ Rs', NoH q.cells)
    (hm : ∀ (i : Nat) (R R' : Reg), Rs[i]? = some R → Rs'[i]? = some R' → R.mode = 0 → R'.mode = 0) (hp : Pur true (Rs'.map xp ++ K) r r') : zz P f cargs Rs r' Rs' true := by
  intro A φ w xs hok hrel hsz
  refine (h A φ w xs hok hrel hsz).mono ?_
  rintro e w' ⟨x, φ', A', rfl, k1, k2, k3, k4, k5, k6⟩
  have hlen : φ'.length = Rs'.length + K.length := by rw [k1.len, List.length_append]
  have hφl : φ.length = Rs'.length := by rw [hok.len, hl]
  have hget : ∀ (i : Nat) (q : Reg), (Rs'.map xp ++ K)[i]? = some q → q.mode ≤ 1 → Rs'.length ≤ i ∧ (Rs' ++ K)[i]? = some q := fun i q hq hm1 => by
    rcases Nat.lt_or_ge i Rs'.length with hlt | hge
    · rw [List.getElem?_append_left (by simpa using hlt), List.getElem?_map] at hq
      obtain ⟨z, hz⟩ : ∃ z, Rs'[i]? = some z := ⟨_, List.getElem?_eq_getElem hlt⟩
      rw [hz] at hq
      simp only [Option.map_some, Option.some.injEq] at hq
      subst hq
      exact absurd (show (2 : Nat) ≤ 1 from hm1) (by decide)
    · refine ⟨hge, ?_⟩
      rw [List.getElem?_append_right (by simpa using hge), List.length_map] at hq
      rw [List.getElem?_append_right hge]
      exact hq
  have hlive2 : ∀ i b, z4 φ' (Rs'.map xp ++ K) i b → Rs'.length ≤ i ∧ z4 φ' (Rs' ++ K) i b := fun i b ⟨hd, q, q1, q2, q3, q4⟩ =>
    have := hget i q q2 (by omega)
    ⟨this.1, hd, q, q1, this.2, q3, q4⟩
  have kd : HeapOk A' w' φ' (Rs'.map xp ++ K) := ⟨by rw [hlen]; simp, fun i hd q q1 q2 q3 => k1.regs i hd q q1 (hget i q q2 q3).2 q3, fun i j b q1 q2 => k1.inj i j b (hlive2 i b q1).2 (hlive2 j b q2).2, fun i b q1 => k1.apart i b (hlive2 i b q1).2, fun i hd q b q1 q2 q3 q4 => k1.frz i hd q b q1 (hget i q q2 (by omega)).2 q3 q4, k1.low⟩
  have hT : ∀ (i : Nat) (hd : Hd), (φ'.take Rs'.length)[i]? = some hd → i < Rs'.length ∧ φ'[i]? = some hd := fun i hd hi => by
    have hlt : i < (φ'.take Rs'.length).length := (List.getElem?_eq_some_iff.1 hi).1
    rw [List.length_take] at hlt
    rw [List.getElem?_take_of_lt (by omega)] at hi
    exact ⟨by omega, hi⟩
  have hL : ∀ i b, z4 (φ'.take Rs'.length) Rs' i b → i < Rs'.length ∧ z4 φ' (Rs' ++ K) i b := fun i b ⟨hd, q, q1, q2, q3, q4⟩ =>
    have := hT i hd q1
    ⟨this.1, hd, q, this.2, by rw [List.getElem?_append_left this.1]; exact q2, q3, q4⟩
  have hmono : ∀ b, A' b → (A' b ∨ ∃ i, z4 φ' (Rs'.map xp ++ K) i b) ∧ w'.heap[b]? = w'.heap[b]? := fun b hb => ⟨Or.inl hb, rfl⟩
  refine ⟨x, φ'.take Rs'.length, fun b => A' b ∨ ∃ i, z4 φ' (Rs'.map xp ++ K) i b, rfl, ⟨by rw [List.length_take]; omega, fun i hd q q1 q2 q3 => ?_, fun i j b q1 q2 => k1.inj i j b (hL i b q1).2 (hL j b q2).2, fun i b q1 hb => ?_, fun i hd q b q1 q2 q3 q4 => ?_, fun b hb => ?_⟩, ?_, fun b hb => ?_, fun i b q1 => k4 i b (hL i b q1).2, k5, fun i hd q1 => ?_⟩
  · obtain ⟨t1, t2⟩ := hT i hd q1
    have := k1.regs i hd q t2 (by rw [List.getElem?_append_left t1]; exact q2) q3
    obtain ⟨e1, e2⟩ := this
    refine ⟨e1, ?_⟩
    cases hk : hd.blk with
    | none => rw [hk] at e2; exact e2
    | some b =>
      rw [hk] at e2
      obtain ⟨c, f1, f2, f3, f4⟩ := e2
      exact ⟨c, f1, f2, f3, zy.mono hmono (fun _ _ h => h) (xw (hN q (List.mem_of_getElem? q2)) f4)⟩
  · rcases hb with hb | ⟨j, hb⟩
    · exact k1.apart i b (hL i b q1).2 hb
    · obtain ⟨g1, g2⟩ := hlive2 j b hb
      have := k1.inj i j b (hL i b q1).2 g2
      have := (hL i b q1).1
      omega
  · obtain ⟨t1, t2⟩ := hT i hd q1
    exact Or.inl (k1.frz i hd q b t2 (by rw [List.getElem?_append_left t1]; exact q2) q3 q4)
  · rcases hb with hb | ⟨j, hb⟩
    · exact k1.low b hb
    · obtain ⟨g1, hd, q, g2, g3, g4, g5⟩ := hlive2 j b hb
      exact wA k1 g2 g3 (by omega) g5
  · exact Rel.mono (fun b hb => ⟨hb, rfl⟩) (fun j hd hj => by simp at hj) (Pur.rel kd (fun b hb => Or.inl hb) (fun _ j b hb => Or.inr ⟨j, hb⟩) hp k2)
  · rcases hb with hb | ⟨j, hb⟩
    · exact (k3 b hb).imp (fun h => ⟨rfl, h.2⟩) id
    · obtain ⟨g1, g2⟩ := hlive2 j b hb
      rcases k4 j b g2 with h1 | ⟨h0, hd, q, p1, p2, p3, p4⟩
      · exact Or.inr h1
      · exfalso
        have hlt : h0 < Rs'.length := by have := (List.getElem?_eq_some_iff.1 p1).1; omega
        obtain ⟨z, hz⟩ : ∃ z, Rs'[h0]? = some z := ⟨_, List.getElem?_eq_getElem hlt⟩
        have hz0 := hm h0 q z p2 hz p3
        have := k1.inj j h0 b g2 ⟨hd, z, k6 h0 hd p1, by rw [List.getElem?_append_left hlt]; exact hz, hz0, p4⟩
        omega
  · have hlt : i < Rs'.length := by have := (List.getElem?_eq_some_iff.1 q1).1; omega
    rw [List.getElem?_take_of_lt hlt]
    exact k6 i hd q1
end
theorem wR {P : Program} (id : Nat) {ops : Array Oper} {b : Bool} {y : Code} {Q : Exit → St → Prop} {S : St} (T : St) (h : AW P (.region id ops b) (fun e S' => e = .normal ∧ Sub T S') S) (k : AW P y Q T) : AW P (.seq (.region id ops b) y) Q S :=
  zK ⟨fun C φ a w hI => wp_mono (h.out C φ a w hI) fun e a' w' hq => by
    obtain ⟨S', φ1, hI', he, hs⟩ := hq
    subst he
    obtain ⟨φ2, h2⟩ := hs C φ1 a' w' hI'
    exact ⟨T, φ2, h2, k⟩⟩
@[irreducible] def Hold (p : Prop) : Prop := p
theorem xE {p : Prop} (h : Hold p) : p := by unfold Hold at h; exact h
theorem xl {p : Prop} (h : p) : Hold p := by unfold Hold; exact h
end Go.Proofs.Ytojcojanokhnaaa.Ab
namespace Go.Proofs.Ytojcojanokhnaaa.Ab
open Go.RowKit
theorem fj {l : List V} {H : List Reg} {al : Bool} {t : Tmp} {us : List Tmp} {n : Nat} {v r : V} {K : List Reg} (ψ : List Nat) (hv : CellIs l H t n v) (hr : Le ψ r (.tup (v :: us.map fun u => (l[u]?).getD .any))) (hH : HLe ψ K H) (hal : al = true ∨ (tn r = true ∧ ∀ q ∈ K, q.mode ≠ 1 ∧ (q.mode = 0 → vl q.cells))) :
    (Exit.ret = .ret ∨ Exit.ret = .normal) ∧ ∃ v, CellIs l H t n v ∧ Out al r K (.tup (v :: us.map fun u => (l[u]?).getD .any)) ⟨l, H, 0⟩ := ⟨Or.inl rfl, v, hv, t5 (S := ⟨l, H, 0⟩) ψ (fun i hi => absurd hi (Nat.not_lt_zero _)) hH hr hal⟩
def nX (ix : List Nat) (rs : List Rn) : List V := List.zipWith (fun i x => V.sl i 0 x.length) ix rs
theorem kz : ∀ (b : Nat) (rs : List Rn), nC b rs = nX (List.range' b rs.length) rs
  | _, [] => rfl
  | b, x :: rs => by
    show V.sl b 0 x.length :: nC (b + 1) rs = _
    rw [kz (b + 1) rs]
    rfl
theorem ky {ix jx : List Nat} {rs ss : List Rn} (h : ix.length = rs.length) : nX (ix ++ jx) (rs ++ ss) = nX ix rs ++ nX jx ss := by
  unfold nX
  exact List.zipWith_append h
theorem nk {ψ : List Nat} : ∀ {b : Nat} {ix : List Nat} {rs : List Rn}, ix.length = rs.length → (∀ j, j < rs.length → ψ[b + j]? = ix[j]?) → Les ψ (nC b rs) (nX ix rs)
  | b, ix, [], hl, h => by
    rw [List.eq_nil_of_length_eq_zero hl]
    exact zm
  | b, [], x :: rs, hl, h => by simp at hl
  | b, i :: ix, x :: rs, hl, h => by
    refine zZ (zj (by have := h 0 (by simp); simpa using this) rfl) (nk (by simpa using hl) fun j hj => ?_)
    have := h (j + 1) (by simp; omega)
    rw [show b + 1 + j = b + (j + 1) by omega]
    simpa using this
theorem qQ {H : List Reg} {hs ix : List Nat} {K1 : List Reg} {rs : List Rn} (hl : ix.length = rs.length) (hn : (hs ++ ix).Nodup) (h1 : HLes (hs ++ ix) H hs K1) (h2 : ∀ (j i : Nat) (x : Rn), ix[j]? = some i → rs[j]? = some x → H[i]? = some (rwR x)) :
    HLe (hs ++ ix) (K1 ++ nR rwT 78 rs) H := by
  obtain ⟨e1, e2⟩ := h1.get
  refine ⟨by simp [e1, nR, hl], hn, fun i h hi => ?_⟩
  rcases Nat.lt_or_ge i hs.length with hlt | hge
  · rw [List.getElem?_append_left hlt] at hi
    obtain ⟨r, r', q1, q2, q3⟩ := e2 i h hi
    exact ⟨r, r', za q1, q2, q3⟩
  · rw [List.getElem?_append_right hge] at hi
    have hlt := (List.getElem?_eq_some_iff.1 hi).1
    obtain ⟨x, hx⟩ : ∃ z, rs[i - hs.length]? = some z := ⟨_, List.getElem?_eq_getElem (by omega)⟩
    refine ⟨rwR x, rwR x, ?_, h2 _ _ _ hi hx, fun _ => ⟨rfl, rfl, rfl, zT (zJ _ _)⟩⟩
    rw [List.getElem?_append_right (by omega), ← e1]
    exact xG hx
theorem kp (hs ix : List Nat) (j : Nat) : (hs ++ ix)[hs.length + j]? = ix[j]? := by
  rw [List.getElem?_append_right (Nat.le_add_right _ _), Nat.add_sub_cancel_left]
theorem qj (b n : Nat) (s : So) : (soR b s).map (shR n) = soR (b + n) s := by
  have h : ∀ xs : List Rw, shR n (rwR xs) = rwR xs := fun xs => by
    show ({ rwR xs with cells := vm n (rwT.flat xs) } : Reg) = rwR xs
    rw [yH n (yU (zJ rwT xs))]
  rw [List.map_cons, List.map_cons, List.map_cons, List.map_cons, List.map_cons, h, h, h, h, ek]
  simp only [shR, ql, Nat.add_right_comm b 5 n]
theorem qk (b n : Nat) (s : So) : shV n (.agg (soO b s)) = .agg (soO (b + n) s) := by
  simp only [shV, vm, Nat.add_right_comm]
abbrev zS : List V := [wS, I 0, wS, wS, wS, wS, I 0, I 0, I 0, I 0]
abbrev bxS (cs : List V) : Reg := ⟨27, 10, cs, 0⟩
abbrev stH (s t : So) (r : List Rw) : List Reg := bxS (soE s) :: bxS zS :: bxS (soO 4 t) :: rwR r :: soR 4 t
theorem qX (g : Int) : zz Go.Proofs.Try.prog 57 [I g] [] (B (inV g 8 60)) [] false := by
  refine zx [2] Go.Proofs.Try.func57 rfl rfl ?_
  simp only [Go.Proofs.Try.ntmps57, List.length_cons, List.length_nil, Nat.reduceAdd, Nat.reduceSub, List.replicate_succ, List.replicate_zero, List.cons_append, List.nil_append]
  repeat' first | refine zK ?_ | refine zA ?_ | refine zP [] ?_ | (refine isA ?_; refine zg rfl ?_) | (refine isL ?_; refine zW rfl (by kernel_rfl) rfl rfl ?_) | (refine zd rfl ?_; refine zV rfl (by kernel_rfl) rfl rfl ?_) | (refine zv 75 ?_; refine zb rfl (zQ rfl (xx g 8 60) (.cons (.same rfl) (.cons (.same rfl) (.cons (.same rfl) .nil))) rfl) rfl ?_) | (refine zw 75 rfl ?_; refine zU rfl (by kernel_rfl) rfl (zQ rfl (xx g 8 60) (.cons (.same rfl) (.cons (.same rfl) (.cons (.same rfl) .nil))) rfl) rfl ?_) | exact yK rfl rfl rfl | refine zD ?_ | refine zB _ rfl (by kernel_rfl) ?_ | refine zX rfl ?_ | refine zY rfl ?_ | refine zC ?_ | with_reducible refine zN ?_ | refine zH ?_ | refine zI ?_ | (with_reducible first | refine zL ?_ | refine zM ?_ | refine zE ?_ | refine zG ?_ | refine zF ?_) | refine zO ?_
abbrev stL (s : So) (g : Int) (n : Nat) : List V := (.any :: (I g) :: (.ptr 0 0) :: .any :: (.ptr 1 0) :: .any :: .any :: (.ptr 2 0) :: (.sl 3 0 n) :: .any :: .any :: .any :: .any :: .any :: .any :: .any :: .any :: .any :: .any :: .any :: .any :: .any :: .any :: .any :: .any :: .any :: .any :: .any :: .any :: .any :: .any :: .any :: .any :: .any :: .any :: .any :: .any :: .any :: .any :: .any :: .any :: .any :: .any :: .any :: .any :: .any :: .any :: .any :: .any :: .any :: .any :: .any :: .any :: .any :: .any :: .any :: .any :: .any :: .any :: .any :: .any :: .any :: .any :: .any :: .any :: .any :: .any :: .any :: .any :: .any :: .any :: .any :: .any :: .any :: .any :: .any :: .any :: .any :: .any :: .any :: .any :: .any :: .any :: .any :: .any :: .any :: .any :: .any :: .any :: .any :: .any :: .any :: .any :: .any :: .any :: .any :: .any :: .any :: .any :: .any :: .any :: .any :: .any :: .any :: .any :: .any :: .any :: .any :: .any :: .any :: .any :: .any :: .any :: .any :: .any :: .any :: .any :: .any :: .any :: .any :: .any :: .any :: .any :: .any :: .any :: .any :: .any :: .any :: .any :: .any :: .any :: .any :: .any :: .any :: .any :: .any :: .any :: .any :: .any :: .any :: .any :: .any :: .any :: .any :: .any :: .any :: .any :: .any :: .any :: .any :: .any :: .any :: .any :: .any :: .any :: .any :: .any :: .any :: .any :: .any :: .any :: .any :: .any :: .any :: .any :: .any :: .any :: .any :: .any :: .any :: .any :: .any :: .any :: .any :: .any :: .any :: .any :: .any :: .any :: .any :: .any :: .any :: .any :: .any :: .any :: .any :: .any :: .any :: .any :: .any :: .any :: .any :: .any :: .any :: .any :: .any :: .any :: .any :: .any :: .any :: .any :: .any :: .any :: .any :: .any :: .any :: .any :: .any :: .any :: .any :: .any :: .any :: .any :: .any :: .any :: .any :: .any :: .any :: .any :: .any :: .any :: .any :: .any :: .any :: .any :: .any :: .any :: .any :: .any :: .any :: .any :: .any :: .any :: .any :: .any :: .any :: .any :: .any :: .any :: .any :: .any :: .any :: .any :: .any :: .any :: .any :: .any :: .any :: .any :: [])
abbrev stT (s t : So) (g : Int) (r : List Rw) : St := ⟨stL s g r.length, stH s t r, 0⟩
noncomputable def uj : Code := match (Go.Proofs.Try.f13).body with
  | some (.seq _ (.seq _ (.seq _ (.seq _ (.seq m _))))) => m
  | _ => .skip
theorem v8 {a0 a1 a2 a3 a4 a5 a6 a7 a8 x : Reg} {L : List Reg} {j : Nat} (h : L[j]? = some x) : (a0 :: a1 :: a2 :: a3 :: a4 :: a5 :: a6 :: a7 :: a8 :: L)[9 + j]? = some x := by
  rw [Nat.add_comm]; exact h
theorem sU {H : List Reg} {s : So} {h1 h2 h3 h4 h5 b : Nat} (e1 : H[h1]? = some (rwR s.input)) (e2 : H[h2]? = some (rwR s.heap)) (e3 : H[h3]? = some (rwR s.dfr)) (e4 : H[h4]? = some (rwR s.out)) (e5 : H[h5]? = some ⟨84, 1, nC b s.runs, 0⟩) (e6 : ∀ j x, s.runs[j]? = some x → H[b + j]? = some (rwR x)) :
    Pur true H (.agg [.sl h1 0 s.input.length, I s.pos, .sl h2 0 s.heap.length, .sl h3 0 s.dfr.length, .sl h4 0 s.out.length, .sl h5 0 s.runs.length, I s.lp, I s.rp, I s.ph, I s.wr]) (.agg (soE s)) :=
  .agg (.cons (zt e1) (.cons (.same rfl) (.cons (zt e2) (.cons (zt e3) (.cons (zt e4) (.cons (kn e5 e6) (.cons (.same rfl) (.cons (.same rfl) (.cons (.same rfl) (.cons (.same rfl) .nil))))))))))
theorem z8 {a0 a1 a2 a3 a4 a5 a6 a7 a8 x : Reg} {L : List Reg} {j : Nat} (h : L[j]? = some x) : (a0 :: a1 :: a2 :: a3 :: a4 :: a5 :: a6 :: a7 :: a8 :: L)[j + 9]? = some x := h
theorem qo {cs vs : List V} (h : vs.length = cs.length) : y4 cs 0 vs = vs := by
  unfold y4
  rw [List.take_zero, List.nil_append, Nat.zero_add, h, List.drop_length, List.append_nil]
theorem wJ {P : Program} {o : Oper} {ρ : Operand → V} {L : List Reg} {N : Reg} {h t n : Nat} {x y : Operand} {vs : List V} [ht : Ag P t n] (ho : o.op = .store t x y) (hx : ρ x = .ptr h 0) (hL : L.length = h) (hy : ρ y = .agg vs) (hn : vs.length = n) (h1 : ∀ c ∈ vs, uS c = true) (hm : N.mode = 0) (hc : N.cells.length = n) : z9 P o ρ (L ++ [N]) (.k undef) (L ++ [{ N with cells := vs }]) := by
  have := xO (P := P) (o := o) (ρ := ρ) (H := L ++ [N]) ho hx hy hn h1 (zf hL) hm (by omega)
  rw [uu hL, qo (by omega)] at this
  exact this
theorem xT {P : Program} {o : Oper} {ρ : Operand → V} {H : List Reg} {N : Reg} {h t n : Nat} {x : Operand} [ht : Ag P t n] (ho : o.op = .load t x) (hx : ρ x = .ptr h 0) (hH : H[h]? = some N) (hm : Nat.ble N.mode 1 = true) (hc : N.cells.length = n) : z9 P o ρ H (.agg N.cells) H := by
  have := wI (P := P) (o := o) (n := n) (ρ := ρ) (H := H) ho hx hH (Nat.le_of_ble_eq_true hm) (by omega : 0 + n ≤ N.cells.length)
  rw [List.drop_zero, List.take_of_length_le (by omega)] at this
  exact this
theorem wa (r : Rw) : ∀ c ∈ rwE r, uS c = true := fun c hc => by
  simp only [rwE, List.mem_cons, List.not_mem_nil, or_false] at hc
  rcases hc with rfl | rfl | rfl <;> rfl
theorem wT {s t : So} {r : List Rw} {l lT : List V} {H : List Reg} (hs ix : List Nat) (hl9 : hs.length = 9) (hl : ix.length = t.runs.length) (hn : (hs ++ ix).Nodup)
    (h1 : HLes (hs ++ ix) H hs [bxS (soE s), bxS zS, bxS (soO 4 t), rwR r, rwR t.input, rwR t.heap, rwR t.dfr, rwR t.out, ⟨84, 1, nC 9 t.runs, 0⟩]) (h2 : ∀ (j i : Nat) (x : Rn), ix[j]? = some i → t.runs[j]? = some x → H[i]? = some (rwR x))
    (ht : Les (hs ++ ix) lT l) : Sub ⟨lT, stH s t r, 0⟩ ⟨l, H, 0⟩ := by
  have := qQ hl hn h1 h2
  exact tM (T := ⟨lT, stH s t r, 0⟩) (S := ⟨l, H, 0⟩) (hs ++ ix) rfl (fun i hi => absurd hi (Nat.not_lt_zero _)) this ht
theorem xC {rs : List Rn} {e : TypeId} : (nR rwT e rs).length = rs.length := by simp [zh]
theorem y6 {rs : List Rn} {e : TypeId} {N : Reg} : (nR rwT e rs ++ [N]).length = rs.length + 1 := by simp [zh]
theorem y5 {rs : List Rn} {e : TypeId} {N M : Reg} : (nR rwT e rs ++ [N] ++ [M]).length = rs.length + 2 := by simp [zh]
theorem xB {rs : List Rn} {e : TypeId} {N M O : Reg} : (nR rwT e rs ++ [N] ++ [M] ++ [O]).length = rs.length + 3 := by simp [zh]
theorem ix9 {n j i : Nat} (h : (List.range' 9 n)[j]? = some i) : i = 9 + j := by
  rw [List.getElem?_range'] at h
  · have := Option.some.inj h; omega
  · exact Nat.lt_of_not_le fun hn => by rw [List.getElem?_eq_none (by simpa using hn)] at h; cases h
def stQ (s x : So) (g : Int) (r : List Rw) : Exit → St → Prop := fun e S' => e = .normal ∧ Sub (stT s x g r) S'
end Go.Proofs.Ytojcojanokhnaaa.Ab
namespace Go.Proofs.Ytojcojanokhnaaa.Ab
open Go.RowKit
theorem qt {s : So} {r : Rw} (h : yj s ≤ 60) : IntKind.i64.wrap (yj s + y3 r) = yj s + y3 r := by
  have h1 := k8 s
  have h2 := wq r
  rw [IntKind.wrap_i64]; omega
theorem c_put (s : So) (g : Int) (r : Rw) (hok : okSo s) (hb : VBa s) (hm : yj s ≤ 60) (hp : s.ph = 1) (hr : s.input[s.pos.toNat]? = some r) (hf : yj s + y3 r ≤ g) : AW Go.Proofs.Try.prog uj (stQ s (wk s r) g []) (stT s s g []) := by
  obtain ⟨p, hpp, hple⟩ := hb.pos
  have e1 : s.pos.toNat = p := by omega
  rw [e1] at hr
  have hlt := (List.getElem?_eq_some_iff.1 hr).1
  have g1 := hok.heap
  have g2 := hok.dfr
  have g3 := hok.input
  have am := tb s hok
  have ew : IntKind.i64.wrap (s.pos + 1) = s.pos + 1 := by rw [IntKind.wrap_i64]; omega
  have cb := pG r s.out (by have := hok.out; omega)
  repeat' first | (refine zk rfl (fun _ => ?_) (fun h => absurd hp (of_decide_eq_false h))) | refine zK ?_ | refine zA ?_ | refine zP [] ?_ | (refine isA ?_; refine zg rfl ?_) | (refine isL ?_; refine zW rfl (by kernel_rfl) rfl rfl ?_) | (refine zd rfl ?_; refine zV rfl (by kernel_rfl) rfl rfl ?_) | refine zD ?_ | refine zB _ rfl (by kernel_rfl) ?_ | refine zX rfl ?_ | refine zY rfl ?_ | refine zC ?_ | with_reducible refine zN ?_ | refine zH ?_ | refine zI ?_ | (with_reducible first | refine zL ?_ | refine zM ?_ | refine zE ?_ | refine zG ?_ | refine zF ?_) | refine zO ?_
  refine yJ rfl rfl rfl rfl (fun _ => ?_) (fun h => absurd (of_decide_eq_false h) (by omega))
  repeat' first | refine zK ?_ | refine zA ?_ | refine zP [] ?_ | (refine isA ?_; refine zg rfl ?_) | (refine isL ?_; refine zW rfl (by kernel_rfl) rfl rfl ?_) | (refine zd rfl ?_; refine zV rfl (by kernel_rfl) rfl rfl ?_) | (refine zv 19 ?_; refine zb rfl (zQ rfl am (.cons (sU rfl rfl rfl rfl rfl fun j x hx => v8 (xG hx)) .nil) rfl) rfl ?_) | (refine zw 19 rfl ?_; refine zU rfl (by kernel_rfl) rfl (zQ rfl am (.cons (sU rfl rfl rfl rfl rfl fun j x hx => v8 (xG hx)) .nil) rfl) rfl ?_) | (refine yB (x := .tmp 53) ?_; refine zb rfl (zq (j := s.pos) rfl rfl rfl (Nat.zero_le _) rfl rfl (by omega) (by omega)) rfl ?_) | (refine yA (x := .tmp 53) rfl ?_; refine zU rfl (by kernel_rfl) rfl (zq (j := s.pos) rfl rfl rfl (Nat.zero_le _) rfl rfl (by omega) (by omega)) rfl ?_) | (refine xU (x := .tmp 56) ?_; refine zb rfl (yq (T := rwT) (i := 0 + s.pos.toNat) (z := r) rfl rfl rfl (by rw [Nat.zero_add, e1]; exact hr)) rfl ?_) | (refine xa (x := .tmp 56) rfl ?_; refine zU rfl (by kernel_rfl) rfl (yq (T := rwT) (i := 0 + s.pos.toNat) (z := r) rfl rfl rfl (by rw [Nat.zero_add, e1]; exact hr)) rfl ?_) | (refine zv 58 ?_; refine zb rfl (zQ rfl (wt r) (.cons (.same rfl) .nil) rfl) rfl ?_) | (refine zw 58 rfl ?_; refine zU rfl (by kernel_rfl) rfl (zQ rfl (wt r) (.cons (.same rfl) .nil) rfl) rfl ?_) | refine zD ?_ | refine zB _ rfl (by kernel_rfl) ?_ | refine zX rfl ?_ | refine zY rfl ?_ | refine zC ?_ | with_reducible refine zN ?_ | refine zH ?_ | refine zI ?_ | (with_reducible first | refine zL ?_ | refine zM ?_ | refine zE ?_ | refine zG ?_ | refine zF ?_) | refine zO ?_
  refine zk rfl (fun _ => ?_) (fun h => absurd (of_decide_eq_false h) (by rw [qt hm]; omega))
  repeat' first | refine zK ?_ | refine zA ?_ | refine zP [] ?_ | (refine isA ?_; refine zg rfl ?_) | (refine isL ?_; refine zW rfl (by kernel_rfl) rfl rfl ?_) | (refine zd rfl ?_; refine zV rfl (by kernel_rfl) rfl rfl ?_) | (refine yB (x := .tmp 64) ?_; refine zb rfl (zq (j := s.pos) rfl rfl rfl (Nat.zero_le _) rfl rfl (by omega) (by omega)) rfl ?_) | (refine yA (x := .tmp 64) rfl ?_; refine zU rfl (by kernel_rfl) rfl (zq (j := s.pos) rfl rfl rfl (Nat.zero_le _) rfl rfl (by omega) (by omega)) rfl ?_) | (refine xU (x := .tmp 67) ?_; refine zb rfl (yq (T := rwT) (i := 0 + s.pos.toNat) (z := r) rfl rfl rfl (by rw [Nat.zero_add, e1]; exact hr)) rfl ?_) | (refine xa (x := .tmp 67) rfl ?_; refine zU rfl (by kernel_rfl) rfl (yq (T := rwT) (i := 0 + s.pos.toNat) (z := r) rfl rfl rfl (by rw [Nat.zero_add, e1]; exact hr)) rfl ?_) | (refine s5 (x := .tmp 9) ?_; refine zb rfl (wJ rfl rfl rfl rfl rfl (wa r) rfl rfl) rfl ?_) | (refine s4 (x := .tmp 9) rfl ?_; refine zU rfl (by kernel_rfl) rfl (wJ rfl rfl rfl rfl rfl (wa r) rfl rfl) rfl ?_) | (refine xU (x := .tmp 9) ?_; refine zb rfl (xT rfl rfl (zf rfl) rfl rfl) rfl ?_) | (refine xa (x := .tmp 9) rfl ?_; refine zU rfl (by kernel_rfl) rfl (xT rfl rfl (zf rfl) rfl rfl) rfl ?_) | (refine zv 59 ?_; refine zb rfl (zQ rfl cb (.cons (.same rfl) (.cons (zt rfl) .nil)) rfl) rfl ?_) | (refine zw 59 rfl ?_; refine zU rfl (by kernel_rfl) rfl (zQ rfl cb (.cons (.same rfl) (.cons (zt rfl) .nil)) rfl) rfl ?_) | refine zD ?_ | refine zB _ rfl (by kernel_rfl) ?_ | refine zX rfl ?_ | refine zY rfl ?_ | refine zC ?_ | with_reducible refine zN ?_ | refine zH ?_ | refine zI ?_ | (with_reducible first | refine zL ?_ | refine zM ?_ | refine zE ?_ | refine zG ?_ | refine zF ?_) | refine zO ?_
  refine zk rfl (fun h => ?_) (fun h => ?_)
  · repeat' first | (refine isA ?_; refine zb rfl (yO rfl rfl rfl rfl rfl) rfl ?_) | refine zK ?_ | refine zA ?_ | refine zP [] ?_ | (refine isA ?_; refine zg rfl ?_) | (refine isL ?_; refine zW rfl (by kernel_rfl) rfl rfl ?_) | (refine zd rfl ?_; refine zV rfl (by kernel_rfl) rfl rfl ?_) | (refine xU (x := .tmp 9) ?_; refine zb rfl (xT rfl rfl (zf rfl) rfl rfl) rfl ?_) | (refine xa (x := .tmp 9) rfl ?_; refine zU rfl (by kernel_rfl) rfl (xT rfl rfl (zf rfl) rfl rfl) rfl ?_) | (refine xb ?_; refine zb rfl (yV (t := rwT) (xs := s.dfr) (ys := [r]) rfl rfl rfl rfl (.lst _ _) (by simp; omega) rfl) rfl ?_) | (refine xH rfl ?_; refine zU rfl (by kernel_rfl) rfl (yV (t := rwT) (xs := s.dfr) (ys := [r]) rfl rfl rfl rfl (.lst _ _) (by simp; omega) rfl) rfl ?_) | refine zD ?_ | refine zB _ rfl (by kernel_rfl) ?_ | refine zX rfl ?_ | refine zY rfl ?_ | refine zC ?_ | with_reducible refine zN ?_ | refine zH ?_ | refine zI ?_ | (with_reducible first | refine zL ?_ | refine zM ?_ | refine zE ?_ | refine zG ?_ | refine zF ?_) | refine zO ?_
    have e : wk s r = { s with dfr := s.dfr ++ [r], pos := s.pos + 1 } := by unfold wk; rw [h]; rfl
    rw [e]
    refine And.intro rfl (wT [0, 1, 2, 3, 4, 5, s.runs.length + 1 + 9, 7, 8] (List.range' 9 s.runs.length) rfl (by simp) (yy (by simp <;> omega) (fun h hh => by simp at hh; omega)) (by repeat' first | exact HLes.nil | refine HLes.cons rfl rfl rfl rfl (zT (zJ _ _)) ?_ | refine HLes.cons rfl rfl rfl rfl (z6 rfl) ?_ | refine HLes.cons rfl rfl rfl rfl (xf (fun j hj => xr _ 9 _ j hj)) ?_ | refine HLes.cons (z8 (zf xC)) rfl rfl rfl (zT (zJ _ _)) ?_ | refine HLes.cons (z8 (zf y6)) rfl rfl rfl (zT (zJ _ _)) ?_ | refine HLes.cons (z8 (zf y5)) rfl rfl rfl (zT (zJ _ _)) ?_ | refine HLes.cons (z8 (zf xB)) rfl rfl rfl (zT (zJ _ _)) ?_ | refine HLes.cons (z8 (za (zf xC))) rfl rfl rfl (zT (zJ _ _)) ?_ | refine HLes.cons (z8 (za (zf y6))) rfl rfl rfl (zT (zJ _ _)) ?_ | refine HLes.cons (z8 (za (zf y5))) rfl rfl rfl (zT (zJ _ _)) ?_ | refine HLes.cons (z8 (za (zf xB))) rfl rfl rfl (zT (zJ _ _)) ?_ | refine HLes.cons (z8 (za (za (zf xC)))) rfl rfl rfl (zT (zJ _ _)) ?_ | refine HLes.cons (z8 (za (za (zf y6)))) rfl rfl rfl (zT (zJ _ _)) ?_ | refine HLes.cons (z8 (za (za (zf y5)))) rfl rfl rfl (zT (zJ _ _)) ?_ | refine HLes.cons (z8 (za (za (zf xB)))) rfl rfl rfl (zT (zJ _ _)) ?_ | refine HLes.cons rfl rfl rfl rfl (by repeat' first | exact zm | refine zZ ?_ ?_ | exact zo | exact le_refl rfl | exact zj rfl rfl | exact zr rfl | exact zr (congrArg some (by simp [zh] <;> omega)) | exact zj rfl (by simp) | exact zj (congrArg some (by simp [zh] <;> omega)) rfl | exact zj (congrArg some (by simp [zh] <;> omega)) (by simp [yS, endV, yF]) | exact z7 (congrArg _ (by assumption)) | exact z7 (congrArg _ (Eq.symm (by assumption)))) ?_) (fun j i x hi hx => by rw [ix9 hi]; exact v8 (za (za (xG hx)))) (by repeat' first | exact zm | refine zZ ?_ ?_ | exact zo | exact le_refl rfl | exact zj rfl rfl | exact zr rfl | exact zr (congrArg some (by simp [zh] <;> omega)) | exact zj rfl (by simp) | exact zj (congrArg some (by simp [zh] <;> omega)) rfl | exact zj (congrArg some (by simp [zh] <;> omega)) (by simp [yS, endV, yF]) | exact z7 (congrArg _ (by assumption)) | exact z7 (congrArg _ (Eq.symm (by assumption)))))
  · repeat' first | (refine isA ?_; refine zb rfl (yO rfl rfl rfl rfl rfl) rfl ?_) | refine zK ?_ | refine zA ?_ | refine zP [] ?_ | (refine isA ?_; refine zg rfl ?_) | (refine isL ?_; refine zW rfl (by kernel_rfl) rfl rfl ?_) | (refine zd rfl ?_; refine zV rfl (by kernel_rfl) rfl rfl ?_) | (refine xU (x := .tmp 9) ?_; refine zb rfl (xT rfl rfl (zf rfl) rfl rfl) rfl ?_) | (refine xa (x := .tmp 9) rfl ?_; refine zU rfl (by kernel_rfl) rfl (xT rfl rfl (zf rfl) rfl rfl) rfl ?_) | (refine xb ?_; refine zb rfl (yV (t := rwT) (xs := s.heap) (ys := [r]) rfl rfl rfl rfl (.lst _ _) (by simp; omega) rfl) rfl ?_) | (refine xH rfl ?_; refine zU rfl (by kernel_rfl) rfl (yV (t := rwT) (xs := s.heap) (ys := [r]) rfl rfl rfl rfl (.lst _ _) (by simp; omega) rfl) rfl ?_) | refine zD ?_ | refine zB _ rfl (by kernel_rfl) ?_ | refine zX rfl ?_ | refine zY rfl ?_ | refine zC ?_ | with_reducible refine zN ?_ | refine zH ?_ | refine zI ?_ | (with_reducible first | refine zL ?_ | refine zM ?_ | refine zE ?_ | refine zG ?_ | refine zF ?_) | refine zO ?_
    have e : wk s r = { s with heap := s.heap ++ [r], pos := s.pos + 1 } := by unfold wk; rw [h]; rfl
    rw [e]
    refine And.intro rfl (wT [0, 1, 2, 3, 4, s.runs.length + 1 + 9, 6, 7, 8] (List.range' 9 s.runs.length) rfl (by simp) (yy (by simp <;> omega) (fun h hh => by simp at hh; omega)) (by repeat' first | exact HLes.nil | refine HLes.cons rfl rfl rfl rfl (zT (zJ _ _)) ?_ | refine HLes.cons rfl rfl rfl rfl (z6 rfl) ?_ | refine HLes.cons rfl rfl rfl rfl (xf (fun j hj => xr _ 9 _ j hj)) ?_ | refine HLes.cons (z8 (zf xC)) rfl rfl rfl (zT (zJ _ _)) ?_ | refine HLes.cons (z8 (zf y6)) rfl rfl rfl (zT (zJ _ _)) ?_ | refine HLes.cons (z8 (zf y5)) rfl rfl rfl (zT (zJ _ _)) ?_ | refine HLes.cons (z8 (zf xB)) rfl rfl rfl (zT (zJ _ _)) ?_ | refine HLes.cons (z8 (za (zf xC))) rfl rfl rfl (zT (zJ _ _)) ?_ | refine HLes.cons (z8 (za (zf y6))) rfl rfl rfl (zT (zJ _ _)) ?_ | refine HLes.cons (z8 (za (zf y5))) rfl rfl rfl (zT (zJ _ _)) ?_ | refine HLes.cons (z8 (za (zf xB))) rfl rfl rfl (zT (zJ _ _)) ?_ | refine HLes.cons (z8 (za (za (zf xC)))) rfl rfl rfl (zT (zJ _ _)) ?_ | refine HLes.cons (z8 (za (za (zf y6)))) rfl rfl rfl (zT (zJ _ _)) ?_ | refine HLes.cons (z8 (za (za (zf y5)))) rfl rfl rfl (zT (zJ _ _)) ?_ | refine HLes.cons (z8 (za (za (zf xB)))) rfl rfl rfl (zT (zJ _ _)) ?_ | refine HLes.cons rfl rfl rfl rfl (by repeat' first | exact zm | refine zZ ?_ ?_ | exact zo | exact le_refl rfl | exact zj rfl rfl | exact zr rfl | exact zr (congrArg some (by simp [zh] <;> omega)) | exact zj rfl (by simp) | exact zj (congrArg some (by simp [zh] <;> omega)) rfl | exact zj (congrArg some (by simp [zh] <;> omega)) (by simp [yS, endV, yF]) | exact z7 (congrArg _ (by assumption)) | exact z7 (congrArg _ (Eq.symm (by assumption)))) ?_) (fun j i x hi hx => by rw [ix9 hi]; exact v8 (za (za (xG hx)))) (by repeat' first | exact zm | refine zZ ?_ ?_ | exact zo | exact le_refl rfl | exact zj rfl rfl | exact zr rfl | exact zr (congrArg some (by simp [zh] <;> omega)) | exact zj rfl (by simp) | exact zj (congrArg some (by simp [zh] <;> omega)) rfl | exact zj (congrArg some (by simp [zh] <;> omega)) (by simp [yS, endV, yF]) | exact z7 (congrArg _ (by assumption)) | exact z7 (congrArg _ (Eq.symm (by assumption)))))
abbrev T10 (s : So) (g : Int) : St := ⟨(.any :: (I g) :: (.ptr 0 0) :: .any :: (.ptr 1 0) :: .any :: .any :: (.ptr 2 0) :: (.sl 3 0 0) :: .any :: .any :: .any :: .any :: .any :: .any :: .any :: .any :: .any :: .any :: .any :: .any :: .any :: .any :: .any :: .any :: .any :: .any :: .any :: .any :: .any :: .any :: .any :: .any :: .any :: .any :: .any :: .any :: .any :: .any :: .any :: .any :: .any :: (B false) :: .any :: .any :: .any :: .any :: .any :: .any :: .any :: .any :: .any :: .any :: .any :: .any :: .any :: .any :: .any :: .any :: .any :: .any :: .any :: .any :: .any :: .any :: .any :: .any :: .any :: .any :: .any :: .any :: .any :: .any :: .any :: .any :: .any :: .any :: .any :: .any :: .any :: .any :: .any :: .any :: .any :: .any :: .any :: .any :: .any :: .any :: .any :: .any :: .any :: .any :: .any :: .any :: .any :: .any :: .any :: .any :: .any :: .any :: .any :: .any :: .any :: .any :: .any :: .any :: .any :: .any :: .any :: .any :: .any :: .any :: .any :: .any :: .any :: .any :: .any :: .any :: .any :: .any :: .any :: .any :: .any :: .any :: .any :: .any :: .any :: .any :: .any :: .any :: .any :: .any :: .any :: .any :: .any :: .any :: .any :: .any :: .any :: .any :: .any :: .any :: .any :: .any :: .any :: .any :: .any :: .any :: .any :: .any :: .any :: .any :: .any :: .any :: .any :: .any :: .any :: .any :: .any :: .any :: .any :: .any :: .any :: .any :: .any :: .any :: .any :: .any :: .any :: .any :: .any :: .any :: .any :: .any :: .any :: .any :: .any :: .any :: .any :: .any :: .any :: .any :: .any :: .any :: .any :: .any :: .any :: .any :: .any :: .any :: .any :: .any :: .any :: .any :: .any :: .any :: .any :: .any :: .any :: .any :: .any :: .any :: .any :: .any :: .any :: .any :: .any :: .any :: .any :: .any :: .any :: .any :: .any :: .any :: .any :: .any :: .any :: .any :: .any :: .any :: .any :: .any :: .any :: .any :: .any :: .any :: .any :: .any :: .any :: .any :: .any :: .any :: .any :: .any :: .any :: .any :: .any :: .any :: .any :: .any :: .any :: .any :: .any :: .any :: .any :: .any :: .any :: .any :: []), stH s s [], 0⟩
noncomputable def reg10 : Code := match uj with
  | .seq _ (.block _ (.seq _ (.cond _ (.block _ (.seq r _)) _))) => r
  | _ => .skip
theorem t9 (s : So) (g : Int) (hok : okSo s) (hb : VBa s) (hm : yj s ≤ 60) (hf : ue s g) : AW Go.Proofs.Try.prog reg10 (fun e S' => e = .normal ∧ Sub (T10 s g) S') ⟨(.any :: (I g) :: (.ptr 0 0) :: .any :: (.ptr 1 0) :: .any :: .any :: (.ptr 2 0) :: (.sl 3 0 0) :: .any :: .any :: .any :: .any :: .any :: .any :: .any :: .any :: .any :: .any :: .any :: .any :: .any :: .any :: .any :: .any :: .any :: .any :: .any :: .any :: .any :: .any :: .any :: (.ptr 2 8) :: (I s.ph) :: (B (decide (s.ph = 1))) :: (B (decide (s.ph = 1))) :: .any :: .any :: .any :: .any :: .any :: .any :: .any :: .any :: .any :: .any :: .any :: .any :: .any :: .any :: .any :: .any :: .any :: .any :: .any :: .any :: .any :: .any :: .any :: .any :: .any :: .any :: .any :: .any :: .any :: .any :: .any :: .any :: .any :: .any :: .any :: .any :: .any :: .any :: .any :: .any :: .any :: .any :: .any :: .any :: .any :: .any :: .any :: .any :: .any :: .any :: .any :: .any :: .any :: .any :: .any :: .any :: .any :: .any :: .any :: .any :: .any :: .any :: .any :: .any :: .any :: .any :: .any :: .any :: .any :: .any :: .any :: .any :: .any :: .any :: .any :: .any :: .any :: .any :: .any :: .any :: .any :: .any :: .any :: .any :: .any :: .any :: .any :: .any :: .any :: .any :: .any :: .any :: .any :: .any :: .any :: .any :: .any :: .any :: .any :: .any :: .any :: .any :: .any :: .any :: .any :: .any :: .any :: .any :: .any :: .any :: .any :: .any :: .any :: .any :: .any :: .any :: .any :: .any :: .any :: .any :: .any :: .any :: .any :: .any :: .any :: .any :: .any :: .any :: .any :: .any :: .any :: .any :: .any :: .any :: .any :: .any :: .any :: .any :: .any :: .any :: .any :: .any :: .any :: .any :: .any :: .any :: .any :: .any :: .any :: .any :: .any :: .any :: .any :: .any :: .any :: .any :: .any :: .any :: .any :: .any :: .any :: .any :: .any :: .any :: .any :: .any :: .any :: .any :: .any :: .any :: .any :: .any :: .any :: .any :: .any :: .any :: .any :: .any :: .any :: .any :: .any :: .any :: .any :: .any :: .any :: .any :: .any :: .any :: .any :: .any :: .any :: .any :: .any :: .any :: .any :: .any :: .any :: .any :: .any :: .any :: .any :: .any :: .any :: .any :: .any :: .any :: .any :: .any :: .any :: .any :: .any :: .any :: .any :: []), stH s s [], 0⟩ := by
  obtain ⟨p, hpp, hple⟩ := hb.pos
  have e1 : s.pos.toNat = p := by omega
  have g3 := hok.input
  have am := tb s hok
  repeat' first | refine zK ?_ | refine zA ?_ | refine zP [] ?_ | (refine isA ?_; refine zg rfl ?_) | (refine isL ?_; refine zW rfl (by kernel_rfl) rfl rfl ?_) | (refine zd rfl ?_; refine zV rfl (by kernel_rfl) rfl rfl ?_) | refine zD ?_ | refine zB _ rfl (by kernel_rfl) ?_ | refine zX rfl ?_ | refine zY rfl ?_ | refine zC ?_ | with_reducible refine zN ?_ | refine zH ?_ | refine zI ?_ | (with_reducible first | refine zL ?_ | refine zM ?_ | refine zE ?_ | refine zG ?_ | refine zF ?_) | refine zO ?_
  refine yJ rfl rfl rfl rfl (fun h => ?_) (fun h => ?_)
  · have hlt : p < s.input.length := by have := of_decide_eq_true h; omega
    obtain ⟨z, hz⟩ : ∃ z, s.input[p]? = some z := ⟨_, List.getElem?_eq_getElem hlt⟩
    have hfz := hf z (by rw [e1]; exact hz)
    have hd : decide (IntKind.i64.wrap (yj s + y3 z) ≤ g) = false := by rw [qt hm]; exact decide_eq_false (by omega)
    repeat' first | refine zK ?_ | refine zA ?_ | refine zP [] ?_ | (refine isA ?_; refine zg rfl ?_) | (refine isL ?_; refine zW rfl (by kernel_rfl) rfl rfl ?_) | (refine zd rfl ?_; refine zV rfl (by kernel_rfl) rfl rfl ?_) | (refine zv 19 ?_; refine zb rfl (zQ rfl am (.cons (sU rfl rfl rfl rfl rfl fun j x hx => v8 (xG hx)) .nil) rfl) rfl ?_) | (refine zw 19 rfl ?_; refine zU rfl (by kernel_rfl) rfl (zQ rfl am (.cons (sU rfl rfl rfl rfl rfl fun j x hx => v8 (xG hx)) .nil) rfl) rfl ?_) | (refine yB (x := .tmp 53) ?_; refine zb rfl (zq (j := s.pos) rfl rfl rfl (Nat.zero_le _) rfl rfl (by omega) (by omega)) rfl ?_) | (refine yA (x := .tmp 53) rfl ?_; refine zU rfl (by kernel_rfl) rfl (zq (j := s.pos) rfl rfl rfl (Nat.zero_le _) rfl rfl (by omega) (by omega)) rfl ?_) | (refine xU (x := .tmp 56) ?_; refine zb rfl (yq (T := rwT) (i := 0 + s.pos.toNat) (z := z) rfl rfl rfl (by rw [Nat.zero_add, e1]; exact hz)) rfl ?_) | (refine xa (x := .tmp 56) rfl ?_; refine zU rfl (by kernel_rfl) rfl (yq (T := rwT) (i := 0 + s.pos.toNat) (z := z) rfl rfl rfl (by rw [Nat.zero_add, e1]; exact hz)) rfl ?_) | (refine zv 58 ?_; refine zb rfl (zQ rfl (wt z) (.cons (.same rfl) .nil) rfl) rfl ?_) | (refine zw 58 rfl ?_; refine zU rfl (by kernel_rfl) rfl (zQ rfl (wt z) (.cons (.same rfl) .nil) rfl) rfl ?_) | refine zD ?_ | refine zB _ rfl (by kernel_rfl) ?_ | refine zX rfl ?_ | refine zY rfl ?_ | refine zC ?_ | with_reducible refine zN ?_ | refine zH ?_ | refine zI ?_ | (with_reducible first | refine zL ?_ | refine zM ?_ | refine zE ?_ | refine zG ?_ | refine zF ?_) | refine zO ?_
    exact ⟨rfl, wT [0, 1, 2, 3, 4, 5, 6, 7, 8] (List.range' 9 s.runs.length) rfl (by simp) (yy (by simp <;> omega) (fun h hh => by simp at hh; omega)) (by repeat' first | exact HLes.nil | refine HLes.cons rfl rfl rfl rfl (zT (zJ _ _)) ?_ | refine HLes.cons rfl rfl rfl rfl (z6 rfl) ?_ | refine HLes.cons rfl rfl rfl rfl (xf (fun j hj => xr _ 9 _ j hj)) ?_ | refine HLes.cons (z8 (zf xC)) rfl rfl rfl (zT (zJ _ _)) ?_ | refine HLes.cons (z8 (zf y6)) rfl rfl rfl (zT (zJ _ _)) ?_ | refine HLes.cons (z8 (zf y5)) rfl rfl rfl (zT (zJ _ _)) ?_ | refine HLes.cons (z8 (zf xB)) rfl rfl rfl (zT (zJ _ _)) ?_ | refine HLes.cons (z8 (za (zf xC))) rfl rfl rfl (zT (zJ _ _)) ?_ | refine HLes.cons (z8 (za (zf y6))) rfl rfl rfl (zT (zJ _ _)) ?_ | refine HLes.cons (z8 (za (zf y5))) rfl rfl rfl (zT (zJ _ _)) ?_ | refine HLes.cons (z8 (za (zf xB))) rfl rfl rfl (zT (zJ _ _)) ?_ | refine HLes.cons (z8 (za (za (zf xC)))) rfl rfl rfl (zT (zJ _ _)) ?_ | refine HLes.cons (z8 (za (za (zf y6)))) rfl rfl rfl (zT (zJ _ _)) ?_ | refine HLes.cons (z8 (za (za (zf y5)))) rfl rfl rfl (zT (zJ _ _)) ?_ | refine HLes.cons (z8 (za (za (zf xB)))) rfl rfl rfl (zT (zJ _ _)) ?_ | refine HLes.cons rfl rfl rfl rfl (by repeat' first | exact zm | refine zZ ?_ ?_ | exact zo | exact le_refl rfl | exact zj rfl rfl | exact zr rfl | exact zr (congrArg some (by simp [zh] <;> omega)) | exact zj rfl (by simp) | exact zj (congrArg some (by simp [zh] <;> omega)) rfl | exact zj (congrArg some (by simp [zh] <;> omega)) (by simp [yS, endV, yF]) | exact z7 (congrArg _ (by assumption)) | exact z7 (congrArg _ (Eq.symm (by assumption)))) ?_) (fun j i x hi hx => by rw [ix9 hi]; exact v8 (xG hx)) (by repeat' first | exact zm | refine zZ ?_ ?_ | exact zo | exact le_refl rfl | exact zj rfl rfl | exact zr rfl | exact zr (congrArg some (by simp [zh] <;> omega)) | exact zj rfl (by simp) | exact zj (congrArg some (by simp [zh] <;> omega)) rfl | exact zj (congrArg some (by simp [zh] <;> omega)) (by simp [yS, endV, yF]) | exact z7 (congrArg _ (by assumption)) | exact z7 (congrArg _ (Eq.symm (by assumption))))⟩
  · repeat' first | refine zK ?_ | refine zA ?_ | refine zP [] ?_ | (refine isA ?_; refine zg rfl ?_) | (refine isL ?_; refine zW rfl (by kernel_rfl) rfl rfl ?_) | (refine zd rfl ?_; refine zV rfl (by kernel_rfl) rfl rfl ?_) | refine zD ?_ | refine zB _ rfl (by kernel_rfl) ?_ | refine zX rfl ?_ | refine zY rfl ?_ | refine zC ?_ | with_reducible refine zN ?_ | refine zH ?_ | refine zI ?_ | (with_reducible first | refine zL ?_ | refine zM ?_ | refine zE ?_ | refine zG ?_ | refine zF ?_) | refine zO ?_
    exact ⟨rfl, wT [0, 1, 2, 3, 4, 5, 6, 7, 8] (List.range' 9 s.runs.length) rfl (by simp) (yy (by simp <;> omega) (fun h hh => by simp at hh; omega)) (by repeat' first | exact HLes.nil | refine HLes.cons rfl rfl rfl rfl (zT (zJ _ _)) ?_ | refine HLes.cons rfl rfl rfl rfl (z6 rfl) ?_ | refine HLes.cons rfl rfl rfl rfl (xf (fun j hj => xr _ 9 _ j hj)) ?_ | refine HLes.cons (z8 (zf xC)) rfl rfl rfl (zT (zJ _ _)) ?_ | refine HLes.cons (z8 (zf y6)) rfl rfl rfl (zT (zJ _ _)) ?_ | refine HLes.cons (z8 (zf y5)) rfl rfl rfl (zT (zJ _ _)) ?_ | refine HLes.cons (z8 (zf xB)) rfl rfl rfl (zT (zJ _ _)) ?_ | refine HLes.cons (z8 (za (zf xC))) rfl rfl rfl (zT (zJ _ _)) ?_ | refine HLes.cons (z8 (za (zf y6))) rfl rfl rfl (zT (zJ _ _)) ?_ | refine HLes.cons (z8 (za (zf y5))) rfl rfl rfl (zT (zJ _ _)) ?_ | refine HLes.cons (z8 (za (zf xB))) rfl rfl rfl (zT (zJ _ _)) ?_ | refine HLes.cons (z8 (za (za (zf xC)))) rfl rfl rfl (zT (zJ _ _)) ?_ | refine HLes.cons (z8 (za (za (zf y6)))) rfl rfl rfl (zT (zJ _ _)) ?_ | refine HLes.cons (z8 (za (za (zf y5)))) rfl rfl rfl (zT (zJ _ _)) ?_ | refine HLes.cons (z8 (za (za (zf xB)))) rfl rfl rfl (zT (zJ _ _)) ?_ | refine HLes.cons rfl rfl rfl rfl (by repeat' first | exact zm | refine zZ ?_ ?_ | exact zo | exact le_refl rfl | exact zj rfl rfl | exact zr rfl | exact zr (congrArg some (by simp [zh] <;> omega)) | exact zj rfl (by simp) | exact zj (congrArg some (by simp [zh] <;> omega)) rfl | exact zj (congrArg some (by simp [zh] <;> omega)) (by simp [yS, endV, yF]) | exact z7 (congrArg _ (by assumption)) | exact z7 (congrArg _ (Eq.symm (by assumption)))) ?_) (fun j i x hi hx => by rw [ix9 hi]; exact v8 (xG hx)) (by repeat' first | exact zm | refine zZ ?_ ?_ | exact zo | exact le_refl rfl | exact zj rfl rfl | exact zr rfl | exact zr (congrArg some (by simp [zh] <;> omega)) | exact zj rfl (by simp) | exact zj (congrArg some (by simp [zh] <;> omega)) rfl | exact zj (congrArg some (by simp [zh] <;> omega)) (by simp [yS, endV, yF]) | exact z7 (congrArg _ (by assumption)) | exact z7 (congrArg _ (Eq.symm (by assumption))))⟩
theorem c_pop (s : So) (g : Int) (k : Nat) (r : Rw) (hok : okSo s) (hb : VBa s) (hm : yj s ≤ 60) (hp : s.ph = 1) (hf : ue s g) (hh : 0 < s.heap.length) (hk : ni s.heap = (k : Nat)) (hr : s.heap[k]? = some r) : AW Go.Proofs.Try.prog uj (stQ s (uR s k r) g []) (stT s s g []) := by
  obtain ⟨p, hpp, hple⟩ := hb.pos
  have e1 : s.pos.toNat = p := by omega
  have hlt := (List.getElem?_eq_some_iff.1 hr).1
  have g1 := hok.heap
  have g2 := hok.dfr
  have g3 := hok.input
  have g4 := hok.out
  have am := tb s hok
  have ai := d2 s.heap (by omega)
  rw [hk] at ai
  repeat' first | (refine zk rfl (fun _ => ?_) (fun h => absurd hp (of_decide_eq_false h))) | (refine wR 10 (T10 s g) (xE ?_) ?_) | (refine yX rfl rfl (fun h => absurd (of_decide_eq_true h) (by omega)) (fun _ => ?_)) | (refine zk rfl (fun _ => ?_) (fun h => absurd (of_decide_eq_false h) (by omega))) | (refine isA ?_; refine zb rfl (yO rfl rfl rfl rfl rfl) rfl ?_) | refine zK ?_ | refine zA ?_ | refine zP [6] ?_ | (refine isA ?_; refine zg rfl ?_) | (refine isL ?_; refine zW rfl (by kernel_rfl) rfl rfl ?_) | (refine zd rfl ?_; refine zV rfl (by kernel_rfl) rfl rfl ?_) | (refine zv 61 ?_; refine zb rfl (zQ rfl ai (.cons (zt rfl) .nil) rfl) rfl ?_) | (refine zw 61 rfl ?_; refine zU rfl (by kernel_rfl) rfl (zQ rfl ai (.cons (zt rfl) .nil) rfl) rfl ?_) | (refine yB (x := .tmp 114) ?_; refine zb rfl (zq (j := (k : Int)) rfl rfl rfl (Nat.zero_le _) rfl rfl (Int.natCast_nonneg _) (by omega)) rfl ?_) | (refine yA (x := .tmp 114) rfl ?_; refine zU rfl (by kernel_rfl) rfl (zq (j := (k : Int)) rfl rfl rfl (Nat.zero_le _) rfl rfl (Int.natCast_nonneg _) (by omega)) rfl ?_) | (refine xU (x := .tmp 116) ?_; refine zb rfl (yq (T := rwT) (i := 0 + k) (z := r) rfl rfl rfl (by rw [Nat.zero_add]; exact hr)) rfl ?_) | (refine xa (x := .tmp 116) rfl ?_; refine zU rfl (by kernel_rfl) rfl (yq (T := rwT) (i := 0 + k) (z := r) rfl rfl rfl (by rw [Nat.zero_add]; exact hr)) rfl ?_) | (refine s5 (x := .tmp 11) ?_; refine zb rfl (wJ rfl rfl rfl rfl rfl (wa r) rfl rfl) rfl ?_) | (refine s4 (x := .tmp 11) rfl ?_; refine zU rfl (by kernel_rfl) rfl (wJ rfl rfl rfl rfl rfl (wa r) rfl rfl) rfl ?_) | (refine zv 62 ?_; refine zb rfl (ye rfl (mn s.heap k hlt (by omega)) (.cons (zt rfl) (.cons (.same rfl) .nil)) (fun q hq => by simp at hq; subst hq; exact zJ _ _) rfl rfl) rfl ?_) | (refine zw 62 rfl ?_; refine zU rfl (by kernel_rfl) rfl (ye rfl (mn s.heap k hlt (by omega)) (.cons (zt rfl) (.cons (.same rfl) .nil)) (fun q hq => by simp at hq; subst hq; exact zJ _ _) rfl rfl) rfl ?_) | (refine xU (x := .tmp 11) ?_; refine zb rfl (xT rfl rfl (z8 (j := (nR rwT 78 s.runs).length) (za (zf rfl))) rfl rfl) rfl ?_) | (refine xa (x := .tmp 11) rfl ?_; refine zU rfl (by kernel_rfl) rfl (xT rfl rfl (z8 (j := (nR rwT 78 s.runs).length) (za (zf rfl))) rfl rfl) rfl ?_) | (refine xU (x := .tmp 11) ?_; refine zb rfl (xT rfl rfl (z8 (j := (nR rwT 78 s.runs).length) (za (za (zf rfl)))) rfl rfl) rfl ?_) | (refine xa (x := .tmp 11) rfl ?_; refine zU rfl (by kernel_rfl) rfl (xT rfl rfl (z8 (j := (nR rwT 78 s.runs).length) (za (za (zf rfl)))) rfl rfl) rfl ?_) | (refine xb ?_; refine zb rfl (yV (t := rwT) (xs := s.out) (ys := [r]) rfl rfl rfl rfl (.lst _ _) (by simp; omega) rfl) rfl ?_) | (refine xH rfl ?_; refine zU rfl (by kernel_rfl) rfl (yV (t := rwT) (xs := s.out) (ys := [r]) rfl rfl rfl rfl (.lst _ _) (by simp; omega) rfl) rfl ?_) | (refine zv 58 ?_; refine zb rfl (zQ rfl (wt r) (.cons (.same rfl) .nil) rfl) rfl ?_) | (refine zw 58 rfl ?_; refine zU rfl (by kernel_rfl) rfl (zQ rfl (wt r) (.cons (.same rfl) .nil) rfl) rfl ?_) | (refine isL ?_; refine vR rfl (by kernel_rfl) rfl rfl ?_) | refine zD ?_ | refine zB _ rfl (by kernel_rfl) ?_ | refine zX rfl ?_ | refine zY rfl ?_ | refine zC ?_ | with_reducible refine zN ?_ | refine zH ?_ | refine zI ?_ | (with_reducible first | refine zL ?_ | refine zM ?_ | refine zE ?_ | refine zG ?_ | refine zF ?_) | refine zO ?_
  · exact xl (t9 s g hok hb hm hf)
  · refine And.intro rfl (wT [0, 1, 2, 3, 4, s.runs.length + 1 + 9, 6, s.runs.length + 2 + 9, 8] (List.range' 9 s.runs.length) rfl (by simp [uR]) (yy (by simp <;> omega) (fun h hh => by simp at hh; omega)) (by repeat' first | exact HLes.nil | refine HLes.cons rfl rfl rfl rfl (zT (zJ _ _)) ?_ | refine HLes.cons rfl rfl rfl rfl (z6 rfl) ?_ | refine HLes.cons rfl rfl rfl rfl (xf (fun j hj => xr _ 9 _ j hj)) ?_ | refine HLes.cons (z8 (zf xC)) rfl rfl rfl (zT (zJ _ _)) ?_ | refine HLes.cons (z8 (zf y6)) rfl rfl rfl (zT (zJ _ _)) ?_ | refine HLes.cons (z8 (zf y5)) rfl rfl rfl (zT (zJ _ _)) ?_ | refine HLes.cons (z8 (zf xB)) rfl rfl rfl (zT (zJ _ _)) ?_ | refine HLes.cons (z8 (za (zf xC))) rfl rfl rfl (zT (zJ _ _)) ?_ | refine HLes.cons (z8 (za (zf y6))) rfl rfl rfl (zT (zJ _ _)) ?_ | refine HLes.cons (z8 (za (zf y5))) rfl rfl rfl (zT (zJ _ _)) ?_ | refine HLes.cons (z8 (za (zf xB))) rfl rfl rfl (zT (zJ _ _)) ?_ | refine HLes.cons (z8 (za (za (zf xC)))) rfl rfl rfl (zT (zJ _ _)) ?_ | refine HLes.cons (z8 (za (za (zf y6)))) rfl rfl rfl (zT (zJ _ _)) ?_ | refine HLes.cons (z8 (za (za (zf y5)))) rfl rfl rfl (zT (zJ _ _)) ?_ | refine HLes.cons (z8 (za (za (zf xB)))) rfl rfl rfl (zT (zJ _ _)) ?_ | refine HLes.cons rfl rfl rfl rfl (by repeat' first | exact zm | refine zZ ?_ ?_ | exact zo | exact le_refl rfl | exact zj rfl rfl | exact zr rfl | exact zr (congrArg some (by simp [zh] <;> omega)) | exact zj rfl (by simp) | exact zj (congrArg some (by simp [zh] <;> omega)) rfl | exact zj (congrArg some (by simp [zh] <;> omega)) (by simp [yS, endV, yF]) | exact z7 (congrArg _ (by assumption)) | exact z7 (congrArg _ (Eq.symm (by assumption)))) ?_) (fun j i x hi hx => by rw [ix9 hi]; exact v8 (za (za (za (xG hx))))) (by repeat' first | exact zm | refine zZ ?_ ?_ | exact zo | exact le_refl rfl | exact zj rfl rfl | exact zr rfl | exact zr (congrArg some (by simp [zh] <;> omega)) | exact zj rfl (by simp) | exact zj (congrArg some (by simp [zh] <;> omega)) rfl | exact zj (congrArg some (by simp [zh] <;> omega)) (by simp [yS, endV, yF]) | exact z7 (congrArg _ (by assumption)) | exact z7 (congrArg _ (Eq.symm (by assumption)))))
end Go.Proofs.Ytojcojanokhnaaa.Ab
namespace Go.Proofs.Ytojcojanokhnaaa.Ab
open Go.RowKit
theorem ap_c {o : Oper} {ρ : Operand → V} {H : List Reg} {h hz : Nat} {v : V} {s x : Operand} {cells : List V} (ho : o.op = .call { callee := .builtin .append, args := #[s, x], argTypes := #[25, 25] })
    (hs : ρ s = .sl h 0 cells.length) (hH : H[h]? = some ⟨84, 1, cells, 0⟩) (hx : ρ x = .sl hz 0 1) (hzz : H[hz]? = some ⟨84, 1, [v], 0⟩) (hv : uS v = true) (hl : cells.length ≤ 100000000) :
    z9 Go.Proofs.Try.prog o ρ H (.sl H.length 0 (cells.length + 1)) (H.set h ⟨84, 1, cells, 2⟩ ++ [⟨84, 1, cells ++ [v], 0⟩]) := by
  have hsrc : Src H (ρ x) 1 [v] := by
    rw [hx]
    exact Src.sl (H := H) (off := 0) (m := 1) (r := ⟨84, 1, [v], 0⟩) hzz (Nat.zero_le _) (Nat.le_refl _)
  have := vI (P := Go.Proofs.Try.prog) (ρ := ρ) (ty := 25) (m := 1) ho hs hH rfl rfl rfl (by show cells.length * 1 ≤ cells.length; omega) hsrc rfl (fun c hc => by simp at hc; subst hc; exact hv) (by omega) (by simp only [maxLen]; omega)
  have e1 : (⟨84, 1, cells, 0⟩ : Reg).cells.take (cells.length * 1) = cells := by
    show cells.take _ = _
    rw [List.take_of_length_le (by omega)]
  rw [e1] at this
  exact this
theorem nH (a0 a1 a3 a4 a5 a6 : Reg) (c0 c1 c2 c3 c6 c7 c8 c9 : V) (out : List Rw) (cells : List V) (n : Nat) (hn : cells.length = n) (L : List Reg) (hl : n ≤ 100000000) :
    zz Go.Proofs.Try.prog 60 [.ptr 2 0] (a0 :: a1 :: bxS [c0, c1, c2, c3, .sl 7 0 out.length, .sl 8 0 n, c6, c7, c8, c9] :: a3 :: a4 :: a5 :: a6 :: rwR out :: ⟨84, 1, cells, 0⟩ :: L) (.tup [])
      (a0 :: a1 :: bxS [c0, c1, c2, c3, wS, .sl ((L ++ [(⟨84, 1, [.sl 7 0 out.length], 0⟩ : Reg)]).length + 9) 0 (n + 1), c6, c7, c8, c9] :: a3 :: a4 :: a5 :: a6 :: rwR out :: ⟨84, 1, cells, 2⟩ :: (L ++ [⟨84, 1, [.sl 7 0 out.length], 0⟩] ++ [⟨84, 1, cells ++ [.sl 7 0 out.length], 0⟩])) true := by
  subst hn
  refine zx [] Go.Proofs.Try.func60 rfl rfl ?_
  simp only [Go.Proofs.Try.ntmps60, List.length_cons, List.length_nil, Nat.reduceAdd, Nat.reduceSub, List.replicate_succ, List.replicate_zero, List.cons_append, List.nil_append]
  repeat' first | refine zK ?_ | refine zA ?_ | (refine isA ?_; refine zg rfl ?_) | (refine isL ?_; refine zW rfl (by kernel_rfl) rfl rfl ?_) | (refine zd rfl ?_; refine zV rfl (by kernel_rfl) rfl rfl ?_) | refine zD ?_ | refine zB _ rfl (by kernel_rfl) ?_ | refine zX rfl ?_ | refine zY rfl ?_ | refine zC ?_ | with_reducible refine zN ?_ | refine zH ?_ | refine zI ?_ | (with_reducible first | refine zL ?_ | refine zM ?_ | refine zE ?_ | refine zG ?_ | refine zF ?_) | refine zO ?_
  refine uN 14 (fun H => H[2]? = some (bxS [c0, c1, c2, c3, .sl 7 0 out.length, .sl 8 0 cells.length, c6, c7, c8, c9])) 15 rfl ?_
  refine yR 0 (Or.inr rfl) rfl rfl (by kernel_rfl) rfl (fun _ => rfl) rfl ?_
  refine yR 1 (Or.inr rfl) rfl rfl (by kernel_rfl) rfl (fun _ => rfl) rfl ?_
  refine yR 2 (Or.inr rfl) rfl rfl (by kernel_rfl) rfl (fun _ => rfl) rfl ?_
  refine yR 3 (Or.inr rfl) rfl rfl (by kernel_rfl) rfl (fun _ => rfl) rfl ?_
  refine ve 4 rfl (by kernel_rfl) rfl (by kernel_rfl) rfl (fun _ hG => xo rfl rfl hG rfl rfl) rfl ?_
  refine yR 5 (Or.inr rfl) rfl rfl (by kernel_rfl) rfl (fun _ => rfl) rfl ?_
  refine yR 6 (Or.inr rfl) rfl rfl (by kernel_rfl) rfl (fun _ => rfl) rfl ?_
  refine yR 7 (Or.inr rfl) rfl rfl (by kernel_rfl) rfl (fun _ => rfl) rfl ?_
  refine ve 8 rfl (by kernel_rfl) rfl (by kernel_rfl) rfl (fun _ hG => xo rfl rfl hG rfl rfl) rfl ?_
  refine yR 9 (Or.inr rfl) rfl rfl (by kernel_rfl) rfl (fun _ => rfl) rfl ?_
  refine xk 10 (by kernel_rfl) rfl rfl rfl (Or.inr rfl) rfl ?_
  refine vD 11 (by kernel_rfl) rfl rfl (ap_c rfl rfl rfl rfl (zf rfl) rfl hl) (Or.inr rfl) rfl ?_
  refine yR 12 (Or.inr rfl) rfl rfl (by kernel_rfl) rfl (fun _ => rfl) rfl ?_
  refine yR 13 (Or.inr rfl) rfl rfl (by kernel_rfl) rfl (fun _ => rfl) rfl ?_
  refine xk 14 (by kernel_rfl) rfl rfl rfl (Or.inl (by kernel_rfl)) rfl ?_
  refine w5 (by kernel_rfl) ?_
  repeat' first | refine zK ?_ | refine zA ?_ | refine zP [] ?_ | (refine isA ?_; refine zg rfl ?_) | (refine isL ?_; refine zW rfl (by kernel_rfl) rfl rfl ?_) | (refine zd rfl ?_; refine zV rfl (by kernel_rfl) rfl rfl ?_) | refine zD ?_ | refine zB _ rfl (by kernel_rfl) ?_ | refine zX rfl ?_ | refine zY rfl ?_ | refine zC ?_ | with_reducible refine zN ?_ | refine zH ?_ | refine zI ?_ | (with_reducible first | refine zL ?_ | refine zM ?_ | refine zE ?_ | refine zG ?_ | refine zF ?_) | refine zO ?_
  exact ez (Or.inr rfl) rfl
theorem su (a0 a1 : Reg) (c0 c1 c2 c3 c4 c6 c7 c8 c9 : V) (h5 o5 n5 : Nat) (L : List Reg) :
    zz Go.Proofs.Try.prog 63 [.ptr 2 0] (a0 :: a1 :: bxS [c0, c1, c2, c3, c4, .sl h5 o5 n5, c6, c7, c8, c9] :: L) (.tup [])
      (a0 :: a1 :: bxS [c0, c1, c2, c3, c4, .sl h5 o5 n5, I 0, I 0, I (cond (decide (n5 = 0)) 4 (cond (decide (n5 = 1)) 3 2)), c9] :: L) true := by
  have e0 : decide (n5 = 0) = decide ((n5 : Int) = 0) := decide_eq_decide.2 (by omega)
  have e1 : decide (n5 = 1) = decide ((n5 : Int) = 1) := decide_eq_decide.2 (by omega)
  rw [e0, e1]
  refine zx [] Go.Proofs.Try.func63 rfl rfl ?_
  simp only [Go.Proofs.Try.ntmps63, List.length_cons, List.length_nil, Nat.reduceAdd, Nat.reduceSub, List.replicate_succ, List.replicate_zero, List.cons_append, List.nil_append]
  repeat' first | refine zK ?_ | refine zA ?_ | refine zP [] ?_ | (refine isA ?_; refine zg rfl ?_) | (refine isL ?_; refine zW rfl (by kernel_rfl) rfl rfl ?_) | (refine zd rfl ?_; refine zV rfl (by kernel_rfl) rfl rfl ?_) | refine zD ?_ | refine zB _ rfl (by kernel_rfl) ?_ | refine zX rfl ?_ | refine zY rfl ?_ | refine zC ?_ | with_reducible refine zN ?_ | refine zH ?_ | refine zI ?_ | (with_reducible first | refine zL ?_ | refine zM ?_ | refine zE ?_ | refine zG ?_ | refine zF ?_) | refine zO ?_ | refine zk rfl (fun hbr => ?_) (fun hbr => ?_)
  all_goals (refine ez (Or.inr rfl) ?_; simp only [*, cond_true, cond_false])
end Go.Proofs.Ytojcojanokhnaaa.Ab
namespace Go.Proofs.Ytojcojanokhnaaa.Ab
open Go.RowKit
theorem pn {ψ hs : List Nat} {rs : List Rn} {z : Rn} {k : Nat} (hψ : ψ = hs ++ (List.range' 9 rs.length ++ [k])) (h9 : hs.length = 9) : Les ψ (nC 9 (rs ++ [z])) (nC 9 rs ++ [.sl k 0 z.length]) := by
  have e : nC 9 rs ++ [.sl k 0 z.length] = nX (List.range' 9 rs.length ++ [k]) (rs ++ [z]) := by
    rw [ky (by simp), kz]; rfl
  rw [e]
  refine nk (by simp) fun j hj => ?_
  rw [hψ, ← h9, kp]
theorem qI {H : List Reg} {rs : List Rn} {z : Rn} {k : Nat} (hR : ∀ j x, rs[j]? = some x → H[9 + j]? = some (rwR x)) (hz : H[k]? = some (rwR z)) : ∀ (j i : Nat) (x : Rn), (List.range' 9 rs.length ++ [k])[j]? = some i → (rs ++ [z])[j]? = some x → H[i]? = some (rwR x) := fun j i x hi hx => by
  rcases Nat.lt_or_ge j rs.length with h | h
  · rw [List.getElem?_append_left (by simpa using h)] at hi
    rw [List.getElem?_append_left h] at hx
    rw [ix9 hi]
    exact hR j x hx
  · rw [List.getElem?_append_right h] at hx
    rw [List.getElem?_append_right (by simpa using h), List.length_range'] at hi
    cases hj : j - rs.length with
    | zero =>
      rw [hj] at hi hx
      cases hi
      cases hx
      exact hz
    | succ q =>
      rw [hj] at hx
      simp at hx
theorem se {hs : List Nat} {n k : Nat} (h1 : (k :: hs).Nodup) (h2 : ∀ h ∈ k :: hs, h < 9 ∨ 9 + n ≤ h) : (hs ++ (List.range' 9 n ++ [k])).Nodup := by
  rw [List.nodup_cons] at h1
  rw [List.nodup_append]
  refine ⟨h1.2, ?_, fun x hx y hy => ?_⟩
  · rw [List.nodup_append]
    refine ⟨List.nodup_range', by simp, fun x hx y hy => ?_⟩
    rw [List.mem_range'_1] at hx
    simp at hy
    have := h2 k (by simp)
    omega
  · rw [List.mem_append, List.mem_range'_1, List.mem_singleton] at hy
    have := h2 x (by simp [hx])
    rcases hy with hy | hy
    · omega
    · rintro rfl
      subst hy
      exact h1.1 hx
theorem dg (s : So) (g : Int) (hok : okSo s) (hb : VBa s) (hm : yj s ≤ 60) (hp : s.ph = 1) (hf : ue s g) (hh : s.heap = []) (hd : 0 < s.dfr.length) : AW Go.Proofs.Try.prog uj (stQ s (yS s) g []) (stT s s g []) := by
  have g2 := hok.dfr
  have g4 := hok.out
  have g5 := hok.runs
  have hh0 : s.heap.length = 0 := by rw [hh]; rfl
  have ae := nH (bxS (soE s)) (bxS zS) (rwR []) (rwR s.input) (rwR s.heap) (rwR s.dfr) (.sl 4 0 s.input.length) (I s.pos) (.sl 5 0 s.heap.length) (.sl 6 0 s.dfr.length) (I s.lp) (I s.rp) (I s.ph) (I s.wr) s.out (nC 9 s.runs) s.runs.length (xJ _ _) (nR rwT 78 s.runs) (by omega)
  repeat' first | (refine zk rfl (fun _ => ?_) (fun h => absurd hp (of_decide_eq_false h))) | (refine wR 10 (T10 s g) (xE ?_) ?_) | (refine yX rfl rfl (fun _ => ?_) (fun h => absurd (of_decide_eq_false h) (by omega))) | (refine zk rfl (fun _ => ?_) (fun h => absurd (of_decide_eq_false h) (by omega))) | refine zK ?_ | refine zA ?_ | refine zP [] ?_ | (refine isA ?_; refine zg rfl ?_) | (refine isL ?_; refine zW rfl (by kernel_rfl) rfl rfl ?_) | (refine zd rfl ?_; refine zV rfl (by kernel_rfl) rfl rfl ?_) | (refine zv 60 ?_; refine zb rfl (yT rfl ae rfl) rfl ?_) | (refine zw 60 rfl ?_; refine zU rfl (by kernel_rfl) rfl (yT rfl ae rfl) rfl ?_) | refine zD ?_ | refine zB _ rfl (by kernel_rfl) ?_ | refine zX rfl ?_ | refine zY rfl ?_ | refine zC ?_ | with_reducible refine zN ?_ | refine zH ?_ | refine zI ?_ | (with_reducible first | refine zL ?_ | refine zM ?_ | refine zE ?_ | refine zG ?_ | refine zF ?_) | refine zO ?_
  · exact xl (t9 s g hok hb hm hf)
  · refine And.intro rfl (Sub.trans (Sub.trans ?_ (uq (l' := _) 78 3 (.rest _) (.cons (.rest _) (.cons (.rest _) (.cons (.cons (.same _) (.cons (.same _) (.cons (.same _) (.cons (.same _) (.cons .nil (.rest _)))))) (.rest _)))))) (uq (l' := _) 78 3 (.rest _) (.cons (.rest _) (.cons (.rest _) (.cons (.cons (.same _) (.cons (.same _) (.cons (.same _) (.cons .nil (.rest _))))) (.rest _))))))
    refine wT [0, 1, 2, 3, 4, 6, s.runs.length + 2 + 9, s.runs.length + 3 + 9, s.runs.length + 1 + 9] (List.range' 9 s.runs.length ++ [7]) rfl (by simp [yS]) (se (by simp <;> omega) (fun h hh => by simp at hh; omega)) ?_ (qI (fun j x hx => v8 (za (za (za (za (xG hx)))))) rfl) (by repeat' first | exact zm | refine zZ ?_ ?_ | exact zo | exact le_refl rfl | exact zj rfl rfl | exact zr rfl | exact zr (congrArg some (by simp [zh] <;> omega)) | exact zj rfl (by simp) | exact zj (congrArg some (by simp [zh] <;> omega)) rfl | exact zj (congrArg some (by simp [zh] <;> omega)) (by simp [yS, endV, yF]) | exact z7 (congrArg _ (by assumption)) | exact z7 (congrArg _ (Eq.symm (by assumption))))
    refine .cons rfl rfl rfl rfl (z6 rfl) (.cons rfl rfl rfl rfl (z6 rfl) (.cons rfl rfl rfl rfl ?_ (.cons rfl rfl rfl rfl (zT (zJ _ _)) (.cons rfl rfl rfl rfl (zT (zJ _ _)) (.cons rfl rfl rfl rfl (zT (zJ _ _)) (.cons (z8 (za (zf y5))) rfl rfl rfl (zT (zJ _ _)) (.cons (z8 (zf xB)) rfl rfl rfl (zT (zJ _ _)) (.cons (z8 (za (za (zf y6)))) rfl rfl rfl (pn rfl rfl) .nil))))))))
    exact (by repeat' first | exact zm | refine zZ ?_ ?_ | exact zo | exact le_refl rfl | exact zj rfl rfl | exact zr rfl | exact zr (congrArg some (by simp [zh] <;> omega)) | exact zj rfl (by simp) | exact zj (congrArg some (by simp [zh] <;> omega)) rfl | exact zj (congrArg some (by simp [zh] <;> omega)) (by simp [yS, endV, yF]) | exact z7 (congrArg _ (by assumption)) | exact z7 (congrArg _ (Eq.symm (by assumption))))
theorem eA (s : So) (g : Int) (hok : okSo s) (hb : VBa s) (hm : yj s ≤ 60) (hp : s.ph = 1) (hf : ue s g) (hh : s.heap = []) (hd : s.dfr = []) : AW Go.Proofs.Try.prog uj (stQ s (yF (wE s)) g []) (stT s s g []) := by
  have g2 := hok.dfr
  have g4 := hok.out
  have g5 := hok.runs
  have hh0 : s.heap.length = 0 := by rw [hh]; rfl
  have hd0 : s.dfr.length = 0 := by rw [hd]; rfl
  rcases Nat.eq_zero_or_pos s.out.length with h0 | h0
  · have e : yF (wE s) = { s with lp := 0, rp := 0, ph := cond (decide (s.runs.length = 0)) 4 (cond (decide (s.runs.length = 1)) 3 2) } := by
      rw [wE, decide_eq_false (by omega), cond_false, yF]
    rw [e]
    have an := su (bxS (soE s)) (bxS zS) (.sl 4 0 s.input.length) (I s.pos) (.sl 5 0 s.heap.length) (.sl 6 0 s.dfr.length) (.sl 7 0 s.out.length) (I s.lp) (I s.rp) (I s.ph) (I s.wr) 8 0 s.runs.length (rwR [] :: soR 4 s)
    repeat' first | (refine zk rfl (fun _ => ?_) (fun h => absurd hp (of_decide_eq_false h))) | (refine wR 10 (T10 s g) (xE ?_) ?_) | (refine yX rfl rfl (fun _ => ?_) (fun h => absurd (of_decide_eq_false h) (by omega))) | (refine zk rfl (fun h => absurd (of_decide_eq_true h) (by omega)) (fun _ => ?_)) | refine zK ?_ | refine zA ?_ | refine zP [] ?_ | (refine isA ?_; refine zg rfl ?_) | (refine isL ?_; refine zW rfl (by kernel_rfl) rfl rfl ?_) | (refine zd rfl ?_; refine zV rfl (by kernel_rfl) rfl rfl ?_) | (refine zv 63 ?_; refine zb rfl (yT rfl an rfl) rfl ?_) | (refine zw 63 rfl ?_; refine zU rfl (by kernel_rfl) rfl (yT rfl an rfl) rfl ?_) | refine zD ?_ | refine zB _ rfl (by kernel_rfl) ?_ | refine zX rfl ?_ | refine zY rfl ?_ | refine zC ?_ | with_reducible refine zN ?_ | refine zH ?_ | refine zI ?_ | (with_reducible first | refine zL ?_ | refine zM ?_ | refine zE ?_ | refine zG ?_ | refine zF ?_) | refine zO ?_
    · exact xl (t9 s g hok hb hm hf)
    · exact And.intro rfl (wT [0, 1, 2, 3, 4, 5, 6, 7, 8] (List.range' 9 s.runs.length) rfl (by simp) (yy (by simp <;> omega) (fun h hh => by simp at hh; omega)) (by repeat' first | exact HLes.nil | refine HLes.cons rfl rfl rfl rfl (zT (zJ _ _)) ?_ | refine HLes.cons rfl rfl rfl rfl (z6 rfl) ?_ | refine HLes.cons rfl rfl rfl rfl (xf (fun j hj => xr _ 9 _ j hj)) ?_ | refine HLes.cons (z8 (zf xC)) rfl rfl rfl (zT (zJ _ _)) ?_ | refine HLes.cons (z8 (zf y6)) rfl rfl rfl (zT (zJ _ _)) ?_ | refine HLes.cons (z8 (zf y5)) rfl rfl rfl (zT (zJ _ _)) ?_ | refine HLes.cons (z8 (zf xB)) rfl rfl rfl (zT (zJ _ _)) ?_ | refine HLes.cons (z8 (za (zf xC))) rfl rfl rfl (zT (zJ _ _)) ?_ | refine HLes.cons (z8 (za (zf y6))) rfl rfl rfl (zT (zJ _ _)) ?_ | refine HLes.cons (z8 (za (zf y5))) rfl rfl rfl (zT (zJ _ _)) ?_ | refine HLes.cons (z8 (za (zf xB))) rfl rfl rfl (zT (zJ _ _)) ?_ | refine HLes.cons (z8 (za (za (zf xC)))) rfl rfl rfl (zT (zJ _ _)) ?_ | refine HLes.cons (z8 (za (za (zf y6)))) rfl rfl rfl (zT (zJ _ _)) ?_ | refine HLes.cons (z8 (za (za (zf y5)))) rfl rfl rfl (zT (zJ _ _)) ?_ | refine HLes.cons (z8 (za (za (zf xB)))) rfl rfl rfl (zT (zJ _ _)) ?_ | refine HLes.cons rfl rfl rfl rfl (by repeat' first | exact zm | refine zZ ?_ ?_ | exact zo | exact le_refl rfl | exact zj rfl rfl | exact zr rfl | exact zr (congrArg some (by simp [zh] <;> omega)) | exact zj rfl (by simp) | exact zj (congrArg some (by simp [zh] <;> omega)) rfl | exact zj (congrArg some (by simp [zh] <;> omega)) (by simp [yS, endV, yF]) | exact z7 (congrArg _ (by assumption)) | exact z7 (congrArg _ (Eq.symm (by assumption)))) ?_) (fun j i x hi hx => by rw [ix9 hi]; exact v8 (xG hx)) (by repeat' first | exact zm | refine zZ ?_ ?_ | exact zo | exact le_refl rfl | exact zj rfl rfl | exact zr rfl | exact zr (congrArg some (by simp [zh] <;> omega)) | exact zj rfl (by simp) | exact zj (congrArg some (by simp [zh] <;> omega)) rfl | exact zj (congrArg some (by simp [zh] <;> omega)) (by simp [yS, endV, yF]) | exact z7 (congrArg _ (by assumption)) | exact z7 (congrArg _ (Eq.symm (by assumption)))))
  · have e : yF (wE s) = { s with runs := s.runs ++ [s.out], out := [], lp := 0, rp := 0, ph := cond (decide (s.runs.length + 1 = 0)) 4 (cond (decide (s.runs.length + 1 = 1)) 3 2) } := by
      rw [wE, decide_eq_true h0, cond_true, yF, endV]
      simp
    rw [e]
    have ae := nH (bxS (soE s)) (bxS zS) (rwR []) (rwR s.input) (rwR s.heap) (rwR s.dfr) (.sl 4 0 s.input.length) (I s.pos) (.sl 5 0 s.heap.length) (.sl 6 0 s.dfr.length) (I s.lp) (I s.rp) (I s.ph) (I s.wr) s.out (nC 9 s.runs) s.runs.length (xJ _ _) (nR rwT 78 s.runs) (by omega)
    repeat' first | (refine zk rfl (fun _ => ?_) (fun h => absurd hp (of_decide_eq_false h))) | (refine wR 10 (T10 s g) (xE ?_) ?_) | (refine yX rfl rfl (fun _ => ?_) (fun h => absurd (of_decide_eq_false h) (by omega))) | (refine zk rfl (fun h => absurd (of_decide_eq_true h) (by omega)) (fun _ => ?_)) | (refine zk rfl (fun _ => ?_) (fun h => absurd (of_decide_eq_false h) (by omega))) | refine zK ?_ | refine zA ?_ | refine zP [] ?_ | (refine isA ?_; refine zg rfl ?_) | (refine isL ?_; refine zW rfl (by kernel_rfl) rfl rfl ?_) | (refine zd rfl ?_; refine zV rfl (by kernel_rfl) rfl rfl ?_) | (refine zv 60 ?_; refine zb rfl (yT rfl ae rfl) rfl ?_) | (refine zw 60 rfl ?_; refine zU rfl (by kernel_rfl) rfl (yT rfl ae rfl) rfl ?_) | (refine zv 63 ?_; refine zb rfl (yT rfl (su _ _ _ _ _ _ _ _ _ _ _ _ _ _ _) rfl) rfl ?_) | (refine zw 63 rfl ?_; refine zU rfl (by kernel_rfl) rfl (yT rfl (su _ _ _ _ _ _ _ _ _ _ _ _ _ _ _) rfl) rfl ?_) | refine zD ?_ | refine zB _ rfl (by kernel_rfl) ?_ | refine zX rfl ?_ | refine zY rfl ?_ | refine zC ?_ | with_reducible refine zN ?_ | refine zH ?_ | refine zI ?_ | (with_reducible first | refine zL ?_ | refine zM ?_ | refine zE ?_ | refine zG ?_ | refine zF ?_) | refine zO ?_
    · exact xl (t9 s g hok hb hm hf)
    · refine And.intro rfl (Sub.trans ?_ (uq (l' := _) 78 3 (.rest _) (.cons (.rest _) (.cons (.rest _) (.cons (.cons (.same _) (.cons (.same _) (.cons (.same _) (.cons (.same _) (.cons .nil (.rest _)))))) (.rest _))))))
      refine wT [0, 1, 2, 3, 4, 5, 6, s.runs.length + 2 + 9, s.runs.length + 1 + 9] (List.range' 9 s.runs.length ++ [7]) rfl (by simp) (se (by simp <;> omega) (fun h hh => by simp at hh; omega)) ?_ (qI (fun j x hx => v8 (za (za (za (xG hx))))) rfl) (by repeat' first | exact zm | refine zZ ?_ ?_ | exact zo | exact le_refl rfl | exact zj rfl rfl | exact zr rfl | exact zr (congrArg some (by simp [zh] <;> omega)) | exact zj rfl (by simp) | exact zj (congrArg some (by simp [zh] <;> omega)) rfl | exact zj (congrArg some (by simp [zh] <;> omega)) (by simp [yS, endV, yF]) | exact z7 (congrArg _ (by assumption)) | exact z7 (congrArg _ (Eq.symm (by assumption))))
      refine .cons rfl rfl rfl rfl (z6 rfl) (.cons rfl rfl rfl rfl (z6 rfl) (.cons rfl rfl rfl rfl ?_ (.cons rfl rfl rfl rfl (zT (zJ _ _)) (.cons rfl rfl rfl rfl (zT (zJ _ _)) (.cons rfl rfl rfl rfl (zT (zJ _ _)) (.cons rfl rfl rfl rfl (zT (zJ _ _)) (.cons (z8 (zf y5)) rfl rfl rfl (zT (zJ _ _)) (.cons (z8 (za (zf y6))) rfl rfl rfl (pn rfl rfl) .nil))))))))
      exact (by repeat' first | exact zm | refine zZ ?_ ?_ | exact zo | exact le_refl rfl | exact zj rfl rfl | exact zr rfl | exact zr (congrArg some (by simp [zh] <;> omega)) | exact zj rfl (by simp) | exact zj (congrArg some (by simp [zh] <;> omega)) rfl | exact zj (congrArg some (by simp [zh] <;> omega)) (by simp [yS, endV, yF]) | exact z7 (congrArg _ (by assumption)) | exact z7 (congrArg _ (Eq.symm (by assumption))))
end Go.Proofs.Ytojcojanokhnaaa.Ab
namespace Go.Proofs.Ytojcojanokhnaaa.Ab
open Go.RowKit
theorem get7 {a0 a1 a2 a3 a4 a5 a6 x : Reg} {L : List Reg} {j : Nat} (h : L[j]? = some x) : (a0 :: a1 :: a2 :: a3 :: a4 :: a5 :: a6 :: L)[7 + j]? = some x := by
  rw [Nat.add_comm]; exact h
theorem ix7 {n j i : Nat} (h : (List.range' 7 n)[j]? = some i) : i = 7 + j := by
  rw [List.getElem?_range'] at h
  · have := Option.some.inj h; omega
  · exact Nat.lt_of_not_le fun hn => by rw [List.getElem?_eq_none (by simpa using hn)] at h; cases h
theorem dx (s x : So) (g : Int) (r : List Rw) (hok : okSo s) (hv : vS s = true) (hp : s.ph = 1) (h : StepV s g x r) : AW Go.Proofs.Try.prog uj (stQ s x g r) (stT s s g []) := by
  have hV := vA.1 hv
  cases hV with
  | read b q =>
    have hm : yj s ≤ 60 := by rw [vE q.ph]; exact q.mem
    cases h with
    | put _ hr hf => exact c_put s g _ hok b hm hp hr hf
    | pop _ hf hh hk hr => exact c_pop s g _ _ hok b hm hp hf hh hk hr
    | swap _ hf hh hd => exact dg s g hok b hm hp hf hh hd
    | close _ hf hh hd => exact eA s g hok b hm hp hf hh hd
    | merged h2 => omega
    | left h2 => omega
    | right h2 => omega
    | emit h2 => omega
  | merge b t ph => omega
  | emit b t ph => omega
  | done b t ph => omega
end Go.Proofs.Ytojcojanokhnaaa.Ab
