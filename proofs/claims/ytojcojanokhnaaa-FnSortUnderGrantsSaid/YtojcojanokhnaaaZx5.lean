/- What the row FnSortUnderGrants leans on, part 6: a walk over abstract values, and contracts proved with it. -/
import Derived.WalkKit
import Derived.Laws.Rows
import Derived.RowKit
import Derived.OrdersHeld
import Derived.Deep.RegionHeld3
import Derived.Deep.Draws
import Derived.BigCall
import Derived.KernelRfl
import Derived.Deep.Slices
import Derived.ChangeArms
import Derived.ChangeShapes
import Derived.WideShapes
import Derived.Laws.StructEq
import Derived.Lib.Overlaps
import Derived.Test.YtojcojanokhnaaaProg
import Derived.Test.YtojcojanokhnaaaZx4
set_option linter.unusedVariables false
set_option linter.unusedSimpArgs false
set_option maxRecDepth 20000
set_option maxHeartbeats 8000000
namespace Go.Proofs.Ytojcojanokhnaaa.Ab
open Go.RowKit
structure Passes (x : Int) (n : Nat) : Prop where
  top : x ≤ ((2 ^ n : Nat) : Int)
  low : n = 0 ∨ ((2 ^ (n - 1) : Nat) : Int) < x
  most : n ≤ 40
theorem tk : ∀ (N : Nat) (x : Int), N ≤ 40 → x ≤ ((2 ^ N : Nat) : Int) → ∃ n, n ≤ N ∧ Passes x n
  | 0, x, _, h => ⟨0, Nat.le_refl _, h, Or.inl rfl, by omega⟩
  | N + 1, x, hN, h => by
    rcases Int.lt_or_le ((2 ^ N : Nat) : Int) x with hlt | hle
    · exact ⟨N + 1, Nat.le_refl _, h, Or.inr (by rw [Nat.add_sub_cancel]; exact hlt), hN⟩
    · obtain ⟨n, h1, h2⟩ := tk N x (by omega) hle
      exact ⟨n, by omega, h2⟩
theorem di {k : Nat} (h : k ≤ 40) : 2 ^ k ≤ 1099511627776 := Nat.pow_le_pow_right (by decide) h
theorem jf {x : Int} {n k : Nat} (h : Passes x n) (hk : k < n) : ((2 ^ k : Nat) : Int) < x := by
  rcases h.low with rfl | h
  · omega
  · have : 2 ^ k ≤ 2 ^ (n - 1) := Nat.pow_le_pow_right (by decide) (by omega)
    omega
theorem fe (x : Int) (n : Nat) (h : Passes x n) : zz Go.Proofs.Try.prog 101 [I x] [] (I n) [] false := by
  have hm := h.most
  refine zw [2] Go.Proofs.Try.func101 rfl rfl ?_
  simp only [Go.Proofs.Try.ntmps101, List.length_cons, List.length_nil, Nat.reduceAdd, Nat.reduceSub, List.replicate_succ, List.replicate_zero, List.cons_append, List.nil_append]
  repeat' first | refine zK ?_ | refine zA ?_ | refine zP [] ?_ | (refine isA ?_; refine zd rfl ?_) | (refine isL ?_; refine zU rfl (by kernel_rfl) rfl rfl ?_) | (refine zb rfl ?_; refine zT rfl (by kernel_rfl) rfl rfl ?_) | refine zD ?_ | refine zB _ rfl (by kernel_rfl) ?_ | refine zV rfl ?_ | refine zW rfl ?_ | refine zC ?_ | with_reducible refine zN ?_ | refine zH ?_ | refine zI ?_ | (with_reducible first | refine zL ?_ | refine zM ?_ | refine zE ?_ | refine zG ?_ | refine zF ?_) | refine zO ?_
  refine z9 (α := { k : Nat // k ≤ n }) (fun k => ⟨[I x, .any, .any, I k.1, I ((2 ^ k.1 : Nat) : Int), .any, .any, .any, .any, .any, .any, .any, .any, .any, .any, .any, .any], [], 0⟩) (fun k => n - k.1) ⟨0, Nat.zero_le _⟩ ?_ ?_
  · exact yp rfl (by repeat' first | exact EqS.nil | refine EqS.any ?_ | refine EqS.same rfl ?_)
  · rintro ⟨k, hk⟩
    have hp := di (show k ≤ 40 by omega)
    have ep : IntKind.i64.wrap (((2 ^ k : Nat) : Int) * 2) = ((2 ^ (k + 1) : Nat) : Int) := by rw [IntKind.wrap_i64, Nat.pow_succ]; omega
    rcases Nat.lt_or_ge k n with hlt | hge
    · have q1 := jf h hlt
      repeat' first | refine zK ?_ | refine zA ?_ | refine zP [] ?_ | (refine isA ?_; refine zd rfl ?_) | (refine isL ?_; refine zU rfl (by kernel_rfl) rfl rfl ?_) | (refine zb rfl ?_; refine zT rfl (by kernel_rfl) rfl rfl ?_) | refine zD ?_ | refine zB _ rfl (by kernel_rfl) ?_ | refine zV rfl ?_ | refine zW rfl ?_ | refine zC ?_ | with_reducible refine zN ?_ | refine zH ?_ | refine zI ?_ | (with_reducible first | refine zL ?_ | refine zM ?_ | refine zE ?_ | refine zG ?_ | refine zF ?_) | refine zO ?_
      refine yW rfl rfl (fun _ => ?_) (fun hb => absurd (of_decide_eq_false hb) (by simp only; omega))
      repeat' first | refine zK ?_ | refine zA ?_ | refine zP [] ?_ | (refine isA ?_; refine zd rfl ?_) | (refine isL ?_; refine zU rfl (by kernel_rfl) rfl rfl ?_) | (refine zb rfl ?_; refine zT rfl (by kernel_rfl) rfl rfl ?_) | refine zD ?_ | refine zB _ rfl (by kernel_rfl) ?_ | refine zV rfl ?_ | refine zW rfl ?_ | refine zC ?_ | with_reducible refine zN ?_ | refine zH ?_ | refine zI ?_ | (with_reducible first | refine zL ?_ | refine zM ?_ | refine zE ?_ | refine zG ?_ | refine zF ?_) | refine zO ?_
      refine zh rfl (fun _ => ?_) (fun hb => absurd (of_decide_eq_false hb) (by simp only; omega))
      repeat' first | refine zK ?_ | refine zA ?_ | refine zP [] ?_ | (refine isA ?_; refine zd rfl ?_) | (refine isL ?_; refine zU rfl (by kernel_rfl) rfl rfl ?_) | (refine zb rfl ?_; refine zT rfl (by kernel_rfl) rfl rfl ?_) | refine zD ?_ | refine zB _ rfl (by kernel_rfl) ?_ | refine zV rfl ?_ | refine zW rfl ?_ | refine zC ?_ | with_reducible refine zN ?_ | refine zH ?_ | refine zI ?_ | (with_reducible first | refine zL ?_ | refine zM ?_ | refine zE ?_ | refine zG ?_ | refine zF ?_) | refine zO ?_
      refine ⟨⟨k + 1, hlt⟩, by simp only; omega, ?_⟩
      exact yp rfl (by
        repeat' first | exact EqS.nil | refine EqS.any ?_ | refine EqS.same rfl ?_ | refine EqS.same (uO hlt (by omega)) ?_ | refine EqS.same (congrArg I ep) ?_)
    · obtain rfl : k = n := by omega
      have q1 := h.top
      repeat' first | refine zK ?_ | refine zA ?_ | refine zP [] ?_ | (refine isA ?_; refine zd rfl ?_) | (refine isL ?_; refine zU rfl (by kernel_rfl) rfl rfl ?_) | (refine zb rfl ?_; refine zT rfl (by kernel_rfl) rfl rfl ?_) | refine zD ?_ | refine zB _ rfl (by kernel_rfl) ?_ | refine zV rfl ?_ | refine zW rfl ?_ | refine zC ?_ | with_reducible refine zN ?_ | refine zH ?_ | refine zI ?_ | (with_reducible first | refine zL ?_ | refine zM ?_ | refine zE ?_ | refine zG ?_ | refine zF ?_) | refine zO ?_
      refine yW rfl rfl (fun hb => absurd (of_decide_eq_true hb) (by simp only; omega)) (fun _ => ?_)
      repeat' first | refine zK ?_ | refine zA ?_ | refine zP [] ?_ | (refine isA ?_; refine zd rfl ?_) | (refine isL ?_; refine zU rfl (by kernel_rfl) rfl rfl ?_) | (refine zb rfl ?_; refine zT rfl (by kernel_rfl) rfl rfl ?_) | exact yG rfl rfl rfl | refine zD ?_ | refine zB _ rfl (by kernel_rfl) ?_ | refine zV rfl ?_ | refine zW rfl ?_ | refine zC ?_ | with_reducible refine zN ?_ | refine zH ?_ | refine zI ?_ | (with_reducible first | refine zL ?_ | refine zM ?_ | refine zE ?_ | refine zG ?_ | refine zF ?_) | refine zO ?_
theorem cr (x : Int) (n : Nat) (h : Passes x n) : zz Go.Proofs.Try.prog 102 [I x] [] (I n) [] false := by
  have hm := h.most
  refine zw [2] Go.Proofs.Try.func102 rfl rfl ?_
  simp only [Go.Proofs.Try.ntmps102, List.length_cons, List.length_nil, Nat.reduceAdd, Nat.reduceSub, List.replicate_succ, List.replicate_zero, List.cons_append, List.nil_append]
  repeat' first | refine zK ?_ | refine zA ?_ | refine zP [] ?_ | (refine isA ?_; refine zd rfl ?_) | (refine isL ?_; refine zU rfl (by kernel_rfl) rfl rfl ?_) | (refine zb rfl ?_; refine zT rfl (by kernel_rfl) rfl rfl ?_) | refine zD ?_ | refine zB _ rfl (by kernel_rfl) ?_ | refine zV rfl ?_ | refine zW rfl ?_ | refine zC ?_ | with_reducible refine zN ?_ | refine zH ?_ | refine zI ?_ | (with_reducible first | refine zL ?_ | refine zM ?_ | refine zE ?_ | refine zG ?_ | refine zF ?_) | refine zO ?_
  refine z9 (α := { k : Nat // k ≤ n }) (fun k => ⟨[I x, .any, .any, I k.1, I ((2 ^ k.1 : Nat) : Int), .any, .any, .any, .any, .any, .any, .any, .any, .any, .any, .any, .any], [], 0⟩) (fun k => n - k.1) ⟨0, Nat.zero_le _⟩ ?_ ?_
  · exact yp rfl (by repeat' first | exact EqS.nil | refine EqS.any ?_ | refine EqS.same rfl ?_)
  · rintro ⟨k, hk⟩
    have hp := di (show k ≤ 40 by omega)
    have ep : IntKind.i64.wrap (((2 ^ k : Nat) : Int) * 2) = ((2 ^ (k + 1) : Nat) : Int) := by rw [IntKind.wrap_i64, Nat.pow_succ]; omega
    rcases Nat.lt_or_ge k n with hlt | hge
    · have q1 := jf h hlt
      repeat' first | refine zK ?_ | refine zA ?_ | refine zP [] ?_ | (refine isA ?_; refine zd rfl ?_) | (refine isL ?_; refine zU rfl (by kernel_rfl) rfl rfl ?_) | (refine zb rfl ?_; refine zT rfl (by kernel_rfl) rfl rfl ?_) | refine zD ?_ | refine zB _ rfl (by kernel_rfl) ?_ | refine zV rfl ?_ | refine zW rfl ?_ | refine zC ?_ | with_reducible refine zN ?_ | refine zH ?_ | refine zI ?_ | (with_reducible first | refine zL ?_ | refine zM ?_ | refine zE ?_ | refine zG ?_ | refine zF ?_) | refine zO ?_
      refine yW rfl rfl (fun _ => ?_) (fun hb => absurd (of_decide_eq_false hb) (by simp only; omega))
      repeat' first | refine zK ?_ | refine zA ?_ | refine zP [] ?_ | (refine isA ?_; refine zd rfl ?_) | (refine isL ?_; refine zU rfl (by kernel_rfl) rfl rfl ?_) | (refine zb rfl ?_; refine zT rfl (by kernel_rfl) rfl rfl ?_) | refine zD ?_ | refine zB _ rfl (by kernel_rfl) ?_ | refine zV rfl ?_ | refine zW rfl ?_ | refine zC ?_ | with_reducible refine zN ?_ | refine zH ?_ | refine zI ?_ | (with_reducible first | refine zL ?_ | refine zM ?_ | refine zE ?_ | refine zG ?_ | refine zF ?_) | refine zO ?_
      refine zh rfl (fun _ => ?_) (fun hb => absurd (of_decide_eq_false hb) (by simp only; omega))
      repeat' first | refine zK ?_ | refine zA ?_ | refine zP [] ?_ | (refine isA ?_; refine zd rfl ?_) | (refine isL ?_; refine zU rfl (by kernel_rfl) rfl rfl ?_) | (refine zb rfl ?_; refine zT rfl (by kernel_rfl) rfl rfl ?_) | refine zD ?_ | refine zB _ rfl (by kernel_rfl) ?_ | refine zV rfl ?_ | refine zW rfl ?_ | refine zC ?_ | with_reducible refine zN ?_ | refine zH ?_ | refine zI ?_ | (with_reducible first | refine zL ?_ | refine zM ?_ | refine zE ?_ | refine zG ?_ | refine zF ?_) | refine zO ?_
      refine ⟨⟨k + 1, hlt⟩, by simp only; omega, ?_⟩
      exact yp rfl (by
        repeat' first | exact EqS.nil | refine EqS.any ?_ | refine EqS.same rfl ?_ | refine EqS.same (uO hlt (by omega)) ?_ | refine EqS.same (congrArg I ep) ?_)
    · obtain rfl : k = n := by omega
      have q1 := h.top
      repeat' first | refine zK ?_ | refine zA ?_ | refine zP [] ?_ | (refine isA ?_; refine zd rfl ?_) | (refine isL ?_; refine zU rfl (by kernel_rfl) rfl rfl ?_) | (refine zb rfl ?_; refine zT rfl (by kernel_rfl) rfl rfl ?_) | refine zD ?_ | refine zB _ rfl (by kernel_rfl) ?_ | refine zV rfl ?_ | refine zW rfl ?_ | refine zC ?_ | with_reducible refine zN ?_ | refine zH ?_ | refine zI ?_ | (with_reducible first | refine zL ?_ | refine zM ?_ | refine zE ?_ | refine zG ?_ | refine zF ?_) | refine zO ?_
      refine yW rfl rfl (fun hb => absurd (of_decide_eq_true hb) (by simp only; omega)) (fun _ => ?_)
      repeat' first | refine zK ?_ | refine zA ?_ | refine zP [] ?_ | (refine isA ?_; refine zd rfl ?_) | (refine isL ?_; refine zU rfl (by kernel_rfl) rfl rfl ?_) | (refine zb rfl ?_; refine zT rfl (by kernel_rfl) rfl rfl ?_) | exact yG rfl rfl rfl | refine zD ?_ | refine zB _ rfl (by kernel_rfl) ?_ | refine zV rfl ?_ | refine zW rfl ?_ | refine zC ?_ | with_reducible refine zN ?_ | refine zH ?_ | refine zI ?_ | (with_reducible first | refine zL ?_ | refine zM ?_ | refine zE ?_ | refine zG ?_ | refine zF ?_) | refine zO ?_
theorem cQ (x : Rw) : rwD x x = true := pH.2 rfl
theorem lm (xs : List Rw) (hl : xs.length ≤ 1000000000) : zz Go.Proofs.Try.prog 16 [rwL xs, rwL xs] [] (B true) [] false := by
  refine zw [4] Go.Proofs.Try.func16 rfl rfl ?_
  simp only [Go.Proofs.Try.ntmps16, List.length_cons, List.length_nil, Nat.reduceAdd, Nat.reduceSub, List.replicate_succ, List.replicate_zero, List.cons_append, List.nil_append]
  repeat' first | (refine isA ?_; refine zc rfl (qh rfl rfl rfl) rfl ?_) | refine zK ?_ | refine zA ?_ | refine zP [] ?_ | (refine isA ?_; refine zd rfl ?_) | (refine isL ?_; refine zU rfl (by kernel_rfl) rfl rfl ?_) | (refine zb rfl ?_; refine zT rfl (by kernel_rfl) rfl rfl ?_) | refine zD ?_ | refine zB _ rfl (by kernel_rfl) ?_ | refine zV rfl ?_ | refine zW rfl ?_ | refine zC ?_ | with_reducible refine zN ?_ | refine zH ?_ | refine zI ?_ | (with_reducible first | refine zL ?_ | refine zM ?_ | refine zE ?_ | refine zG ?_ | refine zF ?_) | refine zO ?_
  refine z9 (α := { i : Nat // i ≤ xs.length }) (fun i => ⟨[rwL xs, rwL xs, .any, .any, .any, I i.1, .any, .any, .any, .any, .any, .any, .any, .any, .any, .any, .any, .any, .any, .any, .any, .any, .any, .any, .any, .any], [], 0⟩) (fun i => xs.length - i.1) ⟨0, Nat.zero_le _⟩ ?_ ?_
  · exact yp rfl (by repeat' first | exact EqS.nil | refine EqS.any ?_ | refine EqS.same rfl ?_)
  · rintro ⟨i, hi⟩
    repeat' first | refine zK ?_ | refine zA ?_ | refine zP [] ?_ | (refine isA ?_; refine zd rfl ?_) | (refine isL ?_; refine zU rfl (by kernel_rfl) rfl rfl ?_) | (refine zb rfl ?_; refine zT rfl (by kernel_rfl) rfl rfl ?_) | refine zD ?_ | refine zB _ rfl (by kernel_rfl) ?_ | refine zV rfl ?_ | refine zW rfl ?_ | refine zC ?_ | with_reducible refine zN ?_ | refine zH ?_ | refine zI ?_ | (with_reducible first | refine zL ?_ | refine zM ?_ | refine zE ?_ | refine zG ?_ | refine zF ?_) | refine zO ?_
    refine zh rfl (fun h => ?_) (fun h => ?_)
    · have hlt : i < xs.length := by simpa using h
      obtain ⟨x, hx⟩ : ∃ z, xs[i]? = some z := ⟨_, List.getElem?_eq_getElem hlt⟩
      repeat' first | refine zK ?_ | refine zA ?_ | refine zP [] ?_ | (refine isA ?_; refine zd rfl ?_) | (refine isL ?_; refine zU rfl (by kernel_rfl) rfl rfl ?_) | (refine zb rfl ?_; refine zT rfl (by kernel_rfl) rfl rfl ?_) | (refine yB (x := .tmp 17) ?_; refine zc rfl (z6 (t := rwT) (z := x) rfl rfl rfl rfl (Int.natCast_nonneg i) hx) rfl ?_) | (refine yA (x := .tmp 17) rfl ?_; refine zY rfl (by kernel_rfl) rfl (z6 (t := rwT) (z := x) rfl rfl rfl rfl (Int.natCast_nonneg i) hx) rfl ?_) | (refine yB (x := .tmp 21) ?_; refine zc rfl (z6 (t := rwT) (z := x) rfl rfl rfl rfl (Int.natCast_nonneg i) hx) rfl ?_) | (refine yA (x := .tmp 21) rfl ?_; refine zY rfl (by kernel_rfl) rfl (z6 (t := rwT) (z := x) rfl rfl rfl rfl (Int.natCast_nonneg i) hx) rfl ?_) | refine zc rfl (t9 rfl rfl rfl) rfl ?_ | refine zY rfl (by kernel_rfl) rfl (t9 rfl rfl rfl) rfl ?_ | refine zD ?_ | refine zB _ rfl (by kernel_rfl) ?_ | refine zV rfl ?_ | refine zW rfl ?_ | refine zC ?_ | with_reducible refine zN ?_ | refine zH ?_ | refine zI ?_ | (with_reducible first | refine zL ?_ | refine zM ?_ | refine zE ?_ | refine zG ?_ | refine zF ?_) | refine zO ?_
      refine zh rfl (fun h1 => absurd h1 (by rw [cQ]; decide)) (fun _ => ?_)
      repeat' first | refine zK ?_ | refine zA ?_ | refine zP [] ?_ | (refine isA ?_; refine zd rfl ?_) | (refine isL ?_; refine zU rfl (by kernel_rfl) rfl rfl ?_) | (refine zb rfl ?_; refine zT rfl (by kernel_rfl) rfl rfl ?_) | refine zD ?_ | refine zB _ rfl (by kernel_rfl) ?_ | refine zV rfl ?_ | refine zW rfl ?_ | refine zC ?_ | with_reducible refine zN ?_ | refine zH ?_ | refine zI ?_ | (with_reducible first | refine zL ?_ | refine zM ?_ | refine zE ?_ | refine zG ?_ | refine zF ?_) | refine zO ?_
      refine ⟨⟨i + 1, hlt⟩, by simp only; omega, ?_⟩
      exact yp rfl (by repeat' first | exact EqS.nil | refine EqS.any ?_ | refine EqS.same rfl ?_ | refine EqS.same (uO (by assumption) (by omega)) ?_)
    · repeat' first | refine zK ?_ | refine zA ?_ | refine zP [] ?_ | (refine isA ?_; refine zd rfl ?_) | (refine isL ?_; refine zU rfl (by kernel_rfl) rfl rfl ?_) | (refine zb rfl ?_; refine zT rfl (by kernel_rfl) rfl rfl ?_) | exact yG rfl rfl rfl | refine zD ?_ | refine zB _ rfl (by kernel_rfl) ?_ | refine zV rfl ?_ | refine zW rfl ?_ | refine zC ?_ | with_reducible refine zN ?_ | refine zH ?_ | refine zI ?_ | (with_reducible first | refine zL ?_ | refine zM ?_ | refine zE ?_ | refine zG ?_ | refine zF ?_) | refine zO ?_
def tO (gs : List Int) : Int := gs.foldl mxV 0
theorem kN (gs : List Int) (g : Int) : tO (gs ++ [g]) = mxV (tO gs) g := by simp [tO]
theorem pV : ∀ (gs : List Int) (a : Int), a ≤ gs.foldl mxV a ∧ ∀ g ∈ gs, g ≤ gs.foldl mxV a
  | [], a => ⟨Int.le_refl _, fun g hg => absurd hg List.not_mem_nil⟩
  | x :: gs, a => by
    obtain ⟨h1, h2⟩ := pV gs (mxV a x)
    have h3 : a ≤ mxV a x ∧ x ≤ mxV a x := by unfold mxV; split <;> omega
    refine ⟨Int.le_trans h3.1 h1, fun g hg => ?_⟩
    rcases List.mem_cons.1 hg with rfl | hg
    · exact Int.le_trans h3.2 h1
    · exact h2 g hg
theorem eY {gs : List Int} {g : Int} (h : g ∈ gs) : g ≤ tO gs := (pV gs 0).2 g h
theorem eX (gs : List Int) : 0 ≤ tO gs := (pV gs 0).1
theorem cz (gs : List Int) (hl : gs.length ≤ 1000000000) : zz Go.Proofs.Try.prog 29 [gsL gs] [] (I (tO gs)) [] false := by
  refine zw [2] Go.Proofs.Try.func29 rfl rfl ?_
  simp only [Go.Proofs.Try.ntmps29, List.length_cons, List.length_nil, Nat.reduceAdd, Nat.reduceSub, List.replicate_succ, List.replicate_zero, List.cons_append, List.nil_append]
  repeat' first | refine zK ?_ | refine zA ?_ | refine zP [] ?_ | (refine isA ?_; refine zd rfl ?_) | (refine isL ?_; refine zU rfl (by kernel_rfl) rfl rfl ?_) | (refine zb rfl ?_; refine zT rfl (by kernel_rfl) rfl rfl ?_) | refine zD ?_ | refine zB _ rfl (by kernel_rfl) ?_ | refine zV rfl ?_ | refine zW rfl ?_ | refine zC ?_ | with_reducible refine zN ?_ | refine zH ?_ | refine zI ?_ | (with_reducible first | refine zL ?_ | refine zM ?_ | refine zE ?_ | refine zG ?_ | refine zF ?_) | refine zO ?_
  refine z9 (α := { p : Nat × Int // p.1 ≤ gs.length ∧ p.2 = tO (gs.take p.1) }) (fun p => ⟨[gsL gs, .any, .any, I p.1.2, I p.1.1, .any, .any, .any, .any, .any, .any, .any, .any, .any, .any, .any, .any, .any], [], 0⟩) (fun p => gs.length - p.1.1) ⟨(0, 0), Nat.zero_le _, rfl⟩ ?_ ?_
  · exact yp rfl (by repeat' first | exact EqS.nil | refine EqS.any ?_ | refine EqS.same rfl ?_)
  · rintro ⟨⟨i, a⟩, hi, ha⟩
    simp only at hi ha
    repeat' first | refine zK ?_ | refine zA ?_ | refine zP [] ?_ | (refine isA ?_; refine zd rfl ?_) | (refine isL ?_; refine zU rfl (by kernel_rfl) rfl rfl ?_) | (refine zb rfl ?_; refine zT rfl (by kernel_rfl) rfl rfl ?_) | refine zD ?_ | refine zB _ rfl (by kernel_rfl) ?_ | refine zV rfl ?_ | refine zW rfl ?_ | refine zC ?_ | with_reducible refine zN ?_ | refine zH ?_ | refine zI ?_ | (with_reducible first | refine zL ?_ | refine zM ?_ | refine zE ?_ | refine zG ?_ | refine zF ?_) | refine zO ?_
    refine zh rfl (fun h => ?_) (fun h => ?_)
    · have hlt : i < gs.length := by simpa using h
      obtain ⟨x, hx⟩ : ∃ z, gs[i]? = some z := ⟨_, List.getElem?_eq_getElem hlt⟩
      repeat' first | refine zK ?_ | refine zA ?_ | refine zP [] ?_ | (refine isA ?_; refine zd rfl ?_) | (refine isL ?_; refine zU rfl (by kernel_rfl) rfl rfl ?_) | (refine zb rfl ?_; refine zT rfl (by kernel_rfl) rfl rfl ?_) | (refine yB ?_; refine zc rfl (z6 (t := xf) (z := x) rfl rfl rfl rfl (Int.natCast_nonneg i) hx) rfl ?_) | (refine yA rfl ?_; refine zY rfl (by kernel_rfl) rfl (z6 (t := xf) (z := x) rfl rfl rfl rfl (Int.natCast_nonneg i) hx) rfl ?_) | refine zD ?_ | refine zB _ rfl (by kernel_rfl) ?_ | refine zV rfl ?_ | refine zW rfl ?_ | refine zC ?_ | with_reducible refine zN ?_ | refine zH ?_ | refine zI ?_ | (with_reducible first | refine zL ?_ | refine zM ?_ | refine zE ?_ | refine zG ?_ | refine zF ?_) | refine zO ?_
      refine ⟨⟨(i + 1, mxV a x), hlt, by rw [List.take_add_one, hx, ha]; exact (kN _ _).symm⟩, by simp only; omega, ?_⟩
      exact yp rfl (by repeat' first | exact EqS.nil | refine EqS.any ?_ | refine EqS.same rfl ?_ | refine EqS.same (uO (by assumption) (by omega)) ?_)
    · have hge : i = gs.length := by
        have : ¬ ((i : Int) < gs.length) := by simpa using h
        omega
      subst hge
      rw [List.take_length] at ha
      subst ha
      repeat' first | refine zK ?_ | refine zA ?_ | refine zP [] ?_ | (refine isA ?_; refine zd rfl ?_) | (refine isL ?_; refine zU rfl (by kernel_rfl) rfl rfl ?_) | (refine zb rfl ?_; refine zT rfl (by kernel_rfl) rfl rfl ?_) | exact yG rfl rfl rfl | refine zD ?_ | refine zB _ rfl (by kernel_rfl) ?_ | refine zV rfl ?_ | refine zW rfl ?_ | refine zC ?_ | with_reducible refine zN ?_ | refine zH ?_ | refine zI ?_ | (with_reducible first | refine zL ?_ | refine zM ?_ | refine zE ?_ | refine zG ?_ | refine zF ?_) | refine zO ?_
theorem c_gok (gs : List Int) (hl : gs.length ≤ 1000000000) : zz Go.Proofs.Try.prog 26 [gsL gs] [] (B (vQ gs)) [] false := by
  refine zw [2] Go.Proofs.Try.func26 rfl rfl ?_
  simp only [Go.Proofs.Try.ntmps26, List.length_cons, List.length_nil, Nat.reduceAdd, Nat.reduceSub, List.replicate_succ, List.replicate_zero, List.cons_append, List.nil_append]
  repeat' first | refine zK ?_ | refine zA ?_ | refine zP [] ?_ | (refine isA ?_; refine zd rfl ?_) | (refine isL ?_; refine zU rfl (by kernel_rfl) rfl rfl ?_) | (refine zb rfl ?_; refine zT rfl (by kernel_rfl) rfl rfl ?_) | refine zD ?_ | refine zB _ rfl (by kernel_rfl) ?_ | refine zV rfl ?_ | refine zW rfl ?_ | refine zC ?_ | with_reducible refine zN ?_ | refine zH ?_ | refine zI ?_ | (with_reducible first | refine zL ?_ | refine zM ?_ | refine zE ?_ | refine zG ?_ | refine zF ?_) | refine zO ?_
  refine z9 (α := { i : Nat // i ≤ gs.length ∧ ∀ j z, j < i → gs[j]? = some z → gOk z = true }) (fun i => ⟨[gsL gs, .any, .any, I i.1, .any, .any, .any, .any, .any, .any, .any, .any, .any, .any, .any, .any, .any, .any, .any, .any, .any, .any, .any, .any, .any], [], 0⟩) (fun i => gs.length - i.1) ⟨0, Nat.zero_le _, fun j z hj => absurd hj (Nat.not_lt_zero _)⟩ ?_ ?_
  · exact yp rfl (by repeat' first | exact EqS.nil | refine EqS.any ?_ | refine EqS.same rfl ?_)
  · rintro ⟨i, hi, hb⟩
    repeat' first | refine zK ?_ | refine zA ?_ | refine zP [] ?_ | (refine isA ?_; refine zd rfl ?_) | (refine isL ?_; refine zU rfl (by kernel_rfl) rfl rfl ?_) | (refine zb rfl ?_; refine zT rfl (by kernel_rfl) rfl rfl ?_) | refine zD ?_ | refine zB _ rfl (by kernel_rfl) ?_ | refine zV rfl ?_ | refine zW rfl ?_ | refine zC ?_ | with_reducible refine zN ?_ | refine zH ?_ | refine zI ?_ | (with_reducible first | refine zL ?_ | refine zM ?_ | refine zE ?_ | refine zG ?_ | refine zF ?_) | refine zO ?_
    refine zh rfl (fun h => ?_) (fun h => ?_)
    · have hlt : i < gs.length := by simpa using h
      obtain ⟨z, hz⟩ : ∃ z, gs[i]? = some z := ⟨_, List.getElem?_eq_getElem hlt⟩
      repeat' first | refine zK ?_ | refine zA ?_ | refine zP [] ?_ | (refine isA ?_; refine zd rfl ?_) | (refine isL ?_; refine zU rfl (by kernel_rfl) rfl rfl ?_) | (refine zb rfl ?_; refine zT rfl (by kernel_rfl) rfl rfl ?_) | (refine yB ?_; refine zc rfl (z6 (t := xf) (z := z) rfl rfl rfl rfl (Int.natCast_nonneg i) hz) rfl ?_) | (refine yA rfl ?_; refine zY rfl (by kernel_rfl) rfl (z6 (t := xf) (z := z) rfl rfl rfl rfl (Int.natCast_nonneg i) hz) rfl ?_) | refine zD ?_ | refine zB _ rfl (by kernel_rfl) ?_ | refine zV rfl ?_ | refine zW rfl ?_ | refine zC ?_ | with_reducible refine zN ?_ | refine zH ?_ | refine zI ?_ | (with_reducible first | refine zL ?_ | refine zM ?_ | refine zE ?_ | refine zG ?_ | refine zF ?_) | refine zO ?_ | (refine wg ?_; refine yW rfl rfl (fun hbr => ?_) (fun hbr => ?_) <;> (fail_if_success (with_reducible (have hx : true = true := hbr))) <;> (fail_if_success (with_reducible (have hx : false = false := hbr)))) | (refine zb rfl ?_; refine yK rfl rfl rfl rfl (fun hbr => ?_) (fun hbr => ?_) <;> (fail_if_success (with_reducible (have hx : true = true := hbr))) <;> (fail_if_success (with_reducible (have hx : false = false := hbr))))
      · exact yG rfl rfl (by
          have : gOk z = false := by
            have := of_decide_eq_true hbr
            cases hq : gOk z with
            | false => rfl
            | true => have := xG.1 hq; omega
          rw [vQ, eo hz this]; rfl)
      · have q1 := of_decide_eq_false hbr
        refine zh rfl (fun h1 => ?_) (fun h1 => ?_)
        · have : gOk z = false := by
            have := of_decide_eq_true h1
            cases hq : gOk z with
            | false => rfl
            | true => have := xG.1 hq; omega
          repeat' first | refine zK ?_ | refine zA ?_ | refine zP [] ?_ | (refine isA ?_; refine zd rfl ?_) | (refine isL ?_; refine zU rfl (by kernel_rfl) rfl rfl ?_) | (refine zb rfl ?_; refine zT rfl (by kernel_rfl) rfl rfl ?_) | exact yG rfl rfl (by rw [vQ, eo hz this]; rfl) | refine zD ?_ | refine zB _ rfl (by kernel_rfl) ?_ | refine zV rfl ?_ | refine zW rfl ?_ | refine zC ?_ | with_reducible refine zN ?_ | refine zH ?_ | refine zI ?_ | (with_reducible first | refine zL ?_ | refine zM ?_ | refine zE ?_ | refine zG ?_ | refine zF ?_) | refine zO ?_
        · have h2 : gOk z = true := by
            have := of_decide_eq_false h1
            exact xG.2 ⟨by omega, by omega⟩
          repeat' first | refine zK ?_ | refine zA ?_ | refine zP [] ?_ | (refine isA ?_; refine zd rfl ?_) | (refine isL ?_; refine zU rfl (by kernel_rfl) rfl rfl ?_) | (refine zb rfl ?_; refine zT rfl (by kernel_rfl) rfl rfl ?_) | refine zD ?_ | refine zB _ rfl (by kernel_rfl) ?_ | refine zV rfl ?_ | refine zW rfl ?_ | refine zC ?_ | with_reducible refine zN ?_ | refine zH ?_ | refine zI ?_ | (with_reducible first | refine zL ?_ | refine zM ?_ | refine zE ?_ | refine zG ?_ | refine zF ?_) | refine zO ?_
          refine ⟨⟨i + 1, hlt, fun j w hj hw => ?_⟩, by simp only; omega, ?_⟩
          · rcases Nat.lt_or_ge j i with h | h
            · exact hb j w h hw
            · obtain rfl : j = i := by omega
              rw [hz] at hw
              simp only [Option.some.injEq] at hw
              rw [← hw]; exact h2
          · exact yp rfl (by repeat' first | exact EqS.nil | refine EqS.any ?_ | refine EqS.same rfl ?_ | refine EqS.same (uO (by assumption) (by omega)) ?_)
    · have hge : i = gs.length := by
        have : ¬ ((i : Int) < gs.length) := by simpa using h
        omega
      subst hge
      repeat' first | refine zK ?_ | refine zA ?_ | refine zP [] ?_ | (refine isA ?_; refine zd rfl ?_) | (refine isL ?_; refine zU rfl (by kernel_rfl) rfl rfl ?_) | (refine zb rfl ?_; refine zT rfl (by kernel_rfl) rfl rfl ?_) | exact yG rfl rfl (by rw [vQ, j7 hb]; rfl) | refine zD ?_ | refine zB _ rfl (by kernel_rfl) ?_ | refine zV rfl ?_ | refine zW rfl ?_ | refine zC ?_ | with_reducible refine zN ?_ | refine zH ?_ | refine zI ?_ | (with_reducible first | refine zL ?_ | refine zM ?_ | refine zE ?_ | refine zG ?_ | refine zF ?_) | refine zO ?_
def sbV (n L : Int) : Int := cond (decide (n ≤ 0)) 1 (IntKind.i64.wrap (IntKind.i64.wrap (IntKind.i64.wrap (4 * n) + 2) + IntKind.i64.wrap (IntKind.i64.wrap (n + 1) * IntKind.i64.wrap (L + 1))))
theorem d8 (n : Int) (L : Nat) (h : Passes n L) : zz Go.Proofs.Try.prog 30 [I n] [] (I (sbV n L)) [] false := by
  have c1 := fe n L h
  refine zw [2] Go.Proofs.Try.func30 rfl rfl ?_
  simp only [Go.Proofs.Try.ntmps30, List.length_cons, List.length_nil, Nat.reduceAdd, Nat.reduceSub, List.replicate_succ, List.replicate_zero, List.cons_append, List.nil_append]
  repeat' first | refine zK ?_ | refine zA ?_ | refine zP [] ?_ | (refine isA ?_; refine zd rfl ?_) | (refine isL ?_; refine zU rfl (by kernel_rfl) rfl rfl ?_) | (refine zb rfl ?_; refine zT rfl (by kernel_rfl) rfl rfl ?_) | refine zD ?_ | refine zB _ rfl (by kernel_rfl) ?_ | refine zV rfl ?_ | refine zW rfl ?_ | refine zC ?_ | with_reducible refine zN ?_ | refine zH ?_ | refine zI ?_ | (with_reducible first | refine zL ?_ | refine zM ?_ | refine zE ?_ | refine zG ?_ | refine zF ?_) | refine zO ?_
  refine zh rfl (fun h => ?_) (fun h => ?_)
  · repeat' first | refine zK ?_ | refine zA ?_ | refine zP [] ?_ | (refine isA ?_; refine zd rfl ?_) | (refine isL ?_; refine zU rfl (by kernel_rfl) rfl rfl ?_) | (refine zb rfl ?_; refine zT rfl (by kernel_rfl) rfl rfl ?_) | exact yG rfl rfl (by rw [sbV, h]; rfl) | refine zD ?_ | refine zB _ rfl (by kernel_rfl) ?_ | refine zV rfl ?_ | refine zW rfl ?_ | refine zC ?_ | with_reducible refine zN ?_ | refine zH ?_ | refine zI ?_ | (with_reducible first | refine zL ?_ | refine zM ?_ | refine zE ?_ | refine zG ?_ | refine zF ?_) | refine zO ?_
  · repeat' first | refine zK ?_ | refine zA ?_ | refine zP [] ?_ | (refine isA ?_; refine zd rfl ?_) | (refine isL ?_; refine zU rfl (by kernel_rfl) rfl rfl ?_) | (refine zb rfl ?_; refine zT rfl (by kernel_rfl) rfl rfl ?_) | (refine zu 101 ?_; refine zc rfl (zQ rfl c1 (.cons (.same rfl) .nil) rfl) rfl ?_) | (refine zv 101 rfl ?_; refine zY rfl (by kernel_rfl) rfl (zQ rfl c1 (.cons (.same rfl) .nil) rfl) rfl ?_) | exact yG rfl rfl (by rw [sbV, h]; rfl) | refine zD ?_ | refine zB _ rfl (by kernel_rfl) ?_ | refine zV rfl ?_ | refine zW rfl ?_ | refine zC ?_ | with_reducible refine zN ?_ | refine zH ?_ | refine zI ?_ | (with_reducible first | refine zL ?_ | refine zM ?_ | refine zE ?_ | refine zG ?_ | refine zF ?_) | refine zO ?_
theorem c_ssb (n : Int) (L : Nat) (h : Passes n L) : zz Go.Proofs.Try.prog 32 [I n] [] (I (sbV n L)) [] false := by
  have c1 := cr n L h
  refine zw [2] Go.Proofs.Try.func32 rfl rfl ?_
  simp only [Go.Proofs.Try.ntmps32, List.length_cons, List.length_nil, Nat.reduceAdd, Nat.reduceSub, List.replicate_succ, List.replicate_zero, List.cons_append, List.nil_append]
  repeat' first | refine zK ?_ | refine zA ?_ | refine zP [] ?_ | (refine isA ?_; refine zd rfl ?_) | (refine isL ?_; refine zU rfl (by kernel_rfl) rfl rfl ?_) | (refine zb rfl ?_; refine zT rfl (by kernel_rfl) rfl rfl ?_) | refine zD ?_ | refine zB _ rfl (by kernel_rfl) ?_ | refine zV rfl ?_ | refine zW rfl ?_ | refine zC ?_ | with_reducible refine zN ?_ | refine zH ?_ | refine zI ?_ | (with_reducible first | refine zL ?_ | refine zM ?_ | refine zE ?_ | refine zG ?_ | refine zF ?_) | refine zO ?_
  refine zh rfl (fun h => ?_) (fun h => ?_)
  · repeat' first | refine zK ?_ | refine zA ?_ | refine zP [] ?_ | (refine isA ?_; refine zd rfl ?_) | (refine isL ?_; refine zU rfl (by kernel_rfl) rfl rfl ?_) | (refine zb rfl ?_; refine zT rfl (by kernel_rfl) rfl rfl ?_) | exact yG rfl rfl (by rw [sbV, h]; rfl) | refine zD ?_ | refine zB _ rfl (by kernel_rfl) ?_ | refine zV rfl ?_ | refine zW rfl ?_ | refine zC ?_ | with_reducible refine zN ?_ | refine zH ?_ | refine zI ?_ | (with_reducible first | refine zL ?_ | refine zM ?_ | refine zE ?_ | refine zG ?_ | refine zF ?_) | refine zO ?_
  · repeat' first | refine zK ?_ | refine zA ?_ | refine zP [] ?_ | (refine isA ?_; refine zd rfl ?_) | (refine isL ?_; refine zU rfl (by kernel_rfl) rfl rfl ?_) | (refine zb rfl ?_; refine zT rfl (by kernel_rfl) rfl rfl ?_) | (refine zu 102 ?_; refine zc rfl (zQ rfl c1 (.cons (.same rfl) .nil) rfl) rfl ?_) | (refine zv 102 rfl ?_; refine zY rfl (by kernel_rfl) rfl (zQ rfl c1 (.cons (.same rfl) .nil) rfl) rfl ?_) | exact yG rfl rfl (by rw [sbV, h]; rfl) | refine zD ?_ | refine zB _ rfl (by kernel_rfl) ?_ | refine zV rfl ?_ | refine zW rfl ?_ | refine zC ?_ | with_reducible refine zN ?_ | refine zH ?_ | refine zI ?_ | (with_reducible first | refine zL ?_ | refine zM ?_ | refine zE ?_ | refine zG ?_ | refine zF ?_) | refine zO ?_
theorem sb_is {n L : Nat} (hn : n ≤ 1000) (hL : L ≤ 40) : 0 < n → sbV n L = 4 * n + 2 + ((n : Int) + 1) * (L + 1) := by
  intro h0
  have hp : ((n : Int) + 1) * (L + 1) ≤ 1001 * 41 := Int.mul_le_mul (by omega) (by omega) (by omega) (by omega)
  have hq : 0 ≤ ((n : Int) + 1) * (L + 1) := Int.mul_nonneg (by omega) (by omega)
  have e1 : IntKind.i64.wrap (4 * (n : Int)) = 4 * n := by rw [IntKind.wrap_i64]; omega
  have e2 : IntKind.i64.wrap (4 * (n : Int) + 2) = 4 * n + 2 := by rw [IntKind.wrap_i64]; omega
  have e3 : IntKind.i64.wrap ((n : Int) + 1) = n + 1 := by rw [IntKind.wrap_i64]; omega
  have e4 : IntKind.i64.wrap ((L : Int) + 1) = L + 1 := by rw [IntKind.wrap_i64]; omega
  rw [sbV, decide_eq_false (by omega), cond_false, e1, e2, e3, e4]
  generalize ((n : Int) + 1) * (L + 1) = Q at hp hq
  have e5 : IntKind.i64.wrap Q = Q := by rw [IntKind.wrap_i64]; omega
  rw [e5, IntKind.wrap_i64]
  omega
def swV (T L : Int) : Int := IntKind.i64.wrap (T * IntKind.i64.wrap (L + 2))
theorem c_isw (xs : List Rw) (L : Nat) (hl : xs.length ≤ 1000000000) (h : Passes xs.length L) : zz Go.Proofs.Try.prog 31 [rwL xs] [] (I (swV (yO xs) L)) [] false := by
  have c1 := fe xs.length L h
  have c2 := qK xs hl
  refine zw [2] Go.Proofs.Try.func31 rfl rfl ?_
  simp only [Go.Proofs.Try.ntmps31, List.length_cons, List.length_nil, Nat.reduceAdd, Nat.reduceSub, List.replicate_succ, List.replicate_zero, List.cons_append, List.nil_append]
  repeat' first | refine zK ?_ | refine zA ?_ | refine zP [] ?_ | (refine isA ?_; refine zd rfl ?_) | (refine isL ?_; refine zU rfl (by kernel_rfl) rfl rfl ?_) | (refine zb rfl ?_; refine zT rfl (by kernel_rfl) rfl rfl ?_) | (refine zu 88 ?_; refine zc rfl (zQ rfl c2 (.cons (.same rfl) .nil) rfl) rfl ?_) | (refine zv 88 rfl ?_; refine zY rfl (by kernel_rfl) rfl (zQ rfl c2 (.cons (.same rfl) .nil) rfl) rfl ?_) | (refine zu 101 ?_; refine zc rfl (zQ rfl c1 (.cons (.same rfl) .nil) rfl) rfl ?_) | (refine zv 101 rfl ?_; refine zY rfl (by kernel_rfl) rfl (zQ rfl c1 (.cons (.same rfl) .nil) rfl) rfl ?_) | exact yG rfl rfl rfl | refine zD ?_ | refine zB _ rfl (by kernel_rfl) ?_ | refine zV rfl ?_ | refine zW rfl ?_ | refine zC ?_ | with_reducible refine zN ?_ | refine zH ?_ | refine zI ?_ | (with_reducible first | refine zL ?_ | refine zM ?_ | refine zE ?_ | refine zG ?_ | refine zF ?_) | refine zO ?_
theorem sw_is {T : Int} {L : Nat} (h0 : 0 ≤ T) (hT : T ≤ 1000) (hL : L ≤ 40) : swV T L = T * (L + 2) := by
  have hp : T * ((L : Int) + 2) ≤ 1000 * 42 := Int.mul_le_mul hT (by omega) (by omega) (by omega)
  have hq : 0 ≤ T * ((L : Int) + 2) := Int.mul_nonneg h0 (by omega)
  have e4 : IntKind.i64.wrap ((L : Int) + 2) = L + 2 := by rw [IntKind.wrap_i64]; omega
  rw [swV, e4]
  generalize T * ((L : Int) + 2) = Q at hp hq
  rw [IntKind.wrap_i64]
  omega
end Go.Proofs.Ytojcojanokhnaaa.Ab
namespace Go.Proofs.Ytojcojanokhnaaa.Ab
open Go.RowKit
theorem kg (xs : List Rw) : yO xs ≤ 4 * xs.length := by
  induction xs with
  | nil => decide
  | cons x xs ih => have := xp x; simp only [yO, List.length_cons]; omega
structure RunIs (a : List Rw) (gs : List Int) (L : Nat) (y : So) (m : Nat) (rs : List Rw) (p : Int) : Prop where
  run : Runs gs (soN a) 0 [] 0 y m rs p
  rows : rs = yL a
  steps : (m : Int) ≤ 5 * a.length + 1 + L * (a.length : Int)
  peak : p ≤ tO gs
  wr : y.wr ≤ yO a + L * yO a
theorem cR {a : List Rw} {gs : List Int} {L : Nat} (hv : avR a = true) (hg : vQ gs = true) (hL : a.length ≤ 2 ^ L) (hL4 : L ≤ 40) (hn : a.length ≤ 1000) : ∃ y m rs p, RunIs a gs L y m rs p := by
  obtain ⟨gall, gne⟩ := pR hg
  have hs := mJ hv
  have h0 : uv L (soN a) = 5 * a.length + 1 + L * (a.length : Int) := by
    rw [pL (s := soN a) rfl]
    show 3 * ((a.length : Int) - 0) + 2 * (0 : Nat) + (0 : Nat) + 1 + L * (a.length : Int) + 2 * a.length = _
    omega
  have h1 : sz L (soN a) = yO a + L * yO a := by
    rw [nL (s := soN a) rfl]
    show (0 : Int) + (yO a - 0 - 0) + L * yO a = _
    omega
  have hq : 0 ≤ (L : Int) * (a.length : Int) := Int.mul_nonneg (by omega) (by omega)
  have hp : (L : Int) * (a.length : Int) ≤ 40 * 1000 := Int.mul_le_mul (by omega) (by omega) (by omega) (by omega)
  have hmn := eX gs
  have hm0 : yi (soN a) = 0 := by rw [vO (s := soN a) rfl]; rfl
  have hw0 : (soN a).wr = 0 := rfl
  obtain ⟨y, m, rs, p, q1, q2, q3, q4, q5, q6⟩ := mz (gs := gs) (L := L) (M := tO gs) (fun g h => ⟨(gall g h).1, (gall g h).2, eY h⟩) gne (uv L (soN a)).toNat (s := soN a) (k := 0) (rows := []) (pk := 0) hs (by omega) hL (by rw [hw0]; omega) (by rw [hm0]; exact hmn) hmn
  refine ⟨y, m, rs, p, q1, ?_, ?_, q5, by rw [← h1]; exact q6⟩
  · rw [q4, vV (s := soN a) (Or.inl rfl), List.nil_append]; rfl
  · rw [← h0]; omega
end Go.Proofs.Ytojcojanokhnaaa.Ab
namespace Go.Proofs.Ytojcojanokhnaaa.Ab
open Go.RowKit
def u8T : Ty Int := ⟨1, fun n => [.k (.int .u8 n)], fun _ => rfl, by decide, fun r c hc => by
  simp only [List.mem_cons, List.not_mem_nil, or_false] at hc
  subst hc
  exact ⟨rfl, rfl⟩⟩
structure Cur where
  code : List Int
  pos : Nat
  seed : Int
abbrev xS (c : Cur) : Reg := ⟨109, 3, [xv u8T c.code, I c.pos, I c.seed], 0⟩
def nI (s : Int) : Int := IntKind.i64.wrap (IntKind.i64.wrap (s * 6364136223846793005) + 1442695040888963407)
def f9 (s : Int) : Int := qW .i64 (bL .i64 (vw .i64 (nI s) 33) (vw .i64 (nI s) 45)) 255
def vl (c : Cur) : Int := match c.code[c.pos]? with
  | some b => qW .i64 (IntKind.i64.wrap (f9 c.seed + IntKind.i64.wrap b)) 255
  | none => f9 c.seed
def xQ (c : Cur) : Cur := ⟨c.code, match c.code[c.pos]? with | some _ => c.pos + 1 | none => c.pos, nI c.seed⟩
theorem w3 (c : Cur) : 0 ≤ vl c ∧ vl c ≤ 255 := by
  unfold vl
  split
  · exact n6 _
  · exact n6 _
theorem tx (c : Cur) (hl : c.code.length ≤ 1000000000) : zz Go.Proofs.Try.prog 124 [.ptr 0 0] [xS c] (I (vl c)) [xS (xQ c)] true := by
  refine zw [2] Go.Proofs.Try.func124 rfl rfl ?_
  simp only [Go.Proofs.Try.ntmps124, List.length_cons, List.length_nil, Nat.reduceAdd, Nat.reduceSub, List.replicate_succ, List.replicate_zero, List.cons_append, List.nil_append]
  repeat' first | refine zK ?_ | refine zA ?_ | refine zP [] ?_ | (refine isA ?_; refine zd rfl ?_) | (refine isL ?_; refine zU rfl (by kernel_rfl) rfl rfl ?_) | (refine zb rfl ?_; refine zT rfl (by kernel_rfl) rfl rfl ?_) | (refine isL ?_; refine zY rfl (by kernel_rfl) rfl (x3 (n := 33) rfl rfl rfl) rfl ?_) | (refine isL ?_; refine zY rfl (by kernel_rfl) rfl (x3 (n := 45) rfl rfl rfl) rfl ?_) | (refine isL ?_; refine zY rfl (by kernel_rfl) rfl (kq rfl rfl rfl) rfl ?_) | (refine isL ?_; refine zY rfl (by kernel_rfl) rfl (sm rfl rfl rfl) rfl ?_) | refine zD ?_ | refine zB _ rfl (by kernel_rfl) ?_ | refine zV rfl ?_ | refine zW rfl ?_ | refine zC ?_ | with_reducible refine zN ?_ | refine zH ?_ | refine zI ?_ | (with_reducible first | refine zL ?_ | refine zM ?_ | refine zE ?_ | refine zG ?_ | refine zF ?_) | refine zO ?_
  refine zh rfl (fun h => ?_) (fun h => ?_)
  · have hlt : c.pos < c.code.length := by have := of_decide_eq_true h; omega
    obtain ⟨z, hz⟩ : ∃ z, c.code[c.pos]? = some z := ⟨_, List.getElem?_eq_getElem hlt⟩
    have e1 : vl c = qW .i64 (IntKind.i64.wrap (f9 c.seed + IntKind.i64.wrap z)) 255 := by rw [vl, hz]
    have e2 : xQ c = ⟨c.code, c.pos + 1, nI c.seed⟩ := by rw [xQ, hz]
    repeat' first | refine zK ?_ | refine zA ?_ | refine zP [] ?_ | (refine isA ?_; refine zd rfl ?_) | (refine isL ?_; refine zU rfl (by kernel_rfl) rfl rfl ?_) | (refine zb rfl ?_; refine zT rfl (by kernel_rfl) rfl rfl ?_) | (refine yB ?_; refine zc rfl (z6 (t := u8T) (z := z) rfl rfl rfl rfl (Int.natCast_nonneg c.pos) hz) rfl ?_) | (refine yA rfl ?_; refine zY rfl (by kernel_rfl) rfl (z6 (t := u8T) (z := z) rfl rfl rfl rfl (Int.natCast_nonneg c.pos) hz) rfl ?_) | (refine isL ?_; refine zY rfl (by kernel_rfl) rfl (sm rfl rfl rfl) rfl ?_) | exact (by rw [e1, e2]; exact ug 1 [0] yf (by decide) rfl (le_refl rfl) (.cons rfl rfl rfl rfl (zZ (le_refl rfl) (zZ (xZ hlt (by omega)) (zZ (le_refl rfl) zj))) .nil)) | refine zD ?_ | refine zB _ rfl (by kernel_rfl) ?_ | refine zV rfl ?_ | refine zW rfl ?_ | refine zC ?_ | with_reducible refine zN ?_ | refine zH ?_ | refine zI ?_ | (with_reducible first | refine zL ?_ | refine zM ?_ | refine zE ?_ | refine zG ?_ | refine zF ?_) | refine zO ?_
  · have hge : c.code.length ≤ c.pos := by have := of_decide_eq_false h; omega
    have hz : c.code[c.pos]? = none := List.getElem?_eq_none hge
    have e1 : vl c = f9 c.seed := by rw [vl, hz]
    have e2 : xQ c = ⟨c.code, c.pos, nI c.seed⟩ := by rw [xQ, hz]
    repeat' first | refine zK ?_ | refine zA ?_ | refine zP [] ?_ | (refine isA ?_; refine zd rfl ?_) | (refine isL ?_; refine zU rfl (by kernel_rfl) rfl rfl ?_) | (refine zb rfl ?_; refine zT rfl (by kernel_rfl) rfl rfl ?_) | exact (by rw [e1, e2]; exact ug 1 [0] yf (by decide) rfl (le_refl rfl) (.cons rfl rfl rfl rfl (by repeat' first | exact zj | refine zZ ?_ ?_ | exact zp | exact le_refl rfl | exact zk rfl rfl | exact zx rfl) .nil)) | refine zD ?_ | refine zB _ rfl (by kernel_rfl) ?_ | refine zV rfl ?_ | refine zW rfl ?_ | refine zC ?_ | with_reducible refine zN ?_ | refine zH ?_ | refine zI ?_ | (with_reducible first | refine zL ?_ | refine zM ?_ | refine zE ?_ | refine zG ?_ | refine zF ?_) | refine zO ?_
end Go.Proofs.Ytojcojanokhnaaa.Ab
namespace Go.Proofs.Ytojcojanokhnaaa.Ab
open Go.RowKit
theorem zm (c : Cur) : NoH (xS c).cells := tL rfl
def ca (a b c d : Int) : Int := IntKind.i64.wrap (IntKind.i64.wrap (IntKind.i64.wrap (IntKind.i64.wrap (a * 16777216) + IntKind.i64.wrap (b * 65536)) + IntKind.i64.wrap (c * 256)) + d)
theorem j9 {a b c d : Int} (ha : 0 ≤ a ∧ a ≤ 255) (hb : 0 ≤ b ∧ b ≤ 255) (hc : 0 ≤ c ∧ c ≤ 255) (hd : 0 ≤ d ∧ d ≤ 255) : 0 ≤ ca a b c d := by
  have e1 : IntKind.i64.wrap (a * 16777216) = a * 16777216 := by rw [IntKind.wrap_i64]; omega
  have e2 : IntKind.i64.wrap (b * 65536) = b * 65536 := by rw [IntKind.wrap_i64]; omega
  have e3 : IntKind.i64.wrap (c * 256) = c * 256 := by rw [IntKind.wrap_i64]; omega
  have e4 : IntKind.i64.wrap (a * 16777216 + b * 65536) = a * 16777216 + b * 65536 := by rw [IntKind.wrap_i64]; omega
  have e5 : IntKind.i64.wrap (a * 16777216 + b * 65536 + c * 256) = a * 16777216 + b * 65536 + c * 256 := by rw [IntKind.wrap_i64]; omega
  have e6 : IntKind.i64.wrap (a * 16777216 + b * 65536 + c * 256 + d) = a * 16777216 + b * 65536 + c * 256 + d := by rw [IntKind.wrap_i64]; omega
  rw [ca, e1, e2, e4, e3, e5, e6]
  omega
def beV (n : Int) (c : Cur) : Int := cond (decide (n ≤ 0)) 0 (cond (decide (n ≤ 256)) ((vl c).tmod n) ((ca (vl c) (vl (xQ c)) (vl (xQ (xQ c))) (vl (xQ (xQ (xQ c))))).tmod n))
def beC (n : Int) (c : Cur) : Cur := cond (decide (n ≤ 0)) c (cond (decide (n ≤ 256)) (xQ c) (xQ (xQ (xQ (xQ c)))))
theorem y9 (n : Int) (c : Cur) : (beC n c).code = c.code := by
  unfold beC
  cases decide (n ≤ 0) <;> cases decide (n ≤ 256) <;> rfl
theorem vK {n : Int} (h : 0 < n) (c : Cur) : 0 ≤ beV n c ∧ beV n c < n := by
  have h0 : decide (n ≤ 0) = false := decide_eq_false (by omega)
  unfold beV
  rw [h0, cond_false]
  cases decide (n ≤ 256) with
  | true => exact ⟨Int.tmod_nonneg _ (w3 c).1, Int.tmod_lt_of_pos _ h⟩
  | false => exact ⟨Int.tmod_nonneg _ (j9 (w3 _) (w3 _) (w3 _) (w3 _)), Int.tmod_lt_of_pos _ h⟩
theorem wZ (n : Int) (c : Cur) (hl : c.code.length ≤ 1000000000) : zz Go.Proofs.Try.prog 100 [.ptr 0 0, I n] [xS c] (I (beV n c)) [xS (beC n c)] true := by
  refine zw [4] Go.Proofs.Try.func100 rfl rfl ?_
  simp only [Go.Proofs.Try.ntmps100, List.length_cons, List.length_nil, Nat.reduceAdd, Nat.reduceSub, List.replicate_succ, List.replicate_zero, List.cons_append, List.nil_append]
  repeat' first | refine zK ?_ | refine zA ?_ | refine zP [] ?_ | (refine isA ?_; refine zd rfl ?_) | (refine isL ?_; refine zU rfl (by kernel_rfl) rfl rfl ?_) | (refine zb rfl ?_; refine zT rfl (by kernel_rfl) rfl rfl ?_) | refine zD ?_ | refine zB _ rfl (by kernel_rfl) ?_ | refine zV rfl ?_ | refine zW rfl ?_ | refine zC ?_ | with_reducible refine zN ?_ | refine zH ?_ | refine zI ?_ | (with_reducible first | refine zL ?_ | refine zM ?_ | refine zE ?_ | refine zG ?_ | refine zF ?_) | refine zO ?_
  refine zh rfl (fun h => ?_) (fun h => ?_)
  · repeat' first | refine zK ?_ | refine zA ?_ | refine zP [] ?_ | (refine isA ?_; refine zd rfl ?_) | (refine isL ?_; refine zU rfl (by kernel_rfl) rfl rfl ?_) | (refine zb rfl ?_; refine zT rfl (by kernel_rfl) rfl rfl ?_) | exact (by rw [beV, beC, h]; exact ug 1 [0] yf (by decide) rfl (le_refl rfl) (.cons rfl rfl rfl rfl (zX (zm c)) .nil)) | refine zD ?_ | refine zB _ rfl (by kernel_rfl) ?_ | refine zV rfl ?_ | refine zW rfl ?_ | refine zC ?_ | with_reducible refine zN ?_ | refine zH ?_ | refine zI ?_ | (with_reducible first | refine zL ?_ | refine zM ?_ | refine zE ?_ | refine zG ?_ | refine zF ?_) | refine zO ?_
  · have hn : n ≠ 0 := by have := of_decide_eq_false h; omega
    repeat' first | refine zK ?_ | refine zA ?_ | refine zP [] ?_ | (refine isA ?_; refine zd rfl ?_) | (refine isL ?_; refine zU rfl (by kernel_rfl) rfl rfl ?_) | (refine zb rfl ?_; refine zT rfl (by kernel_rfl) rfl rfl ?_) | refine zD ?_ | refine zB _ rfl (by kernel_rfl) ?_ | refine zV rfl ?_ | refine zW rfl ?_ | refine zC ?_ | with_reducible refine zN ?_ | refine zH ?_ | refine zI ?_ | (with_reducible first | refine zL ?_ | refine zM ?_ | refine zE ?_ | refine zG ?_ | refine zF ?_) | refine zO ?_
    refine zh rfl (fun h' => ?_) (fun h' => ?_)
    · repeat' first | refine zK ?_ | refine zA ?_ | refine zP [] ?_ | (refine isA ?_; refine zd rfl ?_) | (refine isL ?_; refine zU rfl (by kernel_rfl) rfl rfl ?_) | (refine zb rfl ?_; refine zT rfl (by kernel_rfl) rfl rfl ?_) | (refine zu 124 ?_; refine zc rfl (zo (K := []) (Rs' := [_]) [0] (by decide) rfl (tx c hl) (.cons rfl rfl rfl (zm _) (zm _) .nil) (.cons (.ptr rfl) .nil) (fun q hq => by cases hq) rfl) rfl ?_) | (refine zv 124 rfl ?_; refine zY rfl (by kernel_rfl) rfl (zo (K := []) (Rs' := [_]) [0] (by decide) rfl (tx c hl) (.cons rfl rfl rfl (zm _) (zm _) .nil) (.cons (.ptr rfl) .nil) (fun q hq => by cases hq) rfl) rfl ?_) | (refine isA ?_; refine zc rfl (uC rfl rfl rfl hn) rfl ?_) | exact (by rw [beV, beC, h, h']; exact ug 1 [0] yf (by decide) rfl (le_refl rfl) (.cons rfl rfl rfl rfl (zX (zm (xQ c))) .nil)) | refine zD ?_ | refine zB _ rfl (by kernel_rfl) ?_ | refine zV rfl ?_ | refine zW rfl ?_ | refine zC ?_ | with_reducible refine zN ?_ | refine zH ?_ | refine zI ?_ | (with_reducible first | refine zL ?_ | refine zM ?_ | refine zE ?_ | refine zG ?_ | refine zF ?_) | refine zO ?_
    · repeat' first | refine zK ?_ | refine zA ?_ | refine zP [] ?_ | (refine isA ?_; refine zd rfl ?_) | (refine isL ?_; refine zU rfl (by kernel_rfl) rfl rfl ?_) | (refine zb rfl ?_; refine zT rfl (by kernel_rfl) rfl rfl ?_) | (refine zu 124 (x := #[.tmp 17]) ?_; refine zc rfl (zo (K := []) (Rs' := [_]) [0] (by decide) rfl (tx c hl) (.cons rfl rfl rfl (zm _) (zm _) .nil) (.cons (.ptr rfl) .nil) (fun q hq => by cases hq) rfl) rfl ?_) | (refine zu 124 (x := #[.tmp 19]) ?_; refine zc rfl (zo (K := []) (Rs' := [_]) [0] (by decide) rfl (tx (xQ c) hl) (.cons rfl rfl rfl (zm _) (zm _) .nil) (.cons (.ptr rfl) .nil) (fun q hq => by cases hq) rfl) rfl ?_) | (refine zu 124 (x := #[.tmp 21]) ?_; refine zc rfl (zo (K := []) (Rs' := [_]) [0] (by decide) rfl (tx (xQ (xQ c)) hl) (.cons rfl rfl rfl (zm _) (zm _) .nil) (.cons (.ptr rfl) .nil) (fun q hq => by cases hq) rfl) rfl ?_) | (refine zu 124 (x := #[.tmp 23]) ?_; refine zc rfl (zo (K := []) (Rs' := [_]) [0] (by decide) rfl (tx (xQ (xQ (xQ c))) hl) (.cons rfl rfl rfl (zm _) (zm _) .nil) (.cons (.ptr rfl) .nil) (fun q hq => by cases hq) rfl) rfl ?_) | (refine isA ?_; refine zc rfl (uC rfl rfl rfl hn) rfl ?_) | exact (by rw [beV, beC, h, h']; exact ug 1 [0] yf (by decide) rfl (le_refl rfl) (.cons rfl rfl rfl rfl (zX (zm (xQ (xQ (xQ (xQ c)))))) .nil)) | refine zD ?_ | refine zB _ rfl (by kernel_rfl) ?_ | refine zV rfl ?_ | refine zW rfl ?_ | refine zC ?_ | with_reducible refine zN ?_ | refine zH ?_ | refine zI ?_ | (with_reducible first | refine zL ?_ | refine zM ?_ | refine zE ?_ | refine zG ?_ | refine zF ?_) | refine zO ?_
theorem mZ (n : Int) (c : Cur) (hl : c.code.length ≤ 1000000000) : zz Go.Proofs.Try.prog 113 [.ptr 0 0, I n] [xS c] (B (decide (beV n c = 0))) [xS (beC n c)] true := by
  refine zw [4] Go.Proofs.Try.func113 rfl rfl ?_
  simp only [Go.Proofs.Try.ntmps113, List.length_cons, List.length_nil, Nat.reduceAdd, Nat.reduceSub, List.replicate_succ, List.replicate_zero, List.cons_append, List.nil_append]
  repeat' first | refine zK ?_ | refine zA ?_ | refine zP [] ?_ | (refine isA ?_; refine zd rfl ?_) | (refine isL ?_; refine zU rfl (by kernel_rfl) rfl rfl ?_) | (refine zb rfl ?_; refine zT rfl (by kernel_rfl) rfl rfl ?_) | (refine zu 100 ?_; refine zc rfl (zo (K := []) (Rs' := [_]) [0] (by decide) rfl (wZ n c hl) (.cons rfl rfl rfl (zm _) (zm _) .nil) (.cons (.ptr rfl) (.cons (.same rfl) .nil)) (fun q hq => by cases hq) rfl) rfl ?_) | (refine zv 100 rfl ?_; refine zY rfl (by kernel_rfl) rfl (zo (K := []) (Rs' := [_]) [0] (by decide) rfl (wZ n c hl) (.cons rfl rfl rfl (zm _) (zm _) .nil) (.cons (.ptr rfl) (.cons (.same rfl) .nil)) (fun q hq => by cases hq) rfl) rfl ?_) | exact ug 1 [0] yf (by decide) rfl (le_refl rfl) (.cons rfl rfl rfl rfl (zX (zm _)) .nil) | refine zD ?_ | refine zB _ rfl (by kernel_rfl) ?_ | refine zV rfl ?_ | refine zW rfl ?_ | refine zC ?_ | with_reducible refine zN ?_ | refine zH ?_ | refine zI ?_ | (with_reducible first | refine zL ?_ | refine zM ?_ | refine zE ?_ | refine zG ?_ | refine zF ?_) | refine zO ?_
theorem ld_at {P : Program} {o : Oper} {ρ : Operand → V} {H : List Reg} {t i : Nat} {x : Operand} {cs : List V} {v : V} [ht : Sc P t] (ho : o.op = .load t x) (hx : ρ x = .pref (cs.drop i)) (hz : cs[i]? = some v) : z8 P o ρ H v H := by
  have hlt := (List.getElem?_eq_some_iff.1 hz).1
  rw [List.drop_eq_getElem_cons hlt] at hx
  have hv : cs[i] = v := by rw [List.getElem?_eq_getElem hlt] at hz; exact Option.some.inj hz
  rw [hv] at hx
  exact uD ho hx
theorem cw (xs : List V) (n : Nat) (z : Int) (c : Cur) (hl : c.code.length ≤ 1000000000) (h0 : 0 < n) (hz : xs[(beV n c).toNat]? = some (I z)) : zz Go.Proofs.Try.prog 111 [.ptr 0 0, .lst n xs] [xS c] (I z) [xS (beC n c)] true := by
  obtain ⟨r0, r1⟩ := vK (n := n) (by omega) c
  refine zw [4] Go.Proofs.Try.func111 rfl rfl ?_
  simp only [Go.Proofs.Try.ntmps111, List.length_cons, List.length_nil, Nat.reduceAdd, Nat.reduceSub, List.replicate_succ, List.replicate_zero, List.cons_append, List.nil_append]
  repeat' first | refine zK ?_ | refine zA ?_ | refine zP [] ?_ | (refine isA ?_; refine zd rfl ?_) | (refine isL ?_; refine zU rfl (by kernel_rfl) rfl rfl ?_) | (refine zb rfl ?_; refine zT rfl (by kernel_rfl) rfl rfl ?_) | (refine zu 100 ?_; refine zc rfl (zo (K := []) (Rs' := [_]) [0] (by decide) rfl (wZ n c hl) (.cons rfl rfl rfl (zm _) (zm _) .nil) (.cons (.ptr rfl) (.cons (.same rfl) .nil)) (fun q hq => by cases hq) rfl) rfl ?_) | (refine zv 100 rfl ?_; refine zY rfl (by kernel_rfl) rfl (zo (K := []) (Rs' := [_]) [0] (by decide) rfl (wZ n c hl) (.cons rfl rfl rfl (zm _) (zm _) .nil) (.cons (.ptr rfl) (.cons (.same rfl) .nil)) (fun q hq => by cases hq) rfl) rfl ?_) | (refine yB ?_; refine zc rfl (uE rfl rfl rfl r0 r1) rfl ?_) | (refine yA rfl ?_; refine zY rfl (by kernel_rfl) rfl (uE rfl rfl rfl r0 r1) rfl ?_) | (refine xe ?_; refine zc rfl (ld_at rfl rfl (by rw [Nat.mul_one]; exact hz)) rfl ?_) | exact ug 1 [0] yf (by decide) rfl (le_refl rfl) (.cons rfl rfl rfl rfl (zX (zm _)) .nil) | refine zD ?_ | refine zB _ rfl (by kernel_rfl) ?_ | refine zV rfl ?_ | refine zW rfl ?_ | refine zC ?_ | with_reducible refine zN ?_ | refine zH ?_ | refine zI ?_ | (with_reducible first | refine zL ?_ | refine zM ?_ | refine zE ?_ | refine zG ?_ | refine zF ?_) | refine zO ?_
def nS (xs : List Int) : Nat → Int
  | 0 => IntKind.i64.wrap (10101 + xs.length)
  | i + 1 => match xs[i]? with
    | some b => qW .i64 (IntKind.i64.wrap (IntKind.i64.wrap (IntKind.i64.wrap (nS xs i * 131) + IntKind.i64.wrap b) + 7)) 1073741823
    | none => nS xs i
def ue (xs : List Int) : Cur := ⟨xs, 0, nS xs (min xs.length 4000)⟩
theorem lq (xs : List Int) (hl : xs.length ≤ 1000000000) : zz Go.Proofs.Try.prog 53 [xv u8T xs] [] (.ptr 0 0) [xS (ue xs)] true := by
  refine zw [2] Go.Proofs.Try.func53 rfl rfl ?_
  simp only [Go.Proofs.Try.ntmps53, List.length_cons, List.length_nil, Nat.reduceAdd, Nat.reduceSub, List.replicate_succ, List.replicate_zero, List.cons_append, List.nil_append]
  repeat' first | refine zK ?_ | refine zA ?_ | refine zP [] ?_ | (refine isA ?_; refine zd rfl ?_) | (refine isL ?_; refine zU rfl (by kernel_rfl) rfl rfl ?_) | (refine zb rfl ?_; refine zT rfl (by kernel_rfl) rfl rfl ?_) | refine zD ?_ | refine zB _ rfl (by kernel_rfl) ?_ | refine zV rfl ?_ | refine zW rfl ?_ | refine zC ?_ | with_reducible refine zN ?_ | refine zH ?_ | refine zI ?_ | (with_reducible first | refine zL ?_ | refine zM ?_ | refine zE ?_ | refine zG ?_ | refine zF ?_) | refine zO ?_
  refine z9 (α := { i : Nat // i ≤ min xs.length 4000 }) (fun i => ⟨[xv u8T xs, .any, .any, I (nS xs i.1), I i.1, .any, .any, .any, .any, .any, .any, .any, .any, .any, .any, .any, .any, .any, .any, .any, .any, .any, .any, .any, .any, .any, .any, .any, .any, .any, .any, .any], [], 0⟩) (fun i => xs.length - i.1) ⟨0, Nat.zero_le _⟩ ?_ ?_
  · exact ye [] rfl rfl (by decide) .nil (by repeat' first | exact zj | refine zZ ?_ ?_ | exact zp | exact le_refl rfl | exact zk rfl rfl | exact zx rfl)
  · rintro ⟨i, hi⟩
    have hdone : i = min xs.length 4000 → ue xs = ⟨xs, 0, nS xs i⟩ := fun e => by rw [ue, e]
    repeat' first | refine zK ?_ | refine zA ?_ | refine zP [] ?_ | (refine isA ?_; refine zd rfl ?_) | (refine isL ?_; refine zU rfl (by kernel_rfl) rfl rfl ?_) | (refine zb rfl ?_; refine zT rfl (by kernel_rfl) rfl rfl ?_) | refine zD ?_ | refine zB _ rfl (by kernel_rfl) ?_ | refine zV rfl ?_ | refine zW rfl ?_ | refine zC ?_ | with_reducible refine zN ?_ | refine zH ?_ | refine zI ?_ | (with_reducible first | refine zL ?_ | refine zM ?_ | refine zE ?_ | refine zG ?_ | refine zF ?_) | refine zO ?_
    refine yW rfl rfl (fun h => ?_) (fun h => ?_)
    · have hlt : i < xs.length := by simpa using h
      obtain ⟨z, hz⟩ : ∃ z, xs[i]? = some z := ⟨_, List.getElem?_eq_getElem hlt⟩
      have es : nS xs (i + 1) = qW .i64 (IntKind.i64.wrap (IntKind.i64.wrap (IntKind.i64.wrap (nS xs i * 131) + IntKind.i64.wrap z) + 7)) 1073741823 := by rw [nS, hz]
      repeat' first | refine zK ?_ | refine zA ?_ | refine zP [] ?_ | (refine isA ?_; refine zd rfl ?_) | (refine isL ?_; refine zU rfl (by kernel_rfl) rfl rfl ?_) | (refine zb rfl ?_; refine zT rfl (by kernel_rfl) rfl rfl ?_) | refine zD ?_ | refine zB _ rfl (by kernel_rfl) ?_ | refine zV rfl ?_ | refine zW rfl ?_ | refine zC ?_ | with_reducible refine zN ?_ | refine zH ?_ | refine zI ?_ | (with_reducible first | refine zL ?_ | refine zM ?_ | refine zE ?_ | refine zG ?_ | refine zF ?_) | refine zO ?_
      refine zh rfl (fun h' => ?_) (fun h' => ?_)
      · have h4 : i < 4000 := by have := of_decide_eq_true h'; simp only at this; omega
        repeat' first | refine zK ?_ | refine zA ?_ | refine zP [] ?_ | (refine isA ?_; refine zd rfl ?_) | (refine isL ?_; refine zU rfl (by kernel_rfl) rfl rfl ?_) | (refine zb rfl ?_; refine zT rfl (by kernel_rfl) rfl rfl ?_) | (refine yB ?_; refine zc rfl (z6 (t := u8T) (z := z) rfl rfl rfl rfl (Int.natCast_nonneg i) hz) rfl ?_) | (refine yA rfl ?_; refine zY rfl (by kernel_rfl) rfl (z6 (t := u8T) (z := z) rfl rfl rfl rfl (Int.natCast_nonneg i) hz) rfl ?_) | (refine isA ?_; refine zc rfl (sm rfl rfl rfl) rfl ?_) | refine zD ?_ | refine zB _ rfl (by kernel_rfl) ?_ | refine zV rfl ?_ | refine zW rfl ?_ | refine zC ?_ | with_reducible refine zN ?_ | refine zH ?_ | refine zI ?_ | (with_reducible first | refine zL ?_ | refine zM ?_ | refine zE ?_ | refine zG ?_ | refine zF ?_) | refine zO ?_
        refine ⟨⟨i + 1, by omega⟩, by simp only; omega, ?_⟩
        exact ye [] rfl rfl (by decide) .nil (by
          repeat' first | exact zj | refine zZ ?_ ?_ | exact zp | exact le_refl rfl | exact xZ hlt (by omega) | exact yC (congrArg _ es))
      · have h4 : ¬ i < 4000 := by have := of_decide_eq_false h'; simp only at this; omega
        repeat' first | refine zK ?_ | refine zA ?_ | refine zP [] ?_ | (refine isA ?_; refine zd rfl ?_) | (refine isL ?_; refine zU rfl (by kernel_rfl) rfl rfl ?_) | (refine zb rfl ?_; refine zT rfl (by kernel_rfl) rfl rfl ?_) | exact (by rw [hdone (by omega)]; exact ug 0 [0] (fun i hi => absurd hi (Nat.not_lt_zero _)) (by decide) rfl (zx rfl) (.cons rfl rfl rfl rfl (by repeat' first | exact zj | refine zZ ?_ ?_ | exact zp | exact le_refl rfl | exact zk rfl rfl | exact zx rfl) .nil)) | refine zD ?_ | refine zB _ rfl (by kernel_rfl) ?_ | refine zV rfl ?_ | refine zW rfl ?_ | refine zC ?_ | with_reducible refine zN ?_ | refine zH ?_ | refine zI ?_ | (with_reducible first | refine zL ?_ | refine zM ?_ | refine zE ?_ | refine zG ?_ | refine zF ?_) | refine zO ?_
    · have hge : ¬ i < xs.length := by simpa using h
      repeat' first | refine zK ?_ | refine zA ?_ | refine zP [] ?_ | (refine isA ?_; refine zd rfl ?_) | (refine isL ?_; refine zU rfl (by kernel_rfl) rfl rfl ?_) | (refine zb rfl ?_; refine zT rfl (by kernel_rfl) rfl rfl ?_) | exact (by rw [hdone (by omega)]; exact ug 0 [0] (fun i hi => absurd hi (Nat.not_lt_zero _)) (by decide) rfl (zx rfl) (.cons rfl rfl rfl rfl (by repeat' first | exact zj | refine zZ ?_ ?_ | exact zp | exact le_refl rfl | exact zk rfl rfl | exact zx rfl) .nil)) | refine zD ?_ | refine zB _ rfl (by kernel_rfl) ?_ | refine zV rfl ?_ | refine zW rfl ?_ | refine zC ?_ | with_reducible refine zN ?_ | refine zH ?_ | refine zI ?_ | (with_reducible first | refine zL ?_ | refine zM ?_ | refine zE ?_ | refine zG ?_ | refine zF ?_) | refine zO ?_
end Go.Proofs.Ytojcojanokhnaaa.Ab
namespace Go.Proofs.Ytojcojanokhnaaa.Ab
open Go.RowKit
def pkV (zs : List Int) (c : Cur) : Int := (zs[(beV zs.length c).toNat]?).getD 0
theorem wD (zs : List Int) (c : Cur) (hl : c.code.length ≤ 1000000000) (h0 : 0 < zs.length) : zz Go.Proofs.Try.prog 111 [.ptr 0 0, .lst zs.length (zs.map I)] [xS c] (I (pkV zs c)) [xS (beC zs.length c)] true := by
  obtain ⟨r0, r1⟩ := vK (n := zs.length) (by omega) c
  refine cw _ _ _ c hl h0 ?_
  have hlt : (beV zs.length c).toNat < zs.length := by omega
  rw [List.getElem?_map, pkV, List.getElem?_eq_getElem hlt]
  rfl
theorem qF {l : List V} {H : List Reg} {t : Tmp} {n : Nat} {v r : V} {K : Reg} (hv : CellIs l H t n v) (hr : Le [0] r v) (hH : HLes [0] H [0] [K]) :
    (Exit.ret = .ret ∨ Exit.ret = .normal) ∧ ∃ v, CellIs l H t n v ∧ Out true r [K] v ⟨l, H, 1⟩ := ⟨Or.inl rfl, v, hv, vv (S := ⟨l, H, 1⟩) [0] yf (wX (by decide) hH) hr (Or.inl rfl)⟩
theorem nG {o : Oper} {ρ : Operand → V} {H H' : List Reg} {f : FuncId} {a : Operand} {args : List Operand} {ats : Array TypeId} {cargs : List V} {m : Nat} {c c' : Cur} {R : Reg} (n h : Nat) [he : Ent Go.Proofs.Try.prog f]
    (hm : zz Go.Proofs.Try.prog f (.ptr 0 0 :: cargs) [xS c] (.sl 1 0 m) [xS c', R] true) (ho : o.op = .call { callee := .value (.func f), args := (a :: args).toArray, argTypes := ats })
    (ha : ρ a = .ptr h 0) (hargs : args.map ρ = cargs) (hN : noHs cargs = true) (hR : NoH R.cells) (hH : H[h]? = some (xS c)) (hn : H.length = n) (hH' : H.set h (xS c') ++ [R] = H') : z8 Go.Proofs.Try.prog o ρ H (.sl n 0 m) H' := by
  subst hn
  refine jK (args := a :: args) (K := [R]) (K2 := [R]) (Rs' := [xS c']) [h] (by simp) ho hm (.cons (R0 := xS c) (R' := xS c') hH rfl (uW (zm _)) Nat.zero_ne_one (.rest (zm _)) .nil) ?_ (.ofN (fun q hq => by simp at hq; subst hq; exact hR)) (.sl rfl) hH'
  show PassS [h] (ρ a :: args.map ρ) _
  rw [ha, hargs]
  exact .cons (.ptr rfl) (uW (tL hN))
def y5 (keys : Int) (c : Cur) : Rw × Cur := (⟨beV keys c, beV 100 (beC keys c), pkV [0, 0, 1, 2, 3] (beC 100 (beC keys c))⟩, beC 5 (beC 100 (beC keys c)))
theorem th (keys : Int) (c : Cur) : (y5 keys c).2.code = c.code := by
  show (beC 5 (beC 100 (beC keys c))).code = _
  rw [y9, y9, y9]
theorem ln (keys : Int) (c : Cur) (hl : c.code.length ≤ 1000000000) : zz Go.Proofs.Try.prog 112 [.ptr 0 0, I keys] [xS c] (.agg (rwE (y5 keys c).1)) [xS (y5 keys c).2] true := by
  have h1 : (beC keys c).code.length ≤ 1000000000 := by rw [y9]; exact hl
  have h2 : (beC 100 (beC keys c)).code.length ≤ 1000000000 := by rw [y9]; exact h1
  refine wJ 4 78 Go.Proofs.Try.func112 rfl rfl ?_
  simp only [Go.Proofs.Try.ntmps112, List.length_cons, List.length_nil, Nat.reduceAdd, Nat.reduceSub, List.replicate_succ, List.replicate_zero, List.cons_append, List.nil_append]
  repeat' first | (refine isA ?_; refine zc rfl (yS rfl rfl rfl rfl rfl) rfl ?_) | refine zK ?_ | refine zA ?_ | refine zP [] ?_ | (refine isA ?_; refine zd rfl ?_) | (refine isL ?_; refine zU rfl (by kernel_rfl) rfl rfl ?_) | (refine zb rfl ?_; refine zT rfl (by kernel_rfl) rfl rfl ?_) | (refine zu 100 (x := #[.tmp 5, .tmp 6]) ?_; refine zc rfl (zo (K := []) (Rs' := [_]) [0] (by decide) rfl (wZ keys c hl) (.cons rfl rfl rfl (zm _) (zm _) .nil) (.cons (.ptr rfl) (.cons (.same rfl) .nil)) (fun q hq => by cases hq) rfl) rfl ?_) | (refine zv 100 (x := #[.tmp 5, .tmp 6]) rfl ?_; refine zY rfl (by kernel_rfl) rfl (zo (K := []) (Rs' := [_]) [0] (by decide) rfl (wZ keys c hl) (.cons rfl rfl rfl (zm _) (zm _) .nil) (.cons (.ptr rfl) (.cons (.same rfl) .nil)) (fun q hq => by cases hq) rfl) rfl ?_) | (refine zu 100 ?_; refine zc rfl (zo (K := []) (Rs' := [_]) [0] (by decide) rfl (wZ 100 (beC keys c) h1) (.cons rfl rfl rfl (zm _) (zm _) .nil) (.cons (.ptr rfl) (.cons (.same rfl) .nil)) (fun q hq => by cases hq) rfl) rfl ?_) | (refine zv 100 rfl ?_; refine zY rfl (by kernel_rfl) rfl (zo (K := []) (Rs' := [_]) [0] (by decide) rfl (wZ 100 (beC keys c) h1) (.cons rfl rfl rfl (zm _) (zm _) .nil) (.cons (.ptr rfl) (.cons (.same rfl) .nil)) (fun q hq => by cases hq) rfl) rfl ?_) | (refine zu 111 ?_; refine zc rfl (zo (K := []) (Rs' := [_]) [0] (by decide) rfl (wD [0, 0, 1, 2, 3] (beC 100 (beC keys c)) h2 (by decide)) (.cons rfl rfl rfl (zm _) (zm _) .nil) (.cons (.ptr rfl) (.cons (.same rfl) .nil)) (fun q hq => by cases hq) rfl) rfl ?_) | (refine zv 111 rfl ?_; refine zY rfl (by kernel_rfl) rfl (zo (K := []) (Rs' := [_]) [0] (by decide) rfl (wD [0, 0, 1, 2, 3] (beC 100 (beC keys c)) h2 (by decide)) (.cons rfl rfl rfl (zm _) (zm _) .nil) (.cons (.ptr rfl) (.cons (.same rfl) .nil)) (fun q hq => by cases hq) rfl) rfl ?_) | exact qF (yM rfl rfl rfl rfl rfl) (le_refl rfl) (.cons rfl rfl rfl rfl (zX (zm _)) .nil) | refine zD ?_ | refine zB _ rfl (by kernel_rfl) ?_ | refine zV rfl ?_ | refine zW rfl ?_ | refine zC ?_ | with_reducible refine zN ?_ | refine zH ?_ | refine zI ?_ | (with_reducible first | refine zL ?_ | refine zM ?_ | refine zE ?_ | refine zG ?_ | refine zF ?_) | refine zO ?_
def wT (keys : Int) (c : Cur) : Nat → List Rw × Cur
  | 0 => ([], c)
  | i + 1 => ((wT keys c i).1 ++ [(y5 keys (wT keys c i).2).1], (y5 keys (wT keys c i).2).2)
theorem tg (keys : Int) (c : Cur) : ∀ i, (wT keys c i).1.length = i
  | 0 => rfl
  | i + 1 => by rw [wT, List.length_append, tg keys c i]; rfl
theorem uu (keys : Int) (c : Cur) : ∀ i, (wT keys c i).2.code = c.code
  | 0 => rfl
  | i + 1 => by rw [wT, th, uu keys c i]
def xB (most : Int) (c : Cur) : List Rw × Cur := wT (pkV [1, 2, 4, 10] c) (beC (IntKind.i64.wrap (most + 1)) (beC 4 c)) (beV (IntKind.i64.wrap (most + 1)) (beC 4 c)).toNat
theorem sx (most : Int) (c : Cur) : (xB most c).2.code = c.code := by rw [xB, uu, y9, y9]
theorem qg {most : Int} (h0 : 0 ≤ most) (h1 : most ≤ 1000) (c : Cur) : ((xB most c).1.length : Int) ≤ most := by
  have e : IntKind.i64.wrap (most + 1) = most + 1 := by rw [IntKind.wrap_i64]; omega
  rw [xB, tg, e]
  have := vK (n := most + 1) (by omega) (beC 4 c)
  omega
theorem fW (most : Int) (m0 : 0 ≤ most) (m1 : most ≤ 1000) (c : Cur) (hl : c.code.length ≤ 1000000000) : zz Go.Proofs.Try.prog 110 [.ptr 0 0, I most] [xS c] (.sl 1 0 (xB most c).1.length) [xS (xB most c).2, rwR (xB most c).1] true := by
  have h1 : (beC 4 c).code.length ≤ 1000000000 := by rw [y9]; exact hl
  have e : IntKind.i64.wrap (most + 1) = most + 1 := by rw [IntKind.wrap_i64]; omega
  obtain ⟨r0, r1⟩ := vK (n := IntKind.i64.wrap (most + 1)) (by omega) (beC 4 c)
  obtain ⟨k, hk⟩ : ∃ k : Nat, beV (IntKind.i64.wrap (most + 1)) (beC 4 c) = k := ⟨(beV (IntKind.i64.wrap (most + 1)) (beC 4 c)).toNat, by omega⟩
  have hkl : k ≤ 1000 := by omega
  refine zw [4] Go.Proofs.Try.func110 rfl rfl ?_
  simp only [Go.Proofs.Try.ntmps110, List.length_cons, List.length_nil, Nat.reduceAdd, Nat.reduceSub, List.replicate_succ, List.replicate_zero, List.cons_append, List.nil_append]
  repeat' first | (refine isA ?_; refine zc rfl (yS (cs := [1, 2, 4, 10].map I) rfl rfl rfl rfl rfl) rfl ?_) | refine zK ?_ | refine zA ?_ | refine zP [] ?_ | (refine isA ?_; refine zd rfl ?_) | (refine isL ?_; refine zU rfl (by kernel_rfl) rfl rfl ?_) | (refine zb rfl ?_; refine zT rfl (by kernel_rfl) rfl rfl ?_) | (refine zu 111 ?_; refine zc rfl (zo (K := []) (Rs' := [_]) [0] (by decide) rfl (wD [1, 2, 4, 10] c hl (by decide)) (.cons rfl rfl rfl (zm _) (zm _) .nil) (.cons (.ptr rfl) (.cons (.same rfl) .nil)) (fun q hq => by cases hq) rfl) rfl ?_) | (refine zv 111 rfl ?_; refine zY rfl (by kernel_rfl) rfl (zo (K := []) (Rs' := [_]) [0] (by decide) rfl (wD [1, 2, 4, 10] c hl (by decide)) (.cons rfl rfl rfl (zm _) (zm _) .nil) (.cons (.ptr rfl) (.cons (.same rfl) .nil)) (fun q hq => by cases hq) rfl) rfl ?_) | (refine zu 100 ?_; refine zc rfl (zo (K := []) (Rs' := [_]) [0] (by decide) rfl (wZ (IntKind.i64.wrap (most + 1)) (beC 4 c) h1) (.cons rfl rfl rfl (zm _) (zm _) .nil) (.cons (.ptr rfl) (.cons (.same rfl) .nil)) (fun q hq => by cases hq) rfl) rfl ?_) | (refine zv 100 rfl ?_; refine zY rfl (by kernel_rfl) rfl (zo (K := []) (Rs' := [_]) [0] (by decide) rfl (wZ (IntKind.i64.wrap (most + 1)) (beC 4 c) h1) (.cons rfl rfl rfl (zm _) (zm _) .nil) (.cons (.ptr rfl) (.cons (.same rfl) .nil)) (fun q hq => by cases hq) rfl) rfl ?_) | refine zD ?_ | refine zB _ rfl (by kernel_rfl) ?_ | refine zV rfl ?_ | refine zW rfl ?_ | refine zC ?_ | with_reducible refine zN ?_ | refine zH ?_ | refine zI ?_ | (with_reducible first | refine zL ?_ | refine zM ?_ | refine zE ?_ | refine zG ?_ | refine zF ?_) | refine zO ?_
  have hq : (beC (IntKind.i64.wrap (most + 1)) (beC 4 c)).code.length ≤ 1000000000 := by rw [y9]; exact h1
  have hD : xB most c = wT (pkV [1, 2, 4, 10] c) (beC (IntKind.i64.wrap (most + 1)) (beC 4 c)) k := by rw [xB, hk]; rfl
  rw [hD, hk]
  generalize hQ : pkV [1, 2, 4, 10] c = q
  generalize hE : beC (IntKind.i64.wrap (most + 1)) (beC 4 c) = d at hq
  refine z9 (α := { j : Nat // j ≤ k }) (fun j => ⟨[.ptr 0 0, .any, .any, .any, .any, .sl 1 0 (wT q d j.1).1.length, I q, I ((k : Int) - j.1), .any, .any, .any, .any, .any, .any, .any, .any, .any, .any, .any, .any, .any, .any, .any, .any, .any, .any, .any], [xS (wT q d j.1).2, rwR (wT q d j.1).1], 1⟩) (fun j => k - j.1) ⟨0, Nat.zero_le _⟩ ?_ ?_
  · refine xH 1 [0, 1] rfl rfl yf (by decide) (.cons rfl rfl rfl rfl (zX (zm _)) (.cons rfl rfl rfl rfl (z5 rfl) .nil)) (by
      repeat' first | exact zj | refine zZ ?_ ?_ | exact zp | exact le_refl rfl | exact zx rfl | exact zk rfl rfl | exact yC (congrArg _ (by simp)))
  · rintro ⟨j, hj⟩
    have hcl : (wT q d j).2.code.length ≤ 1000000000 := by rw [uu]; exact hq
    have hol := tg q d j
    repeat' first | refine zK ?_ | refine zA ?_ | refine zP [] ?_ | (refine isA ?_; refine zd rfl ?_) | (refine isL ?_; refine zU rfl (by kernel_rfl) rfl rfl ?_) | (refine zb rfl ?_; refine zT rfl (by kernel_rfl) rfl rfl ?_) | refine zD ?_ | refine zB _ rfl (by kernel_rfl) ?_ | refine zV rfl ?_ | refine zW rfl ?_ | refine zC ?_ | with_reducible refine zN ?_ | refine zH ?_ | refine zI ?_ | (with_reducible first | refine zL ?_ | refine zM ?_ | refine zE ?_ | refine zG ?_ | refine zF ?_) | refine zO ?_
    refine zh rfl (fun h => ?_) (fun h => ?_)
    · have hlt : j < k := by have := of_decide_eq_true h; simp only at this; omega
      repeat' first | (refine isA ?_; refine zc rfl (yS rfl rfl rfl rfl rfl) rfl ?_) | refine zK ?_ | refine zA ?_ | refine zP [] ?_ | (refine isA ?_; refine zd rfl ?_) | (refine isL ?_; refine zU rfl (by kernel_rfl) rfl rfl ?_) | (refine zb rfl ?_; refine zT rfl (by kernel_rfl) rfl rfl ?_) | (refine zu 112 ?_; refine zc rfl (zo (K := []) (Rs' := [_]) [0] (by decide) rfl (ln q (wT q d j).2 hcl) (.cons rfl rfl rfl (zm _) (zm _) .nil) (.cons (.ptr rfl) (.cons (.same rfl) .nil)) (fun q hq => by cases hq) rfl) rfl ?_) | (refine zv 112 rfl ?_; refine zY rfl (by kernel_rfl) rfl (zo (K := []) (Rs' := [_]) [0] (by decide) rfl (ln q (wT q d j).2 hcl) (.cons rfl rfl rfl (zm _) (zm _) .nil) (.cons (.ptr rfl) (.cons (.same rfl) .nil)) (fun q hq => by cases hq) rfl) rfl ?_) | (refine xR ?_; refine zc rfl (yV (t := rwT) (xs := (wT q d j).1) (ys := [(y5 q (wT q d j).2).1]) rfl rfl rfl rfl (.lst _ _) (by rw [hol]; simp; omega) rfl) rfl ?_) | (refine xC rfl ?_; refine zY rfl (by kernel_rfl) rfl (yV (t := rwT) (xs := (wT q d j).1) (ys := [(y5 q (wT q d j).2).1]) rfl rfl rfl rfl (.lst _ _) (by rw [hol]; simp; omega) rfl) rfl ?_) | refine zD ?_ | refine zB _ rfl (by kernel_rfl) ?_ | refine zV rfl ?_ | refine zW rfl ?_ | refine zC ?_ | with_reducible refine zN ?_ | refine zH ?_ | refine zI ?_ | (with_reducible first | refine zL ?_ | refine zM ?_ | refine zE ?_ | refine zG ?_ | refine zF ?_) | refine zO ?_
      refine ⟨⟨j + 1, hlt⟩, by simp only; omega, ?_⟩
      exact xH 1 [0, 2] rfl rfl yf (by decide) (.cons rfl rfl rfl rfl (zX (zm _)) (.cons rfl rfl rfl rfl (zX (zJ _ _)) .nil)) (by
        repeat' first | exact zj | refine zZ ?_ ?_ | exact zp | exact le_refl rfl | exact zx rfl | exact zk rfl rfl | exact yC (congrArg _ (show (k : Int) - ((j + 1 : Nat) : Int) = IntKind.i64.wrap ((k : Int) - (j : Int) - 1) by rw [IntKind.wrap_i64]; omega)))
    · have hge : j = k := by have := of_decide_eq_false h; simp only at this; omega
      subst hge
      repeat' first | refine zK ?_ | refine zA ?_ | refine zP [] ?_ | (refine isA ?_; refine zd rfl ?_) | (refine isL ?_; refine zU rfl (by kernel_rfl) rfl rfl ?_) | (refine zb rfl ?_; refine zT rfl (by kernel_rfl) rfl rfl ?_) | exact ug 1 [0, 1] yf (by decide) rfl (zk rfl rfl) (.cons rfl rfl rfl rfl (zX (zm _)) (.cons rfl rfl rfl rfl (zX (zJ _ _)) .nil)) | refine zD ?_ | refine zB _ rfl (by kernel_rfl) ?_ | refine zV rfl ?_ | refine zW rfl ?_ | refine zC ?_ | with_reducible refine zN ?_ | refine zH ?_ | refine zI ?_ | (with_reducible first | refine zL ?_ | refine zM ?_ | refine zE ?_ | refine zG ?_ | refine zF ?_) | refine zO ?_
def v9 (c : Cur) : Rw × Cur :=
  cond (decide (beV 8 (y5 10 c).2 = 0)) (⟨pkV [-1, 10] (beC 8 (y5 10 c).2), (y5 10 c).1.b, (y5 10 c).1.c⟩, beC 2 (beC 8 (y5 10 c).2))
    (cond (decide (beV 8 (y5 10 c).2 = 1)) (⟨(y5 10 c).1.a, pkV [-1, 100, 99] (beC 8 (y5 10 c).2), (y5 10 c).1.c⟩, beC 3 (beC 8 (y5 10 c).2))
      (cond (decide (beV 8 (y5 10 c).2 = 2)) (⟨(y5 10 c).1.a, (y5 10 c).1.b, pkV [-1, 4] (beC 8 (y5 10 c).2)⟩, beC 2 (beC 8 (y5 10 c).2)) ((y5 10 c).1, beC 8 (y5 10 c).2)))
theorem ke (c : Cur) : (v9 c).2.code = c.code := by
  unfold v9
  cases decide (beV 8 (y5 10 c).2 = 0) <;> cases decide (beV 8 (y5 10 c).2 = 1) <;> cases decide (beV 8 (y5 10 c).2 = 2) <;> simp [y9, th]
theorem cB (c : Cur) (hl : c.code.length ≤ 1000000000) : zz Go.Proofs.Try.prog 123 [.ptr 0 0] [xS c] (.agg (rwE (v9 c).1)) [xS (v9 c).2] true := by
  have h1 : (y5 10 c).2.code.length ≤ 1000000000 := by rw [th]; exact hl
  have h2 : (beC 8 (y5 10 c).2).code.length ≤ 1000000000 := by rw [y9]; exact h1
  refine wJ 2 78 Go.Proofs.Try.func123 rfl rfl ?_
  simp only [Go.Proofs.Try.ntmps123, List.length_cons, List.length_nil, Nat.reduceAdd, Nat.reduceSub, List.replicate_succ, List.replicate_zero, List.cons_append, List.nil_append]
  repeat' first | refine zK ?_ | refine zA ?_ | refine zP [] ?_ | (refine isA ?_; refine zd rfl ?_) | (refine isL ?_; refine zU rfl (by kernel_rfl) rfl rfl ?_) | (refine zb rfl ?_; refine zT rfl (by kernel_rfl) rfl rfl ?_) | (refine zu 112 ?_; refine zc rfl (zo (K := []) (Rs' := [_]) [0] (by decide) rfl (ln 10 c hl) (.cons rfl rfl rfl (zm _) (zm _) .nil) (.cons (.ptr rfl) (.cons (.same rfl) .nil)) (fun q hq => by cases hq) rfl) rfl ?_) | (refine zv 112 rfl ?_; refine zY rfl (by kernel_rfl) rfl (zo (K := []) (Rs' := [_]) [0] (by decide) rfl (ln 10 c hl) (.cons rfl rfl rfl (zm _) (zm _) .nil) (.cons (.ptr rfl) (.cons (.same rfl) .nil)) (fun q hq => by cases hq) rfl) rfl ?_) | (refine zu 100 ?_; refine zc rfl (zo (K := []) (Rs' := [_]) [0] (by decide) rfl (wZ 8 (y5 10 c).2 h1) (.cons rfl rfl rfl (zm _) (zm _) .nil) (.cons (.ptr rfl) (.cons (.same rfl) .nil)) (fun q hq => by cases hq) rfl) rfl ?_) | (refine zv 100 rfl ?_; refine zY rfl (by kernel_rfl) rfl (zo (K := []) (Rs' := [_]) [0] (by decide) rfl (wZ 8 (y5 10 c).2 h1) (.cons rfl rfl rfl (zm _) (zm _) .nil) (.cons (.ptr rfl) (.cons (.same rfl) .nil)) (fun q hq => by cases hq) rfl) rfl ?_) | refine zD ?_ | refine zB _ rfl (by kernel_rfl) ?_ | refine zV rfl ?_ | refine zW rfl ?_ | refine zC ?_ | with_reducible refine zN ?_ | refine zH ?_ | refine zI ?_ | (with_reducible first | refine zL ?_ | refine zM ?_ | refine zE ?_ | refine zG ?_ | refine zF ?_) | refine zO ?_
  refine zh rfl (fun b0 => ?_) (fun b0 => ?_)
  · skip
    have D : v9 c = (⟨pkV [-1, 10] (beC 8 (y5 10 c).2), (y5 10 c).1.b, (y5 10 c).1.c⟩, beC 2 (beC 8 (y5 10 c).2)) := by rw [v9, b0]; rfl
    repeat' first | (refine isA ?_; refine zc rfl (yS rfl rfl rfl rfl rfl) rfl ?_) | refine zK ?_ | refine zA ?_ | refine zP [] ?_ | (refine isA ?_; refine zd rfl ?_) | (refine isL ?_; refine zU rfl (by kernel_rfl) rfl rfl ?_) | (refine zb rfl ?_; refine zT rfl (by kernel_rfl) rfl rfl ?_) | (refine zu 111 ?_; refine zc rfl (zo (K := []) (Rs' := [_]) [0] (by decide) rfl (wD [-1, 10] (beC 8 (y5 10 c).2) h2 (Nat.zero_lt_succ _)) (.cons rfl rfl rfl (zm _) (zm _) .nil) (.cons (.ptr rfl) (.cons (.same rfl) .nil)) (fun q hq => by cases hq) rfl) rfl ?_) | (refine zv 111 rfl ?_; refine zY rfl (by kernel_rfl) rfl (zo (K := []) (Rs' := [_]) [0] (by decide) rfl (wD [-1, 10] (beC 8 (y5 10 c).2) h2 (Nat.zero_lt_succ _)) (.cons rfl rfl rfl (zm _) (zm _) .nil) (.cons (.ptr rfl) (.cons (.same rfl) .nil)) (fun q hq => by cases hq) rfl) rfl ?_) | exact (by rw [D]; exact qF (yM rfl rfl rfl rfl rfl) (le_refl rfl) (.cons rfl rfl rfl rfl (zX (zm _)) .nil)) | refine zD ?_ | refine zB _ rfl (by kernel_rfl) ?_ | refine zV rfl ?_ | refine zW rfl ?_ | refine zC ?_ | with_reducible refine zN ?_ | refine zH ?_ | refine zI ?_ | (with_reducible first | refine zL ?_ | refine zM ?_ | refine zE ?_ | refine zG ?_ | refine zF ?_) | refine zO ?_
  · repeat' first | refine zK ?_ | refine zA ?_ | refine zP [] ?_ | (refine isA ?_; refine zd rfl ?_) | (refine isL ?_; refine zU rfl (by kernel_rfl) rfl rfl ?_) | (refine zb rfl ?_; refine zT rfl (by kernel_rfl) rfl rfl ?_) | refine zD ?_ | refine zB _ rfl (by kernel_rfl) ?_ | refine zV rfl ?_ | refine zW rfl ?_ | refine zC ?_ | with_reducible refine zN ?_ | refine zH ?_ | refine zI ?_ | (with_reducible first | refine zL ?_ | refine zM ?_ | refine zE ?_ | refine zG ?_ | refine zF ?_) | refine zO ?_
    refine zh rfl (fun b1 => ?_) (fun b1 => ?_)
    · skip
      have D : v9 c = (⟨(y5 10 c).1.a, pkV [-1, 100, 99] (beC 8 (y5 10 c).2), (y5 10 c).1.c⟩, beC 3 (beC 8 (y5 10 c).2)) := by rw [v9, b0, b1]; rfl
      repeat' first | (refine isA ?_; refine zc rfl (yS rfl rfl rfl rfl rfl) rfl ?_) | refine zK ?_ | refine zA ?_ | refine zP [] ?_ | (refine isA ?_; refine zd rfl ?_) | (refine isL ?_; refine zU rfl (by kernel_rfl) rfl rfl ?_) | (refine zb rfl ?_; refine zT rfl (by kernel_rfl) rfl rfl ?_) | (refine zu 111 ?_; refine zc rfl (zo (K := []) (Rs' := [_]) [0] (by decide) rfl (wD [-1, 100, 99] (beC 8 (y5 10 c).2) h2 (Nat.zero_lt_succ _)) (.cons rfl rfl rfl (zm _) (zm _) .nil) (.cons (.ptr rfl) (.cons (.same rfl) .nil)) (fun q hq => by cases hq) rfl) rfl ?_) | (refine zv 111 rfl ?_; refine zY rfl (by kernel_rfl) rfl (zo (K := []) (Rs' := [_]) [0] (by decide) rfl (wD [-1, 100, 99] (beC 8 (y5 10 c).2) h2 (Nat.zero_lt_succ _)) (.cons rfl rfl rfl (zm _) (zm _) .nil) (.cons (.ptr rfl) (.cons (.same rfl) .nil)) (fun q hq => by cases hq) rfl) rfl ?_) | exact (by rw [D]; exact qF (yM rfl rfl rfl rfl rfl) (le_refl rfl) (.cons rfl rfl rfl rfl (zX (zm _)) .nil)) | refine zD ?_ | refine zB _ rfl (by kernel_rfl) ?_ | refine zV rfl ?_ | refine zW rfl ?_ | refine zC ?_ | with_reducible refine zN ?_ | refine zH ?_ | refine zI ?_ | (with_reducible first | refine zL ?_ | refine zM ?_ | refine zE ?_ | refine zG ?_ | refine zF ?_) | refine zO ?_
    · repeat' first | refine zK ?_ | refine zA ?_ | refine zP [] ?_ | (refine isA ?_; refine zd rfl ?_) | (refine isL ?_; refine zU rfl (by kernel_rfl) rfl rfl ?_) | (refine zb rfl ?_; refine zT rfl (by kernel_rfl) rfl rfl ?_) | refine zD ?_ | refine zB _ rfl (by kernel_rfl) ?_ | refine zV rfl ?_ | refine zW rfl ?_ | refine zC ?_ | with_reducible refine zN ?_ | refine zH ?_ | refine zI ?_ | (with_reducible first | refine zL ?_ | refine zM ?_ | refine zE ?_ | refine zG ?_ | refine zF ?_) | refine zO ?_
      refine zh rfl (fun b2 => ?_) (fun b2 => ?_)
      · skip
        have D : v9 c = (⟨(y5 10 c).1.a, (y5 10 c).1.b, pkV [-1, 4] (beC 8 (y5 10 c).2)⟩, beC 2 (beC 8 (y5 10 c).2)) := by rw [v9, b0, b1, b2]; rfl
        repeat' first | (refine isA ?_; refine zc rfl (yS rfl rfl rfl rfl rfl) rfl ?_) | refine zK ?_ | refine zA ?_ | refine zP [] ?_ | (refine isA ?_; refine zd rfl ?_) | (refine isL ?_; refine zU rfl (by kernel_rfl) rfl rfl ?_) | (refine zb rfl ?_; refine zT rfl (by kernel_rfl) rfl rfl ?_) | (refine zu 111 ?_; refine zc rfl (zo (K := []) (Rs' := [_]) [0] (by decide) rfl (wD [-1, 4] (beC 8 (y5 10 c).2) h2 (Nat.zero_lt_succ _)) (.cons rfl rfl rfl (zm _) (zm _) .nil) (.cons (.ptr rfl) (.cons (.same rfl) .nil)) (fun q hq => by cases hq) rfl) rfl ?_) | (refine zv 111 rfl ?_; refine zY rfl (by kernel_rfl) rfl (zo (K := []) (Rs' := [_]) [0] (by decide) rfl (wD [-1, 4] (beC 8 (y5 10 c).2) h2 (Nat.zero_lt_succ _)) (.cons rfl rfl rfl (zm _) (zm _) .nil) (.cons (.ptr rfl) (.cons (.same rfl) .nil)) (fun q hq => by cases hq) rfl) rfl ?_) | exact (by rw [D]; exact qF (yM rfl rfl rfl rfl rfl) (le_refl rfl) (.cons rfl rfl rfl rfl (zX (zm _)) .nil)) | refine zD ?_ | refine zB _ rfl (by kernel_rfl) ?_ | refine zV rfl ?_ | refine zW rfl ?_ | refine zC ?_ | with_reducible refine zN ?_ | refine zH ?_ | refine zI ?_ | (with_reducible first | refine zL ?_ | refine zM ?_ | refine zE ?_ | refine zG ?_ | refine zF ?_) | refine zO ?_
      · skip
        have D : v9 c = ((y5 10 c).1, beC 8 (y5 10 c).2) := by rw [v9, b0, b1, b2]; rfl
        repeat' first | refine zK ?_ | refine zA ?_ | refine zP [] ?_ | (refine isA ?_; refine zd rfl ?_) | (refine isL ?_; refine zU rfl (by kernel_rfl) rfl rfl ?_) | (refine zb rfl ?_; refine zT rfl (by kernel_rfl) rfl rfl ?_) | exact (by rw [D]; exact qF (yM rfl rfl rfl rfl rfl) (le_refl rfl) (.cons rfl rfl rfl rfl (zX (zm _)) .nil)) | refine zD ?_ | refine zB _ rfl (by kernel_rfl) ?_ | refine zV rfl ?_ | refine zW rfl ?_ | refine zC ?_ | with_reducible refine zN ?_ | refine zH ?_ | refine zI ?_ | (with_reducible first | refine zL ?_ | refine zM ?_ | refine zE ?_ | refine zG ?_ | refine zF ?_) | refine zO ?_
def wM (most : Int) (c : Cur) : List Rw × Cur :=
  cond (decide (beV 14 (xB most c).2 = 0)) ((xB most c).1 ++ [(v9 (beC 14 (xB most c).2)).1], (v9 (beC 14 (xB most c).2)).2) ((xB most c).1, beC 14 (xB most c).2)
theorem ma (most : Int) (c : Cur) : (wM most c).2.code = c.code := by
  unfold wM
  cases decide (beV 14 (xB most c).2 = 0) <;> simp [y9, sx, ke]
theorem kZ {most : Int} (h0 : 0 ≤ most) (h1 : most ≤ 1000) (c : Cur) : ((wM most c).1.length : Int) ≤ most + 1 := by
  have := qg h0 h1 c
  unfold wM
  cases decide (beV 14 (xB most c).2 = 0) <;> simp <;> omega
theorem bJ (most : Int) (m0 : 0 ≤ most) (m1 : most ≤ 1000) (c : Cur) (hl : c.code.length ≤ 1000000000) : zz Go.Proofs.Try.prog 91 [.ptr 0 0, I most] [xS c] (.sl 1 0 (wM most c).1.length) [xS (wM most c).2, rwR (wM most c).1] true := by
  have h1 : (xB most c).2.code.length ≤ 1000000000 := by rw [sx]; exact hl
  have h2 : (beC 14 (xB most c).2).code.length ≤ 1000000000 := by rw [y9]; exact h1
  have hrl := qg m0 m1 c
  refine zw [4] Go.Proofs.Try.func91 rfl rfl ?_
  simp only [Go.Proofs.Try.ntmps91, List.length_cons, List.length_nil, Nat.reduceAdd, Nat.reduceSub, List.replicate_succ, List.replicate_zero, List.cons_append, List.nil_append]
  repeat' first | refine zK ?_ | refine zA ?_ | refine zP [] ?_ | (refine isA ?_; refine zd rfl ?_) | (refine isL ?_; refine zU rfl (by kernel_rfl) rfl rfl ?_) | (refine zb rfl ?_; refine zT rfl (by kernel_rfl) rfl rfl ?_) | (refine zu 110 ?_; refine zc rfl (nG (args := [_]) 1 0 (fW most m0 m1 c hl) rfl rfl rfl rfl (zJ _ _) rfl rfl rfl) rfl ?_) | (refine zv 110 rfl ?_; refine zY rfl (by kernel_rfl) rfl (nG (args := [_]) 1 0 (fW most m0 m1 c hl) rfl rfl rfl rfl (zJ _ _) rfl rfl rfl) rfl ?_) | (refine zu 113 ?_; refine zc rfl (zo (K := []) (Rs' := [_]) [0] (by decide) rfl (mZ 14 (xB most c).2 h1) (.cons rfl rfl rfl (zm _) (zm _) .nil) (.cons (.ptr rfl) (.cons (.same rfl) .nil)) (fun q hq => by cases hq) rfl) rfl ?_) | (refine zv 113 rfl ?_; refine zY rfl (by kernel_rfl) rfl (zo (K := []) (Rs' := [_]) [0] (by decide) rfl (mZ 14 (xB most c).2 h1) (.cons rfl rfl rfl (zm _) (zm _) .nil) (.cons (.ptr rfl) (.cons (.same rfl) .nil)) (fun q hq => by cases hq) rfl) rfl ?_) | refine zD ?_ | refine zB _ rfl (by kernel_rfl) ?_ | refine zV rfl ?_ | refine zW rfl ?_ | refine zC ?_ | with_reducible refine zN ?_ | refine zH ?_ | refine zI ?_ | (with_reducible first | refine zL ?_ | refine zM ?_ | refine zE ?_ | refine zG ?_ | refine zF ?_) | refine zO ?_
  refine zh rfl (fun b0 => ?_) (fun b0 => ?_)
  · skip
    have D : wM most c = ((xB most c).1 ++ [(v9 (beC 14 (xB most c).2)).1], (v9 (beC 14 (xB most c).2)).2) := by rw [wM, b0]; rfl
    repeat' first | (refine isA ?_; refine zc rfl (yS rfl rfl rfl rfl rfl) rfl ?_) | refine zK ?_ | refine zA ?_ | refine zP [] ?_ | (refine isA ?_; refine zd rfl ?_) | (refine isL ?_; refine zU rfl (by kernel_rfl) rfl rfl ?_) | (refine zb rfl ?_; refine zT rfl (by kernel_rfl) rfl rfl ?_) | (refine zu 123 ?_; refine zc rfl (zo (K := []) (Rs' := [_]) [0] (by decide) rfl (cB (beC 14 (xB most c).2) h2) (.cons rfl rfl rfl (zm _) (zm _) .nil) (.cons (.ptr rfl) .nil) (fun q hq => by cases hq) rfl) rfl ?_) | (refine zv 123 rfl ?_; refine zY rfl (by kernel_rfl) rfl (zo (K := []) (Rs' := [_]) [0] (by decide) rfl (cB (beC 14 (xB most c).2) h2) (.cons rfl rfl rfl (zm _) (zm _) .nil) (.cons (.ptr rfl) .nil) (fun q hq => by cases hq) rfl) rfl ?_) | (refine xR ?_; refine zc rfl (yV (t := rwT) (xs := (xB most c).1) (ys := [(v9 (beC 14 (xB most c).2)).1]) rfl rfl rfl rfl (.lst _ _) (by simp; omega) rfl) rfl ?_) | (refine xC rfl ?_; refine zY rfl (by kernel_rfl) rfl (yV (t := rwT) (xs := (xB most c).1) (ys := [(v9 (beC 14 (xB most c).2)).1]) rfl rfl rfl rfl (.lst _ _) (by simp; omega) rfl) rfl ?_) | exact (by rw [D]; exact ug 1 [0, 2] yf (by decide) rfl (zk rfl rfl) (.cons rfl rfl rfl rfl (zX (zm _)) (.cons rfl rfl rfl rfl (zX (zJ _ _)) .nil))) | refine zD ?_ | refine zB _ rfl (by kernel_rfl) ?_ | refine zV rfl ?_ | refine zW rfl ?_ | refine zC ?_ | with_reducible refine zN ?_ | refine zH ?_ | refine zI ?_ | (with_reducible first | refine zL ?_ | refine zM ?_ | refine zE ?_ | refine zG ?_ | refine zF ?_) | refine zO ?_
  · skip
    have D : wM most c = ((xB most c).1, beC 14 (xB most c).2) := by rw [wM, b0]; rfl
    repeat' first | refine zK ?_ | refine zA ?_ | refine zP [] ?_ | (refine isA ?_; refine zd rfl ?_) | (refine isL ?_; refine zU rfl (by kernel_rfl) rfl rfl ?_) | (refine zb rfl ?_; refine zT rfl (by kernel_rfl) rfl rfl ?_) | exact (by rw [D]; exact ug 1 [0, 1] yf (by decide) rfl (zk rfl rfl) (.cons rfl rfl rfl rfl (zX (zm _)) (.cons rfl rfl rfl rfl (zX (zJ _ _)) .nil))) | refine zD ?_ | refine zB _ rfl (by kernel_rfl) ?_ | refine zV rfl ?_ | refine zW rfl ?_ | refine zC ?_ | with_reducible refine zN ?_ | refine zH ?_ | refine zI ?_ | (with_reducible first | refine zL ?_ | refine zM ?_ | refine zE ?_ | refine zG ?_ | refine zF ?_) | refine zO ?_
end Go.Proofs.Ytojcojanokhnaaa.Ab
namespace Go.Proofs.Ytojcojanokhnaaa.Ab
open Go.RowKit
theorem frzG {P : Program} {f : FuncId} {cargs : List V} {c c' : Cur} {R : Reg} {r r' : V} {al : Bool} (h : zz P f cargs [xS c] r [xS c', R] al) (hp : Pur true [xw (xS c'), R] r r') : zz P f cargs [xS c] r' [xS c'] true :=
  zz.frozenK (Rs := [xS c]) (Rs' := [xS c']) (K := [R]) h rfl (fun q hq => by simp at hq; subst hq; exact zm _) (fun i q q' h1 h2 h3 => by
    cases i with
    | zero => simp at h2; subst h2; rfl
    | succ i => simp at h2) hp
theorem dM (most : Int) (m0 : 0 ≤ most) (m1 : most ≤ 1000) (c : Cur) (hl : c.code.length ≤ 1000000000) : zz Go.Proofs.Try.prog 91 [.ptr 0 0, I most] [xS c] (rwL (wM most c).1) [xS (wM most c).2] true :=
  frzG (bJ most m0 m1 c hl) (zr rfl)
abbrev giR (gs : List Int) : Reg := xL xf 3 gs
def giF (c : Cur) : Nat → List Int × Cur
  | 0 => ([], c)
  | i + 1 => ((giF c i).1 ++ [IntKind.i64.wrap (8 + pkV [0, 0, 1, 4, 12, 40] (giF c i).2)], beC 6 (giF c i).2)
theorem pT (c : Cur) : ∀ i, (giF c i).1.length = i
  | 0 => rfl
  | i + 1 => by rw [giF, List.length_append, pT c i]; rfl
theorem nf (c : Cur) : ∀ i, (giF c i).2.code = c.code
  | 0 => rfl
  | i + 1 => by rw [giF, y9, nf c i]
def glK (c : Cur) : Int := IntKind.i64.wrap (1 + beV 4 c)
theorem jz (c : Cur) : 1 ≤ glK c ∧ glK c ≤ 4 := by
  obtain ⟨r0, r1⟩ := vK (n := 4) (by decide) c
  rw [glK, IntKind.wrap_i64]
  omega
def glE (p : List Int × Cur) : List Int × Cur := cond (decide (beV 14 p.2 = 0)) (p.1.set 0 (pkV [7, 61] (beC 14 p.2)), beC 2 (beC 14 p.2)) (p.1, beC 14 p.2)
def glD (c : Cur) : List Int × Cur := glE (giF (beC 4 c) (glK c).toNat)
theorem el (c : Cur) : (glD c).1.length ≤ 4 := by
  have h := pT (beC 4 c) (glK c).toNat
  have := jz c
  rw [glD, glE]
  cases decide (beV 14 (giF (beC 4 c) (glK c).toNat).2 = 0) <;> simp only [cond_true, cond_false, List.length_set] <;> omega
theorem dK (c : Cur) (hl : c.code.length ≤ 1000000000) : zz Go.Proofs.Try.prog 92 [.ptr 0 0] [xS c] (.sl 1 0 (glD c).1.length) [xS (glD c).2, giR (glD c).1] true := by
  have h1 : (beC 4 c).code.length ≤ 1000000000 := by rw [y9]; exact hl
  have hD : glD c = glE (giF (beC 4 c) (glK c).toNat) := rfl
  obtain ⟨k0, k1⟩ := jz c
  have b0 := wZ 4 c hl
  have hk9 : glK c = IntKind.i64.wrap (1 + beV 4 c) := rfl
  obtain ⟨k, hk⟩ : ∃ k : Nat, glK c = k := ⟨(glK c).toNat, by omega⟩
  rw [hk, Int.toNat_natCast] at hD
  rw [hk] at hk9 k0 k1
  generalize beC 4 c = d at h1 b0 hD
  refine zw [2] Go.Proofs.Try.func92 rfl rfl ?_
  simp only [Go.Proofs.Try.ntmps92, List.length_cons, List.length_nil, Nat.reduceAdd, Nat.reduceSub, List.replicate_succ, List.replicate_zero, List.cons_append, List.nil_append]
  repeat' first | refine zK ?_ | refine zA ?_ | refine zP [] ?_ | (refine isA ?_; refine zd rfl ?_) | (refine isL ?_; refine zU rfl (by kernel_rfl) rfl rfl ?_) | (refine zb rfl ?_; refine zT rfl (by kernel_rfl) rfl rfl ?_) | (refine zu 100 ?_; refine zc rfl (zo (K := []) (Rs' := [_]) [0] (by decide) rfl b0 (.cons rfl rfl rfl (zm _) (zm _) .nil) (.cons (.ptr rfl) (.cons (.same rfl) .nil)) (fun q hq => by cases hq) rfl) rfl ?_) | (refine zv 100 rfl ?_; refine zY rfl (by kernel_rfl) rfl (zo (K := []) (Rs' := [_]) [0] (by decide) rfl b0 (.cons rfl rfl rfl (zm _) (zm _) .nil) (.cons (.ptr rfl) (.cons (.same rfl) .nil)) (fun q hq => by cases hq) rfl) rfl ?_) | refine zD ?_ | refine zB _ rfl (by kernel_rfl) ?_ | refine zV rfl ?_ | refine zW rfl ?_ | refine zC ?_ | with_reducible refine zN ?_ | refine zH ?_ | refine zI ?_ | (with_reducible first | refine zL ?_ | refine zM ?_ | refine zE ?_ | refine zG ?_ | refine zF ?_) | refine zO ?_
  rw [← hk9]
  refine z9 (α := { p : Nat × (List Int × Cur) // p.1 ≤ k ∧ p.2 = giF d p.1 }) (fun p => ⟨[.ptr 0 0, .any, .any, .sl 1 0 p.1.2.1.length, I ((k : Int) - p.1.1), .any, .any, .any, .any, .any, .any, .any, .any, .any, .any, .any, .any, .any, .any, .any, .any, .any, .any, .any, .any, .any, .any, .any], [xS p.1.2.2, giR p.1.2.1], 1⟩) (fun p => k - p.1.1) ⟨(0, ([], d)), Nat.zero_le _, rfl⟩ ?_ ?_
  · exact xH 1 [0, 1] rfl rfl yf (by decide) (.cons rfl rfl rfl rfl (zX (zm _)) (.cons rfl rfl rfl rfl (z5 rfl) .nil)) (by
      repeat' first | exact zj | refine zZ ?_ ?_ | exact zp | exact le_refl rfl | exact zx rfl | exact zk rfl rfl | exact yC (congrArg _ (by simp)))
  · rintro ⟨⟨j, t, e⟩, hj, ht⟩
    simp only at hj ht
    have htl := pT d j
    have htc := nf d j
    rw [← ht] at htl htc
    simp only at htl htc
    have hel : e.code.length ≤ 1000000000 := by rw [htc]; exact h1
    repeat' first | refine zK ?_ | refine zA ?_ | refine zP [] ?_ | (refine isA ?_; refine zd rfl ?_) | (refine isL ?_; refine zU rfl (by kernel_rfl) rfl rfl ?_) | (refine zb rfl ?_; refine zT rfl (by kernel_rfl) rfl rfl ?_) | refine zD ?_ | refine zB _ rfl (by kernel_rfl) ?_ | refine zV rfl ?_ | refine zW rfl ?_ | refine zC ?_ | with_reducible refine zN ?_ | refine zH ?_ | refine zI ?_ | (with_reducible first | refine zL ?_ | refine zM ?_ | refine zE ?_ | refine zG ?_ | refine zF ?_) | refine zO ?_
    refine zh rfl (fun h => ?_) (fun h => ?_)
    · have hlt : j < k := by have := of_decide_eq_true h; simp only at this; omega
      have g1 := wD [0, 0, 1, 4, 12, 40] e hel (by decide)
      have ht' : giF d (j + 1) = (t ++ [IntKind.i64.wrap (8 + pkV [0, 0, 1, 4, 12, 40] e)], beC 6 e) := by rw [giF, ← ht]
      generalize pkV [0, 0, 1, 4, 12, 40] e = g at g1 ht'
      repeat' first | (refine isA ?_; refine zc rfl (yS (cs := [0, 0, 1, 4, 12, 40].map I) rfl rfl rfl rfl rfl) rfl ?_) | refine zK ?_ | refine zA ?_ | refine zP [] ?_ | (refine isA ?_; refine zd rfl ?_) | (refine isL ?_; refine zU rfl (by kernel_rfl) rfl rfl ?_) | (refine zb rfl ?_; refine zT rfl (by kernel_rfl) rfl rfl ?_) | (refine zu 111 ?_; refine zc rfl (zo (K := []) (Rs' := [_]) [0] (by decide) rfl g1 (.cons rfl rfl rfl (zm _) (zm _) .nil) (.cons (.ptr rfl) (.cons (.same rfl) .nil)) (fun q hq => by cases hq) rfl) rfl ?_) | (refine zv 111 rfl ?_; refine zY rfl (by kernel_rfl) rfl (zo (K := []) (Rs' := [_]) [0] (by decide) rfl g1 (.cons rfl rfl rfl (zm _) (zm _) .nil) (.cons (.ptr rfl) (.cons (.same rfl) .nil)) (fun q hq => by cases hq) rfl) rfl ?_) | (refine xR ?_; refine zc rfl (yV (t := xf) (xs := t) (ys := [IntKind.i64.wrap (8 + g)]) rfl rfl rfl rfl (xc rfl rfl rfl rfl) (by simp; omega) rfl) rfl ?_) | (refine xC rfl ?_; refine zY rfl (by kernel_rfl) rfl (yV (t := xf) (xs := t) (ys := [IntKind.i64.wrap (8 + g)]) rfl rfl rfl rfl (xc rfl rfl rfl rfl) (by simp; omega) rfl) rfl ?_) | refine zD ?_ | refine zB _ rfl (by kernel_rfl) ?_ | refine zV rfl ?_ | refine zW rfl ?_ | refine zC ?_ | with_reducible refine zN ?_ | refine zH ?_ | refine zI ?_ | (with_reducible first | refine zL ?_ | refine zM ?_ | refine zE ?_ | refine zG ?_ | refine zF ?_) | refine zO ?_
      refine ⟨⟨(j + 1, (t ++ [IntKind.i64.wrap (8 + g)], beC 6 e)), hlt, ht'.symm⟩, by simp only; omega, ?_⟩
      exact xH 1 [0, 3] rfl rfl yf (by decide) (.cons rfl rfl rfl rfl (zX (zm _)) (.cons rfl rfl rfl rfl (zX (zJ _ _)) .nil)) (by
        repeat' first | exact zj | refine zZ ?_ ?_ | exact zp | exact le_refl rfl | exact zx rfl | exact zk rfl rfl | exact yC (congrArg _ (show (k : Int) - ((j + 1 : Nat) : Int) = IntKind.i64.wrap ((k : Int) - (j : Int) - 1) by rw [IntKind.wrap_i64]; omega)))
    · have hge : j = k := by have := of_decide_eq_false h; simp only at this; omega
      subst hge
      rw [← ht] at hD
      have f1 := mZ 14 e hel
      have h6 : (beC 14 e).code.length ≤ 1000000000 := by rw [y9]; exact hel
      repeat' first | refine zK ?_ | refine zA ?_ | refine zP [] ?_ | (refine isA ?_; refine zd rfl ?_) | (refine isL ?_; refine zU rfl (by kernel_rfl) rfl rfl ?_) | (refine zb rfl ?_; refine zT rfl (by kernel_rfl) rfl rfl ?_) | (refine zu 113 ?_; refine zc rfl (zo (K := []) (Rs' := [_]) [0] (by decide) rfl f1 (.cons rfl rfl rfl (zm _) (zm _) .nil) (.cons (.ptr rfl) (.cons (.same rfl) .nil)) (fun q hq => by cases hq) rfl) rfl ?_) | (refine zv 113 rfl ?_; refine zY rfl (by kernel_rfl) rfl (zo (K := []) (Rs' := [_]) [0] (by decide) rfl f1 (.cons rfl rfl rfl (zm _) (zm _) .nil) (.cons (.ptr rfl) (.cons (.same rfl) .nil)) (fun q hq => by cases hq) rfl) rfl ?_) | refine zD ?_ | refine zB _ rfl (by kernel_rfl) ?_ | refine zV rfl ?_ | refine zW rfl ?_ | refine zC ?_ | with_reducible refine zN ?_ | refine zH ?_ | refine zI ?_ | (with_reducible first | refine zL ?_ | refine zM ?_ | refine zE ?_ | refine zG ?_ | refine zF ?_) | refine zO ?_
      refine zh rfl (fun b0 => ?_) (fun b0 => ?_)
      · skip
        have D : glD c = (t.set 0 (pkV [7, 61] (beC 14 e)), beC 2 (beC 14 e)) := by rw [hD, glE, b0]; rfl
        have f2 := wD [7, 61] (beC 14 e) h6 (by decide)
        rw [D]
        have hsl : (t.set 0 (pkV [7, 61] (beC 14 e))).length = t.length := List.length_set
        repeat' first | (refine isA ?_; refine zc rfl (yS (cs := [7, 61].map I) rfl rfl rfl rfl rfl) rfl ?_) | refine zK ?_ | refine zA ?_ | refine zP [] ?_ | (refine isA ?_; refine zd rfl ?_) | (refine isL ?_; refine zU rfl (by kernel_rfl) rfl rfl ?_) | (refine zb rfl ?_; refine zT rfl (by kernel_rfl) rfl rfl ?_) | (refine zu 111 ?_; refine zc rfl (zo (K := []) (Rs' := [_]) [0] (by decide) rfl f2 (.cons rfl rfl rfl (zm _) (zm _) .nil) (.cons (.ptr rfl) (.cons (.same rfl) .nil)) (fun q hq => by cases hq) rfl) rfl ?_) | (refine zv 111 rfl ?_; refine zY rfl (by kernel_rfl) rfl (zo (K := []) (Rs' := [_]) [0] (by decide) rfl f2 (.cons rfl rfl rfl (zm _) (zm _) .nil) (.cons (.ptr rfl) (.cons (.same rfl) .nil)) (fun q hq => by cases hq) rfl) rfl ?_) | (refine yB ?_; refine zc rfl (sL (t := xf) (xs := t) rfl rfl rfl rfl rfl (Int.le_refl 0) (by omega)) rfl ?_) | (refine yA rfl ?_; refine zY rfl (by kernel_rfl) rfl (sL (t := xf) (xs := t) rfl rfl rfl rfl rfl (Int.le_refl 0) (by omega)) rfl ?_) | (refine qV ?_; refine zc rfl (jV (T := xf) (i := 0) (xs := t) (z := pkV [7, 61] (beC 14 e)) rfl rfl rfl rfl rfl rfl (by omega)) rfl ?_) | (refine qU rfl ?_; refine zY rfl (by kernel_rfl) rfl (jV (T := xf) (i := 0) (xs := t) (z := pkV [7, 61] (beC 14 e)) rfl rfl rfl rfl rfl rfl (by omega)) rfl ?_) | exact ug 1 [0, 1] yf (by decide) rfl (zk rfl (by rw [hsl])) (.cons rfl rfl rfl rfl (zX (zm _)) (.cons rfl rfl rfl rfl (zX (zJ _ _)) .nil)) | refine zD ?_ | refine zB _ rfl (by kernel_rfl) ?_ | refine zV rfl ?_ | refine zW rfl ?_ | refine zC ?_ | with_reducible refine zN ?_ | refine zH ?_ | refine zI ?_ | (with_reducible first | refine zL ?_ | refine zM ?_ | refine zE ?_ | refine zG ?_ | refine zF ?_) | refine zO ?_
      · skip
        have D : glD c = (t, beC 14 e) := by rw [hD, glE, b0]; rfl
        rw [D]
        repeat' first | refine zK ?_ | refine zA ?_ | refine zP [] ?_ | (refine isA ?_; refine zd rfl ?_) | (refine isL ?_; refine zU rfl (by kernel_rfl) rfl rfl ?_) | (refine zb rfl ?_; refine zT rfl (by kernel_rfl) rfl rfl ?_) | exact ug 1 [0, 1] yf (by decide) rfl (zk rfl rfl) (.cons rfl rfl rfl rfl (zX (zm _)) (.cons rfl rfl rfl rfl (zX (zJ _ _)) .nil)) | refine zD ?_ | refine zB _ rfl (by kernel_rfl) ?_ | refine zV rfl ?_ | refine zW rfl ?_ | refine zC ?_ | with_reducible refine zN ?_ | refine zH ?_ | refine zI ?_ | (with_reducible first | refine zL ?_ | refine zM ?_ | refine zE ?_ | refine zG ?_ | refine zF ?_) | refine zO ?_
structure RS where
  a : List Rw
  g : List Int
def kU (xs : List Int) : RS := ⟨(wM 12 (ue xs)).1, (glD (wM 12 (ue xs)).2).1⟩
theorem eu (xs : List Int) : (kU xs).a.length ≤ 13 ∧ (kU xs).g.length ≤ 4 := by
  have h1 := kZ (most := 12) (by decide) (by decide) (ue xs)
  exact ⟨by show (wM 12 (ue xs)).1.length ≤ 13; omega, el _⟩
theorem fm (xs : List Int) (hl : xs.length ≤ 1000000000) : zz Go.Proofs.Try.prog 22 [xv u8T xs] [] (.tup [rwL (kU xs).a, gsL (kU xs).g]) [] true := by
  have k0 : (ue xs).code.length ≤ 1000000000 := hl
  have hD : kU xs = ⟨(wM 12 (ue xs)).1, (glD (wM 12 (ue xs)).2).1⟩ := rfl
  have b1 := dM 12 (by decide) (by decide) (ue xs) k0
  have k1 : (wM 12 (ue xs)).2.code.length ≤ 1000000000 := by rw [ma]; exact k0
  generalize wM 12 (ue xs) = p at b1 k1 hD
  have b2 := frzG (dK p.2 k1) (zr (T := xf) rfl)
  rw [hD]
  refine zw [2, 3] Go.Proofs.Try.func22 rfl rfl ?_
  simp only [Go.Proofs.Try.ntmps22, List.length_cons, List.length_nil, Nat.reduceAdd, Nat.reduceSub, List.replicate_succ, List.replicate_zero, List.cons_append, List.nil_append]
  repeat' first | refine zK ?_ | refine zA ?_ | refine zP [] ?_ | (refine isA ?_; refine zd rfl ?_) | (refine isL ?_; refine zU rfl (by kernel_rfl) rfl rfl ?_) | (refine zb rfl ?_; refine zT rfl (by kernel_rfl) rfl rfl ?_) | (refine zu 53 ?_; refine zc rfl (yX rfl (lq xs hl) (.cons (.same rfl) .nil) (fun q hq => by simp at hq; subst hq; exact zm _) rfl rfl) rfl ?_) | (refine zv 53 rfl ?_; refine zY rfl (by kernel_rfl) rfl (yX rfl (lq xs hl) (.cons (.same rfl) .nil) (fun q hq => by simp at hq; subst hq; exact zm _) rfl rfl) rfl ?_) | (refine zu 91 ?_; refine zc rfl (zo (K := []) (Rs' := [_]) [0] (by decide) rfl b1 (.cons rfl rfl rfl (zm _) (zm _) .nil) (.cons (.ptr rfl) (.cons (.same rfl) .nil)) (fun q hq => by cases hq) rfl) rfl ?_) | (refine zv 91 rfl ?_; refine zY rfl (by kernel_rfl) rfl (zo (K := []) (Rs' := [_]) [0] (by decide) rfl b1 (.cons rfl rfl rfl (zm _) (zm _) .nil) (.cons (.ptr rfl) (.cons (.same rfl) .nil)) (fun q hq => by cases hq) rfl) rfl ?_) | (refine zu 92 ?_; refine zc rfl (zo (K := []) (Rs' := [_]) [0] (by decide) rfl b2 (.cons rfl rfl rfl (zm _) (zm _) .nil) (.cons (.ptr rfl) .nil) (fun q hq => by cases hq) rfl) rfl ?_) | (refine zv 92 rfl ?_; refine zY rfl (by kernel_rfl) rfl (zo (K := []) (Rs' := [_]) [0] (by decide) rfl b2 (.cons rfl rfl rfl (zm _) (zm _) .nil) (.cons (.ptr rfl) .nil) (fun q hq => by cases hq) rfl) rfl ?_) | exact d3 rfl (.tup (.cons (.same rfl) (.cons (.same rfl) .nil))) | refine zD ?_ | refine zB _ rfl (by kernel_rfl) ?_ | refine zV rfl ?_ | refine zW rfl ?_ | refine zC ?_ | with_reducible refine zN ?_ | refine zH ?_ | refine zI ?_ | (with_reducible first | refine zL ?_ | refine zM ?_ | refine zE ?_ | refine zG ?_ | refine zF ?_) | refine zO ?_
def et (xs : List Int) : Int := IntKind.i64.wrap (beV 28 (ue xs) - 2)
theorem cj (xs : List Int) : et xs ≤ 25 := by
  obtain ⟨r0, r1⟩ := vK (n := 28) (by decide) (ue xs)
  rw [et, IntKind.wrap_i64]
  omega
theorem fk (xs : List Int) (hl : xs.length ≤ 1000000000) : zz Go.Proofs.Try.prog 27 [xv u8T xs] [] (I (et xs)) [] true := by
  have b1 := wZ 28 (ue xs) hl
  refine zw [2] Go.Proofs.Try.func27 rfl rfl ?_
  simp only [Go.Proofs.Try.ntmps27, List.length_cons, List.length_nil, Nat.reduceAdd, Nat.reduceSub, List.replicate_succ, List.replicate_zero, List.cons_append, List.nil_append]
  repeat' first | refine zK ?_ | refine zA ?_ | refine zP [] ?_ | (refine isA ?_; refine zd rfl ?_) | (refine isL ?_; refine zU rfl (by kernel_rfl) rfl rfl ?_) | (refine zb rfl ?_; refine zT rfl (by kernel_rfl) rfl rfl ?_) | (refine zu 53 ?_; refine zc rfl (yX rfl (lq xs hl) (.cons (.same rfl) .nil) (fun q hq => by simp at hq; subst hq; exact zm _) rfl rfl) rfl ?_) | (refine zv 53 rfl ?_; refine zY rfl (by kernel_rfl) rfl (yX rfl (lq xs hl) (.cons (.same rfl) .nil) (fun q hq => by simp at hq; subst hq; exact zm _) rfl rfl) rfl ?_) | (refine zu 100 ?_; refine zc rfl (zo (K := []) (Rs' := [_]) [0] (by decide) rfl b1 (.cons rfl rfl rfl (zm _) (zm _) .nil) (.cons (.ptr rfl) (.cons (.same rfl) .nil)) (fun q hq => by cases hq) rfl) rfl ?_) | (refine zv 100 rfl ?_; refine zY rfl (by kernel_rfl) rfl (zo (K := []) (Rs' := [_]) [0] (by decide) rfl b1 (.cons rfl rfl rfl (zm _) (zm _) .nil) (.cons (.ptr rfl) (.cons (.same rfl) .nil)) (fun q hq => by cases hq) rfl) rfl ?_) | exact d3 rfl (.same rfl) | refine zD ?_ | refine zB _ rfl (by kernel_rfl) ?_ | refine zV rfl ?_ | refine zW rfl ?_ | refine zC ?_ | with_reducible refine zN ?_ | refine zH ?_ | refine zI ?_ | (with_reducible first | refine zL ?_ | refine zM ?_ | refine zE ?_ | refine zG ?_ | refine zF ?_) | refine zO ?_
theorem fq (xs : List Int) : zz Go.Proofs.Try.prog 11 [xv u8T xs] [] (B (decide ((1048576 : Int) < xs.length))) [] false := by
  refine zw [2] Go.Proofs.Try.func11 rfl rfl ?_
  simp only [Go.Proofs.Try.ntmps11, List.length_cons, List.length_nil, Nat.reduceAdd, Nat.reduceSub, List.replicate_succ, List.replicate_zero, List.cons_append, List.nil_append]
  repeat' first | refine zK ?_ | refine zA ?_ | refine zP [] ?_ | (refine isA ?_; refine zd rfl ?_) | (refine isL ?_; refine zU rfl (by kernel_rfl) rfl rfl ?_) | (refine zb rfl ?_; refine zT rfl (by kernel_rfl) rfl rfl ?_) | exact yG rfl rfl rfl | refine zD ?_ | refine zB _ rfl (by kernel_rfl) ?_ | refine zV rfl ?_ | refine zW rfl ?_ | refine zC ?_ | with_reducible refine zN ?_ | refine zH ?_ | refine zI ?_ | (with_reducible first | refine zL ?_ | refine zM ?_ | refine zE ?_ | refine zG ?_ | refine zF ?_) | refine zO ?_
end Go.Proofs.Ytojcojanokhnaaa.Ab
namespace Go.Proofs.Ytojcojanokhnaaa.Ab
open Go.RowKit
theorem uf (xs : List Int) (hl0 : xs.length ≤ 9223372036854775807) : zz Go.Proofs.Try.prog 4 [xv u8T xs] [] (B true) [] false := by
  refine zw [2] Go.Proofs.Try.func4 rfl rfl ?_
  simp only [Go.Proofs.Try.ntmps4, List.length_cons, List.length_nil, Nat.reduceAdd, Nat.reduceSub, List.replicate_succ, List.replicate_zero, List.cons_append, List.nil_append]
  repeat' first | refine zK ?_ | refine zA ?_ | refine zP [] ?_ | (refine isA ?_; refine zd rfl ?_) | (refine isL ?_; refine zU rfl (by kernel_rfl) rfl rfl ?_) | (refine zb rfl ?_; refine zT rfl (by kernel_rfl) rfl rfl ?_) | (refine zu 11 ?_; refine zc rfl (zQ rfl (fq xs) (.cons (.same rfl) .nil) rfl) rfl ?_) | (refine zv 11 rfl ?_; refine zY rfl (by kernel_rfl) rfl (zQ rfl (fq xs) (.cons (.same rfl) .nil) rfl) rfl ?_) | refine zD ?_ | refine zB _ rfl (by kernel_rfl) ?_ | refine zV rfl ?_ | refine zW rfl ?_ | refine zC ?_ | with_reducible refine zN ?_ | refine zH ?_ | refine zI ?_ | (with_reducible first | refine zL ?_ | refine zM ?_ | refine zE ?_ | refine zG ?_ | refine zF ?_) | refine zO ?_
  refine zh rfl (fun h => ?_) (fun h => ?_)
  · repeat' first | refine zK ?_ | refine zA ?_ | refine zP [] ?_ | (refine isA ?_; refine zd rfl ?_) | (refine isL ?_; refine zU rfl (by kernel_rfl) rfl rfl ?_) | (refine zb rfl ?_; refine zT rfl (by kernel_rfl) rfl rfl ?_) | exact yG rfl rfl rfl | refine zD ?_ | refine zB _ rfl (by kernel_rfl) ?_ | refine zV rfl ?_ | refine zW rfl ?_ | refine zC ?_ | with_reducible refine zN ?_ | refine zH ?_ | refine zI ?_ | (with_reducible first | refine zL ?_ | refine zM ?_ | refine zE ?_ | refine zG ?_ | refine zF ?_) | refine zO ?_
  have hl : xs.length ≤ 1000000000 := by have := of_decide_eq_false h; omega
  have d1 := fm xs hl
  have d2 := fk xs hl
  have hd2 := cj xs
  obtain ⟨la, lg⟩ := eu xs
  generalize kU xs = p at d1 la lg
  obtain ⟨a, gs⟩ := p
  simp only at d1 la lg
  generalize et xs = n at d2 hd2
  have va := qI a (by omega)
  have vg := c_gok gs (by omega)
  cases hb : (avR a && vQ gs) with
  | false =>
    have hbad : avR a = false ∨ vQ gs = false := by
      cases h1 : avR a with
      | false => exact Or.inl rfl
      | true => rw [h1] at hb; exact Or.inr hb
    have c1 := (dI a gs (by omega) (by omega) hbad).frozen (r' := .tup [.agg (roL [] 0 0 0), B false]) (.tup (.cons (.agg (.cons .nil (.cons (.same rfl) (.cons (.same rfl) (.cons (.same rfl) .nil))))) (.cons (.same rfl) .nil)))
    have c2 := dD a gs (by omega) (by omega) hbad
    have e1 := lm [] (by simp)
    rcases Bool.eq_false_or_eq_true (avR a) with ha | ha
    · have hgs : vQ gs = false := by rw [ha] at hb; simpa using hb
      rw [ha] at va
      rw [hgs] at vg
      repeat' first | refine zK ?_ | refine zA ?_ | refine zP [] ?_ | (refine isA ?_; refine zd rfl ?_) | (refine isL ?_; refine zU rfl (by kernel_rfl) rfl rfl ?_) | (refine zb rfl ?_; refine zT rfl (by kernel_rfl) rfl rfl ?_) | (refine zu 22 ?_; refine zc rfl (zQ rfl d1 (.cons (.same rfl) .nil) rfl) rfl ?_) | (refine zv 22 rfl ?_; refine zY rfl (by kernel_rfl) rfl (zQ rfl d1 (.cons (.same rfl) .nil) rfl) rfl ?_) | (refine zu 23 ?_; refine zc rfl (zQ rfl c1 (.cons (.same rfl) (.cons (.same rfl) .nil)) rfl) rfl ?_) | (refine zv 23 rfl ?_; refine zY rfl (by kernel_rfl) rfl (zQ rfl c1 (.cons (.same rfl) (.cons (.same rfl) .nil)) rfl) rfl ?_) | (refine zu 24 ?_; refine zc rfl (zQ rfl c2 (.cons (.same rfl) (.cons (.same rfl) .nil)) rfl) rfl ?_) | (refine zv 24 rfl ?_; refine zY rfl (by kernel_rfl) rfl (zQ rfl c2 (.cons (.same rfl) (.cons (.same rfl) .nil)) rfl) rfl ?_) | (refine zu 16 ?_; refine zc rfl (zQ rfl e1 (.cons (.same rfl) (.cons (.same rfl) .nil)) rfl) rfl ?_) | (refine zv 16 rfl ?_; refine zY rfl (by kernel_rfl) rfl (zQ rfl e1 (.cons (.same rfl) (.cons (.same rfl) .nil)) rfl) rfl ?_) | (refine zu 25 ?_; refine zc rfl (zQ rfl va (.cons (.same rfl) .nil) rfl) rfl ?_) | (refine zv 25 rfl ?_; refine zY rfl (by kernel_rfl) rfl (zQ rfl va (.cons (.same rfl) .nil) rfl) rfl ?_) | (refine zu 26 ?_; refine zc rfl (zQ rfl vg (.cons (.same rfl) .nil) rfl) rfl ?_) | (refine zv 26 rfl ?_; refine zY rfl (by kernel_rfl) rfl (zQ rfl vg (.cons (.same rfl) .nil) rfl) rfl ?_) | exact yG rfl rfl rfl | refine zD ?_ | refine zB _ rfl (by kernel_rfl) ?_ | refine zV rfl ?_ | refine zW rfl ?_ | refine zC ?_ | with_reducible refine zN ?_ | refine zH ?_ | refine zI ?_ | (with_reducible first | refine zL ?_ | refine zM ?_ | refine zE ?_ | refine zG ?_ | refine zF ?_) | refine zO ?_
    · rw [ha] at va
      repeat' first | refine zK ?_ | refine zA ?_ | refine zP [] ?_ | (refine isA ?_; refine zd rfl ?_) | (refine isL ?_; refine zU rfl (by kernel_rfl) rfl rfl ?_) | (refine zb rfl ?_; refine zT rfl (by kernel_rfl) rfl rfl ?_) | (refine zu 22 ?_; refine zc rfl (zQ rfl d1 (.cons (.same rfl) .nil) rfl) rfl ?_) | (refine zv 22 rfl ?_; refine zY rfl (by kernel_rfl) rfl (zQ rfl d1 (.cons (.same rfl) .nil) rfl) rfl ?_) | (refine zu 23 ?_; refine zc rfl (zQ rfl c1 (.cons (.same rfl) (.cons (.same rfl) .nil)) rfl) rfl ?_) | (refine zv 23 rfl ?_; refine zY rfl (by kernel_rfl) rfl (zQ rfl c1 (.cons (.same rfl) (.cons (.same rfl) .nil)) rfl) rfl ?_) | (refine zu 24 ?_; refine zc rfl (zQ rfl c2 (.cons (.same rfl) (.cons (.same rfl) .nil)) rfl) rfl ?_) | (refine zv 24 rfl ?_; refine zY rfl (by kernel_rfl) rfl (zQ rfl c2 (.cons (.same rfl) (.cons (.same rfl) .nil)) rfl) rfl ?_) | (refine zu 16 ?_; refine zc rfl (zQ rfl e1 (.cons (.same rfl) (.cons (.same rfl) .nil)) rfl) rfl ?_) | (refine zv 16 rfl ?_; refine zY rfl (by kernel_rfl) rfl (zQ rfl e1 (.cons (.same rfl) (.cons (.same rfl) .nil)) rfl) rfl ?_) | (refine zu 25 ?_; refine zc rfl (zQ rfl va (.cons (.same rfl) .nil) rfl) rfl ?_) | (refine zv 25 rfl ?_; refine zY rfl (by kernel_rfl) rfl (zQ rfl va (.cons (.same rfl) .nil) rfl) rfl ?_) | exact yG rfl rfl rfl | refine zD ?_ | refine zB _ rfl (by kernel_rfl) ?_ | refine zV rfl ?_ | refine zW rfl ?_ | refine zC ?_ | with_reducible refine zN ?_ | refine zH ?_ | refine zI ?_ | (with_reducible first | refine zL ?_ | refine zM ?_ | refine zE ?_ | refine zG ?_ | refine zF ?_) | refine zO ?_
  | true =>
    simp only [Bool.and_eq_true] at hb
    obtain ⟨ha, hgs⟩ := hb
    rw [ha] at va
    rw [hgs] at vg
    obtain ⟨L, hLe, hP⟩ := tk 40 (a.length : Int) (Nat.le_refl _) (Int.le_trans (show (a.length : Int) ≤ 13 by omega) (by decide))
    have hL2 : a.length ≤ 2 ^ L := by have := hP.top; omega
    obtain ⟨L2, hLe2, hP2⟩ := tk 40 n (Nat.le_refl _) (Int.le_trans hd2 (by decide))
    obtain ⟨y, m, rs, p, q1, q2, q3, q4, q5⟩ := cR ha hgs hL2 hLe (by omega)
    have hq : 0 ≤ (L : Int) * (a.length : Int) := Int.mul_nonneg (by omega) (by omega)
    have hp : (L : Int) * (a.length : Int) ≤ 40 * 13 := Int.mul_le_mul (by omega) (by omega) (by omega) (by omega)
    have c1 := (dH a gs y m rs p (by omega) (by omega) ha hgs q1 (by omega)).frozen (r' := .tup [.agg (roL rs m p y.wr), B true]) (.tup (.cons (.agg (.cons (zr rfl) (.cons (.same rfl) (.cons (.same rfl) (.cons (.same rfl) .nil))))) (.cons (.same rfl) .nil)))
    have c2 := dC a gs y m rs p (by omega) (by omega) ha hgs q1 (by omega)
    have e1 := lm rs (by rw [q2, x4]; omega)
    have e2 : zz Go.Proofs.Try.prog 28 [rwL a] [] (rwL rs) [] true := by
      rw [q2]
      exact (pc a (by omega)).frozen (zr rfl)
    have m1 := cz gs (by omega)
    have s1 := d8 (a.length : Int) L hP
    have s2 := d8 n L2 hP2
    have s3 := c_ssb n L2 hP2
    have w1 := c_isw a L (by omega) hP
    have t0 := qv a
    have t1 := kg a
    have hst : (m : Int) ≤ sbV a.length L := by
      rcases Nat.eq_zero_or_pos a.length with h0 | h0
      · rw [h0] at q3 ⊢
        have e : sbV ((0 : Nat) : Int) L = 1 := by rw [sbV]; rfl
        rw [e]
        simpa using q3
      · rw [sb_is (by omega) hLe h0]
        have e : ((a.length : Int) + 1) * ((L : Int) + 1) = L * (a.length : Int) + a.length + L + 1 := by
          rw [Int.add_mul, Int.mul_add, Int.one_mul, Int.mul_one, Int.mul_comm (a.length : Int) L]; omega
        rw [e]; omega
    have hwr : y.wr ≤ swV (yO a) L := by
      rw [sw_is t0 (by omega) hLe, Int.mul_add, Int.mul_comm (yO a) L]
      omega
    repeat' first | (refine isA ?_; refine zc rfl (kM rfl rfl rfl (by kernel_rfl)) rfl ?_) | (refine isA ?_; refine zc rfl (qh rfl rfl rfl) rfl ?_) | refine zK ?_ | refine zA ?_ | refine zP [] ?_ | (refine isA ?_; refine zd rfl ?_) | (refine isL ?_; refine zU rfl (by kernel_rfl) rfl rfl ?_) | (refine zb rfl ?_; refine zT rfl (by kernel_rfl) rfl rfl ?_) | exact absurd hbr (by simp only [decide_eq_false_iff_not]; omega) | (refine zu 22 ?_; refine zc rfl (zQ rfl d1 (.cons (.same rfl) .nil) rfl) rfl ?_) | (refine zv 22 rfl ?_; refine zY rfl (by kernel_rfl) rfl (zQ rfl d1 (.cons (.same rfl) .nil) rfl) rfl ?_) | (refine zu 27 ?_; refine zc rfl (zQ rfl d2 (.cons (.same rfl) .nil) rfl) rfl ?_) | (refine zv 27 rfl ?_; refine zY rfl (by kernel_rfl) rfl (zQ rfl d2 (.cons (.same rfl) .nil) rfl) rfl ?_) | (refine zu 23 ?_; refine zc rfl (zQ rfl c1 (.cons (.same rfl) (.cons (.same rfl) .nil)) rfl) rfl ?_) | (refine zv 23 rfl ?_; refine zY rfl (by kernel_rfl) rfl (zQ rfl c1 (.cons (.same rfl) (.cons (.same rfl) .nil)) rfl) rfl ?_) | (refine zu 24 ?_; refine zc rfl (zQ rfl c2 (.cons (.same rfl) (.cons (.same rfl) .nil)) rfl) rfl ?_) | (refine zv 24 rfl ?_; refine zY rfl (by kernel_rfl) rfl (zQ rfl c2 (.cons (.same rfl) (.cons (.same rfl) .nil)) rfl) rfl ?_) | (refine zu 16 ?_; refine zc rfl (zQ rfl e1 (.cons (.same rfl) (.cons (.same rfl) .nil)) rfl) rfl ?_) | (refine zv 16 rfl ?_; refine zY rfl (by kernel_rfl) rfl (zQ rfl e1 (.cons (.same rfl) (.cons (.same rfl) .nil)) rfl) rfl ?_) | (refine zu 25 ?_; refine zc rfl (zQ rfl va (.cons (.same rfl) .nil) rfl) rfl ?_) | (refine zv 25 rfl ?_; refine zY rfl (by kernel_rfl) rfl (zQ rfl va (.cons (.same rfl) .nil) rfl) rfl ?_) | (refine zu 26 ?_; refine zc rfl (zQ rfl vg (.cons (.same rfl) .nil) rfl) rfl ?_) | (refine zv 26 rfl ?_; refine zY rfl (by kernel_rfl) rfl (zQ rfl vg (.cons (.same rfl) .nil) rfl) rfl ?_) | (refine zu 28 ?_; refine zc rfl (zQ rfl e2 (.cons (.same rfl) .nil) rfl) rfl ?_) | (refine zv 28 rfl ?_; refine zY rfl (by kernel_rfl) rfl (zQ rfl e2 (.cons (.same rfl) .nil) rfl) rfl ?_) | (refine zu 29 ?_; refine zc rfl (zQ rfl m1 (.cons (.same rfl) .nil) rfl) rfl ?_) | (refine zv 29 rfl ?_; refine zY rfl (by kernel_rfl) rfl (zQ rfl m1 (.cons (.same rfl) .nil) rfl) rfl ?_) | (refine zu 30 ?_; refine zc rfl (zQ rfl s1 (.cons (.same rfl) .nil) rfl) rfl ?_) | (refine zv 30 rfl ?_; refine zY rfl (by kernel_rfl) rfl (zQ rfl s1 (.cons (.same rfl) .nil) rfl) rfl ?_) | (refine zu 30 ?_; refine zc rfl (zQ rfl s2 (.cons (.same rfl) .nil) rfl) rfl ?_) | (refine zv 30 rfl ?_; refine zY rfl (by kernel_rfl) rfl (zQ rfl s2 (.cons (.same rfl) .nil) rfl) rfl ?_) | (refine zu 32 ?_; refine zc rfl (zQ rfl s3 (.cons (.same rfl) .nil) rfl) rfl ?_) | (refine zv 32 rfl ?_; refine zY rfl (by kernel_rfl) rfl (zQ rfl s3 (.cons (.same rfl) .nil) rfl) rfl ?_) | (refine zu 31 ?_; refine zc rfl (zQ rfl w1 (.cons (.same rfl) .nil) rfl) rfl ?_) | (refine zv 31 rfl ?_; refine zY rfl (by kernel_rfl) rfl (zQ rfl w1 (.cons (.same rfl) .nil) rfl) rfl ?_) | exact yG rfl rfl (by rw [show decide (sbV n L2 = sbV n L2) = true from decide_eq_true rfl]) | refine zD ?_ | refine zB _ rfl (by kernel_rfl) ?_ | refine zV rfl ?_ | refine zW rfl ?_ | refine zC ?_ | with_reducible refine zN ?_ | refine zH ?_ | refine zI ?_ | (with_reducible first | refine zL ?_ | refine zM ?_ | refine zE ?_ | refine zG ?_ | refine zF ?_) | refine zO ?_ | (refine wg ?_; refine yW rfl rfl (fun hbr => ?_) (fun hbr => ?_) <;> (fail_if_success (with_reducible (have hx : true = true := hbr))) <;> (fail_if_success (with_reducible (have hx : false = false := hbr)))) | (refine zb rfl ?_; refine yK rfl rfl rfl rfl (fun hbr => ?_) (fun hbr => ?_) <;> (fail_if_success (with_reducible (have hx : true = true := hbr))) <;> (fail_if_success (with_reducible (have hx : false = false := hbr))))
end Go.Proofs.Ytojcojanokhnaaa.Ab
namespace Go.Proofs.Ytojcojanokhnaaa.Ab
open Go.RowKit
section
variable {A : Nat → Prop} {W : World}
theorem ka {a : Option Addr} {len cap : Nat} {e : V} (h2 : z4 A W [] [e] (fun i => (Value.slice a len cap).cells.toList[i]?)) : Rel A W [] e (.slice a len cap) := by
  obtain ⟨y, h3, h4⟩ := yk h2 (i := 0) (c := e) rfl
  have : y = .slice a len cap := by simpa [Value.cells] using h3.symm
  subst this
  exact h4
end
section
variable {P : Program} {β : Type} {off tot : Nat} {f : Field} {fs : List Field} {eb : β → List V} {okb : β → Prop}
end
section
variable {A : Nat → Prop} {W : World}
end
end Go.Proofs.Ytojcojanokhnaaa.Ab
namespace Go.Proofs.Ytojcojanokhnaaa.Ab
open Go.RowKit
theorem o_u8 : lw Go.Proofs.Try.prog 22 (fun l : List Int => [xv u8T l]) (okL (okI .u8)) := nO Go.Proofs.Try.underlying22 (by kernel_rfl) (kL Go.Proofs.Try.underlying5)
end Go.Proofs.Ytojcojanokhnaaa.Ab
