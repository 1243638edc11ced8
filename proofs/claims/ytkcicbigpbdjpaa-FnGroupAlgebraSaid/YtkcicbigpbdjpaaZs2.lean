/- What the row FnGroupAlgebra leans on, part 3: a walk over abstract values, and contracts proved with it. -/
import Derived.WalkKit
import Derived.Laws.Rows
import Derived.RowKit
import Derived.OrdersHeld
import Derived.Deep.RegionHeld3
import Derived.Deep.Draws
import Derived.BigCall
import Derived.KernelRfl
import Derived.Deep.Slices
import Derived.ChangeArms
import Derived.ChangeShapes
import Derived.WideShapes
import Derived.Laws.StructEq
import Derived.Lib.Overlaps
import Derived.Test.YtkcicbigpbdjpaaProg
import Derived.MapKept
import Derived.Carry
import Derived.Shelf.SlSortCmp.WholeK
import Derived.Laws.BytesString
import Derived.Test.YtkcicbigpbdjpaaZs1
set_option linter.unusedVariables false
set_option linter.unusedSimpArgs false
set_option maxRecDepth 20000
set_option maxHeartbeats 8000000
namespace Go.Proofs.Ytkcicbigpbdjpaa.Ab.Gq
open Go.RowKit
def vG (x : Gr) : Bool := inV x.k 0 9 && (inV x.n 1 24 && (decide (x.lo ≥ 0) && (decide (x.lo ≤ x.hi) && (decide (x.hi ≤ 99) && inV x.s (IntKind.i64.wrap (x.n * x.lo)) (IntKind.i64.wrap (x.n * x.hi))))))
theorem kP (x : Gr) : zi Go.Proofs.Try.prog 94 [.agg (gE x)] [] (B (vG x)) [] false := by
  refine zj [2] Go.Proofs.Try.func94 rfl rfl ?_
  simp only [Go.Proofs.Try.ntmps94, List.length_cons, List.length_nil, Nat.reduceAdd, Nat.reduceSub, List.replicate_succ, List.replicate_zero, List.cons_append, List.nil_append]
  repeat' first | refine zN ?_ | refine zA ?_ | refine zR [] ?_ | (refine isA ?_; refine zd rfl ?_) | (refine isL ?_; refine zV rfl (by kernel_rfl) rfl rfl ?_) | (refine zc rfl ?_; refine zU rfl (by kernel_rfl) rfl rfl ?_) | (refine zo 141 ?_; refine zb rfl (zT rfl (tw _ _ _) (.cons (.same rfl) (.cons (.same rfl) (.cons (.same rfl) .nil))) rfl) rfl ?_) | (refine zp 141 rfl ?_; refine zY rfl (by kernel_rfl) rfl (zT rfl (tw _ _ _) (.cons (.same rfl) (.cons (.same rfl) (.cons (.same rfl) .nil))) rfl) rfl ?_) | exact xN rfl rfl (by first | ((try simp only [Bool.not_eq_true', Bool.not_eq_false'] at *); simp only [vG, *, Bool.true_and, Bool.false_and, Bool.and_true, Bool.and_false, Bool.true_or, Bool.false_or, Bool.or_true, Bool.or_false, Bool.not_true, Bool.not_false, cond_true, cond_false]; done) | (simp_all [vG]; done) | (simp_all [vG]; intros; omega)) | refine zC ?_ | refine zD _ rfl (by kernel_rfl) ?_ | refine zW rfl ?_ | refine zX rfl ?_ | refine zE ?_ | with_reducible refine zM ?_ | refine zJ ?_ | refine zK ?_ | (with_reducible first | refine zO ?_ | refine zP ?_ | refine zG ?_ | refine zI ?_ | refine zH ?_) | refine zQ ?_ | (refine pA ?_; refine uF rfl rfl (fun hbr => ?_) (fun hbr => ?_) <;> (fail_if_success (with_reducible (have hx : true = true := hbr))) <;> (fail_if_success (with_reducible (have hx : false = false := hbr)))) | (refine zc rfl ?_; refine xa rfl rfl rfl rfl (fun hbr => ?_) (fun hbr => ?_) <;> (fail_if_success (with_reducible (have hx : true = true := hbr))) <;> (fail_if_success (with_reducible (have hx : false = false := hbr))))
def sG (x : Gr) : Bool := inV x.k 0 9 && (inV x.n 1 24 && (inV x.lo 0 x.hi && (inV x.hi x.lo 99 && inV x.s (IntKind.i64.wrap (x.lo * x.n)) (IntKind.i64.wrap (x.hi * x.n)))))
theorem sG_is (x : Gr) : sG x = vG x := by
  unfold sG vG inV
  rw [Int.mul_comm x.lo, Int.mul_comm x.hi]
  by_cases h1 : x.lo ≥ 0 <;> by_cases h2 : x.lo ≤ x.hi <;> by_cases h3 : x.hi ≤ 99 <;> simp [h1, h2, h3]
theorem c_svG (x : Gr) : zi Go.Proofs.Try.prog 101 [.agg (gE x)] [] (B (vG x)) [] false := by
  rw [← sG_is]
  refine zj [2] Go.Proofs.Try.func101 rfl rfl ?_
  simp only [Go.Proofs.Try.ntmps101, List.length_cons, List.length_nil, Nat.reduceAdd, Nat.reduceSub, List.replicate_succ, List.replicate_zero, List.cons_append, List.nil_append]
  repeat' first | refine zN ?_ | refine zA ?_ | refine zR [] ?_ | (refine isA ?_; refine zd rfl ?_) | (refine isL ?_; refine zV rfl (by kernel_rfl) rfl rfl ?_) | (refine zc rfl ?_; refine zU rfl (by kernel_rfl) rfl rfl ?_) | (refine zo 114 ?_; refine zb rfl (zT rfl (lE _ _ _) (.cons (.same rfl) (.cons (.same rfl) (.cons (.same rfl) .nil))) rfl) rfl ?_) | (refine zp 114 rfl ?_; refine zY rfl (by kernel_rfl) rfl (zT rfl (lE _ _ _) (.cons (.same rfl) (.cons (.same rfl) (.cons (.same rfl) .nil))) rfl) rfl ?_) | exact xN rfl rfl (by first | ((try simp only [Bool.not_eq_true', Bool.not_eq_false'] at *); simp only [sG, *, Bool.true_and, Bool.false_and, Bool.and_true, Bool.and_false, Bool.true_or, Bool.false_or, Bool.or_true, Bool.or_false, Bool.not_true, Bool.not_false, cond_true, cond_false]; done) | (simp_all [sG]; done) | (simp_all [sG]; intros; omega)) | refine zC ?_ | refine zD _ rfl (by kernel_rfl) ?_ | refine zW rfl ?_ | refine zX rfl ?_ | refine zE ?_ | with_reducible refine zM ?_ | refine zJ ?_ | refine zK ?_ | (with_reducible first | refine zO ?_ | refine zP ?_ | refine zG ?_ | refine zI ?_ | refine zH ?_) | refine zQ ?_ | (refine pA ?_; refine uF rfl rfl (fun hbr => ?_) (fun hbr => ?_) <;> (fail_if_success (with_reducible (have hx : true = true := hbr))) <;> (fail_if_success (with_reducible (have hx : false = false := hbr)))) | (refine zc rfl ?_; refine xa rfl rfl rfl rfl (fun hbr => ?_) (fun hbr => ?_) <;> (fail_if_success (with_reducible (have hx : true = true := hbr))) <;> (fail_if_success (with_reducible (have hx : false = false := hbr))))
theorem neqG {o : Oper} {ρ : Operand → V} {H : List Reg} {t' : TypeId} {x y : Operand} (a : Gr) (ho : o.op = .binOp .neq 95 x y t') (hx : ρ x = .agg (gE a)) (hy : ρ y = .agg (gE a)) : zh Go.Proofs.Try.prog o ρ H (B false) H :=
  qy [a.k, a.n, a.s, a.lo, a.hi] _ (th Go.Proofs.Try.underlying95 (by kernel_rfl) (by kernel_rfl) (by kernel_rfl)) rfl ho hx hy
theorem eqlG {o : Oper} {ρ : Operand → V} {H : List Reg} {t' : TypeId} {x y : Operand} (a : Gr) (ho : o.op = .binOp .eql 95 x y t') (hx : ρ x = .agg (gE a)) (hy : ρ y = .agg (gE a)) : zh Go.Proofs.Try.prog o ρ H (B true) H :=
  pE [a.k, a.n, a.s, a.lo, a.hi] _ (th Go.Proofs.Try.underlying95 (by kernel_rfl) (by kernel_rfl) (by kernel_rfl)) rfl ho hx hy
theorem mE (xs : List Gr) (hl : xs.length ≤ 1000000000) : zi Go.Proofs.Try.prog 90 [gL xs, gL xs] [] (B true) [] false := by
  refine zj [4] Go.Proofs.Try.func90 rfl rfl ?_
  simp only [Go.Proofs.Try.ntmps90, List.length_cons, List.length_nil, Nat.reduceAdd, Nat.reduceSub, List.replicate_succ, List.replicate_zero, List.cons_append, List.nil_append]
  repeat' first | refine zN ?_ | refine zA ?_ | refine zR [] ?_ | (refine isA ?_; refine zd rfl ?_) | (refine isL ?_; refine zV rfl (by kernel_rfl) rfl rfl ?_) | (refine zc rfl ?_; refine zU rfl (by kernel_rfl) rfl rfl ?_) | refine zC ?_ | refine zD _ rfl (by kernel_rfl) ?_ | refine zW rfl ?_ | refine zX rfl ?_ | refine zE ?_ | with_reducible refine zM ?_ | refine zJ ?_ | refine zK ?_ | (with_reducible first | refine zO ?_ | refine zP ?_ | refine zG ?_ | refine zI ?_ | refine zH ?_) | refine zQ ?_
  refine zm rfl (fun h => by simp at h) (fun _ => ?_)
  repeat' first | refine zN ?_ | refine zA ?_ | refine zR [] ?_ | (refine isA ?_; refine zd rfl ?_) | (refine isL ?_; refine zV rfl (by kernel_rfl) rfl rfl ?_) | (refine zc rfl ?_; refine zU rfl (by kernel_rfl) rfl rfl ?_) | refine zC ?_ | refine zD _ rfl (by kernel_rfl) ?_ | refine zW rfl ?_ | refine zX rfl ?_ | refine zE ?_ | with_reducible refine zM ?_ | refine zJ ?_ | refine zK ?_ | (with_reducible first | refine zO ?_ | refine zP ?_ | refine zG ?_ | refine zI ?_ | refine zH ?_) | refine zQ ?_
  refine yV (α := { i : Nat // i ≤ xs.length }) (fun i => ⟨[gL xs, gL xs, .any, .any, .any, I i.1, .any, .any, .any, .any, .any, .any, .any, .any, .any, .any, .any, .any, .any, .any, .any, .any, .any, .any, .any, .any], [], 0⟩) (fun i => xs.length - i.1) ⟨0, Nat.zero_le _⟩ ?_ ?_
  · exact xX [] rfl rfl (by decide) .nil (by repeat' first | exact zn | refine zk ?_ ?_ | exact zy | exact le_refl rfl | exact z8 rfl rfl | exact yB rfl)
  · rintro ⟨i, hi⟩
    repeat' first | refine zN ?_ | refine zA ?_ | refine zR [] ?_ | (refine isA ?_; refine zd rfl ?_) | (refine isL ?_; refine zV rfl (by kernel_rfl) rfl rfl ?_) | (refine zc rfl ?_; refine zU rfl (by kernel_rfl) rfl rfl ?_) | refine zC ?_ | refine zD _ rfl (by kernel_rfl) ?_ | refine zW rfl ?_ | refine zX rfl ?_ | refine zE ?_ | with_reducible refine zM ?_ | refine zJ ?_ | refine zK ?_ | (with_reducible first | refine zO ?_ | refine zP ?_ | refine zG ?_ | refine zI ?_ | refine zH ?_) | refine zQ ?_
    refine zm rfl (fun h => ?_) (fun h => ?_)
    · have hlt : i < xs.length := by simpa using h
      obtain ⟨z, hz⟩ : ∃ z, xs[i]? = some z := ⟨_, List.getElem?_eq_getElem hlt⟩
      repeat' first | refine zN ?_ | refine zA ?_ | refine zR [] ?_ | (refine isA ?_; refine zd rfl ?_) | (refine isL ?_; refine zV rfl (by kernel_rfl) rfl rfl ?_) | (refine zc rfl ?_; refine zU rfl (by kernel_rfl) rfl rfl ?_) | refine zb rfl (yR (z := z) rfl rfl rfl rfl (Int.natCast_nonneg _) hz) rfl ?_ | refine zY rfl (by kernel_rfl) rfl (yR (z := z) rfl rfl rfl rfl (Int.natCast_nonneg _) hz) rfl ?_ | refine zb rfl (neqG z rfl rfl rfl) rfl ?_ | refine zY rfl (by kernel_rfl) rfl (neqG z rfl rfl rfl) rfl ?_ | refine zC ?_ | refine zD _ rfl (by kernel_rfl) ?_ | refine zW rfl ?_ | refine zX rfl ?_ | refine zE ?_ | with_reducible refine zM ?_ | refine zJ ?_ | refine zK ?_ | (with_reducible first | refine zO ?_ | refine zP ?_ | refine zG ?_ | refine zI ?_ | refine zH ?_) | refine zQ ?_
      refine ⟨⟨i + 1, hlt⟩, by simp only; omega, ?_⟩
      exact xX [] rfl rfl (by decide) .nil (by repeat' first | exact zn | refine zk ?_ ?_ | exact zy | exact le_refl rfl | exact z8 rfl rfl | exact yB rfl | exact wL (by assumption) (by omega))
    · repeat' first | refine zN ?_ | refine zA ?_ | refine zR [] ?_ | (refine isA ?_; refine zd rfl ?_) | (refine isL ?_; refine zV rfl (by kernel_rfl) rfl rfl ?_) | (refine zc rfl ?_; refine zU rfl (by kernel_rfl) rfl rfl ?_) | exact xN rfl rfl rfl | refine zC ?_ | refine zD _ rfl (by kernel_rfl) ?_ | refine zW rfl ?_ | refine zX rfl ?_ | refine zE ?_ | with_reducible refine zM ?_ | refine zJ ?_ | refine zK ?_ | (with_reducible first | refine zO ?_ | refine zP ?_ | refine zG ?_ | refine zI ?_ | refine zH ?_) | refine zQ ?_
abbrev n8 : ByteArray := ⟨#[58]⟩
abbrev vO : ByteArray := ⟨#[44]⟩
abbrev spS : ByteArray := ⟨#[32]⟩
def wB (x : Int) : Prop := -9223372036854775808 ≤ x ∧ x < 9223372036854775808
def Rng (x : Gr) : Prop := wB x.k ∧ wB x.n ∧ wB x.s ∧ wB x.lo ∧ wB x.hi
def yz (x : Gr) : ByteArray := yG x.k ++ n8 ++ yG x.n ++ vO ++ yG x.s ++ vO ++ yG x.lo ++ vO ++ yG x.hi
theorem dc : n8.size = 1 := rfl
theorem dm : vO.size = 1 := rfl
theorem ds : spS.size = 1 := rfl
theorem uc {x : Gr} (h : Rng x) : (yz x).size ≤ 150 := by
  obtain ⟨h1, h2, h3, h4, h5⟩ := h
  have s1 := yE x.k h1.1 h1.2
  have s2 := yE x.n h2.1 h2.2
  have s3 := yE x.s h3.1 h3.2
  have s4 := yE x.lo h4.1 h4.2
  have s5 := yE x.hi h5.1 h5.2
  unfold yz
  simp only [ByteArray.size_append, dc, dm]
  omega
theorem mL (x : Gr) (h : Rng x) : zi Go.Proofs.Try.prog 150 [.agg (gE x)] [] (S' (yz x)) [] false := by
  obtain ⟨h1, h2, h3, h4, h5⟩ := h
  have s1 := yE x.k h1.1 h1.2
  have s2 := yE x.n h2.1 h2.2
  have s3 := yE x.s h3.1 h3.2
  have s4 := yE x.lo h4.1 h4.2
  have s5 := yE x.hi h5.1 h5.2
  have c1 := uL x.k h1.1 h1.2
  have c2 := uL x.n h2.1 h2.2
  have c3 := uL x.s h3.1 h3.2
  have c4 := uL x.lo h4.1 h4.2
  have c5 := uL x.hi h5.1 h5.2
  have hD : yz x = yG x.k ++ n8 ++ yG x.n ++ vO ++ yG x.s ++ vO ++ yG x.lo ++ vO ++ yG x.hi := rfl
  rw [hD]
  generalize yG x.k = A at s1 c1
  generalize yG x.n = B2 at s2 c2
  generalize yG x.s = C at s3 c3
  generalize yG x.lo = D at s4 c4
  generalize yG x.hi = E at s5 c5
  refine zj [2] Go.Proofs.Try.func150 rfl rfl ?_
  simp only [Go.Proofs.Try.ntmps150, List.length_cons, List.length_nil, Nat.reduceAdd, Nat.reduceSub, List.replicate_succ, List.replicate_zero, List.cons_append, List.nil_append]
  repeat' first | refine zN ?_ | refine zA ?_ | refine zR [] ?_ | (refine isA ?_; refine zd rfl ?_) | (refine isL ?_; refine zV rfl (by kernel_rfl) rfl rfl ?_) | (refine zc rfl ?_; refine zU rfl (by kernel_rfl) rfl rfl ?_) | (refine zo 162 (x := #[.tmp 4]) ?_; refine zb rfl (zT rfl c1 (.cons (.same rfl) .nil) rfl) rfl ?_) | (refine zp 162 (x := #[.tmp 4]) rfl ?_; refine zY rfl (by kernel_rfl) rfl (zT rfl c1 (.cons (.same rfl) .nil) rfl) rfl ?_) | (refine zo 162 (x := #[.tmp 8]) ?_; refine zb rfl (zT rfl c2 (.cons (.same rfl) .nil) rfl) rfl ?_) | (refine zp 162 (x := #[.tmp 8]) rfl ?_; refine zY rfl (by kernel_rfl) rfl (zT rfl c2 (.cons (.same rfl) .nil) rfl) rfl ?_) | (refine zo 162 (x := #[.tmp 13]) ?_; refine zb rfl (zT rfl c3 (.cons (.same rfl) .nil) rfl) rfl ?_) | (refine zp 162 (x := #[.tmp 13]) rfl ?_; refine zY rfl (by kernel_rfl) rfl (zT rfl c3 (.cons (.same rfl) .nil) rfl) rfl ?_) | (refine zo 162 (x := #[.tmp 18]) ?_; refine zb rfl (zT rfl c4 (.cons (.same rfl) .nil) rfl) rfl ?_) | (refine zp 162 (x := #[.tmp 18]) rfl ?_; refine zY rfl (by kernel_rfl) rfl (zT rfl c4 (.cons (.same rfl) .nil) rfl) rfl ?_) | (refine zo 162 (x := #[.tmp 23]) ?_; refine zb rfl (zT rfl c5 (.cons (.same rfl) .nil) rfl) rfl ?_) | (refine zp 162 (x := #[.tmp 23]) rfl ?_; refine zY rfl (by kernel_rfl) rfl (zT rfl c5 (.cons (.same rfl) .nil) rfl) rfl ?_) | refine zb rfl (zt rfl rfl rfl (by simp only [ByteArray.size_append, dc, dm]; omega)) rfl ?_ | refine zY rfl (by kernel_rfl) rfl (zt rfl rfl rfl (by simp only [ByteArray.size_append, dc, dm]; omega)) rfl ?_ | exact xN rfl rfl rfl | refine zC ?_ | refine zD _ rfl (by kernel_rfl) ?_ | refine zW rfl ?_ | refine zX rfl ?_ | refine zE ?_ | with_reducible refine zM ?_ | refine zJ ?_ | refine zK ?_ | (with_reducible first | refine zO ?_ | refine zP ?_ | refine zG ?_ | refine zI ?_ | refine zH ?_) | refine zQ ?_
def nQ (ps : List Gr) : ByteArray := jnF spS (ps.map yz) ps.length
theorem lF (ps : List Gr) (hl : ps.length ≤ 10000) (hr : ∀ x ∈ ps, Rng x) : zi Go.Proofs.Try.prog 91 [gL ps] [] (S' (nQ ps)) [] false := by
  have cj := mJ spS (ps.map yz) (by rw [List.length_map]; exact hl) (by decide) (fun x hx => by
    obtain ⟨p, hp, rfl⟩ := List.mem_map.1 hx
    have := uc (hr p hp)
    omega)
  rw [List.length_map] at cj
  refine zj [2] Go.Proofs.Try.func91 rfl rfl ?_
  simp only [Go.Proofs.Try.ntmps91, List.length_cons, List.length_nil, Nat.reduceAdd, Nat.reduceSub, List.replicate_succ, List.replicate_zero, List.cons_append, List.nil_append]
  repeat' first | refine zN ?_ | refine zA ?_ | refine zR [] ?_ | (refine isA ?_; refine zd rfl ?_) | (refine isL ?_; refine zV rfl (by kernel_rfl) rfl rfl ?_) | (refine zc rfl ?_; refine zU rfl (by kernel_rfl) rfl rfl ?_) | refine zC ?_ | refine zD _ rfl (by kernel_rfl) ?_ | refine zW rfl ?_ | refine zX rfl ?_ | refine zE ?_ | with_reducible refine zM ?_ | refine zJ ?_ | refine zK ?_ | (with_reducible first | refine zO ?_ | refine zP ?_ | refine zG ?_ | refine zI ?_ | refine zH ?_) | refine zQ ?_
  refine yV (α := { p : Nat × List ByteArray // p.1 ≤ ps.length ∧ p.2 = (ps.take p.1).map yz }) (fun p => ⟨[.any, .any, .any, .sl 0 0 p.1.2.length, .any, .any, .any, gL ps, I ps.length, I p.1.1, .any, .any, .any, .any, .any, .any, .any, .any, .any, .any, .any], [xD sC 9 p.1.2], 0⟩) (fun p => ps.length - p.1.1) ⟨(0, []), Nat.zero_le _, rfl⟩ ?_ ?_
  · exact xX [0] rfl rfl (by decide) (.cons rfl rfl rfl rfl (zf (zg _ _)) .nil) (by repeat' first | exact zn | refine zk ?_ ?_ | exact zy | exact le_refl rfl | exact z8 rfl rfl | exact yB rfl)
  · rintro ⟨⟨i, u⟩, hi, hu⟩
    simp only at hi hu
    have hul : u.length ≤ 10000 := by rw [hu]; simp; omega
    repeat' first | refine zN ?_ | refine zA ?_ | refine zR [] ?_ | (refine isA ?_; refine zd rfl ?_) | (refine isL ?_; refine zV rfl (by kernel_rfl) rfl rfl ?_) | (refine zc rfl ?_; refine zU rfl (by kernel_rfl) rfl rfl ?_) | refine zC ?_ | refine zD _ rfl (by kernel_rfl) ?_ | refine zW rfl ?_ | refine zX rfl ?_ | refine zE ?_ | with_reducible refine zM ?_ | refine zJ ?_ | refine zK ?_ | (with_reducible first | refine zO ?_ | refine zP ?_ | refine zG ?_ | refine zI ?_ | refine zH ?_) | refine zQ ?_
    refine zm rfl (fun h => ?_) (fun h => ?_)
    · have hlt : i < ps.length := by simpa using h
      obtain ⟨z, hz⟩ : ∃ z, ps[i]? = some z := ⟨_, List.getElem?_eq_getElem hlt⟩
      have c1 := mL z (hr z (List.mem_of_getElem? hz))
      have hn : (ps.take (i + 1)).map yz = u ++ [yz z] := by rw [List.take_add_one, hz, hu]; simp
      repeat' first | (refine isA ?_; refine zb rfl (yh rfl rfl rfl rfl rfl) rfl ?_) | refine zN ?_ | refine zA ?_ | refine zR [] ?_ | (refine isA ?_; refine zd rfl ?_) | (refine isL ?_; refine zV rfl (by kernel_rfl) rfl rfl ?_) | (refine zc rfl ?_; refine zU rfl (by kernel_rfl) rfl rfl ?_) | (refine xH ?_; refine zb rfl (yR (t := gT) (z := z) rfl rfl rfl rfl (Int.natCast_nonneg i) hz) rfl ?_) | (refine xG rfl ?_; refine zY rfl (by kernel_rfl) rfl (yR (t := gT) (z := z) rfl rfl rfl rfl (Int.natCast_nonneg i) hz) rfl ?_) | (refine zo 150 ?_; refine zb rfl (zT rfl c1 (.cons (.same rfl) .nil) rfl) rfl ?_) | (refine zp 150 rfl ?_; refine zY rfl (by kernel_rfl) rfl (zT rfl c1 (.cons (.same rfl) .nil) rfl) rfl ?_) | (refine v6 ?_; refine zb rfl (xJ (t := sC) (xs := u) (ys := [yz z]) rfl rfl rfl rfl (.lst _ _) (by simp; omega) rfl) rfl ?_) | (refine vz rfl ?_; refine zY rfl (by kernel_rfl) rfl (xJ (t := sC) (xs := u) (ys := [yz z]) rfl rfl rfl rfl (.lst _ _) (by simp; omega) rfl) rfl ?_) | refine zC ?_ | refine zD _ rfl (by kernel_rfl) ?_ | refine zW rfl ?_ | refine zX rfl ?_ | refine zE ?_ | with_reducible refine zM ?_ | refine zJ ?_ | refine zK ?_ | (with_reducible first | refine zO ?_ | refine zP ?_ | refine zG ?_ | refine zI ?_ | refine zH ?_) | refine zQ ?_
      refine ⟨⟨(i + 1, u ++ [yz z]), hlt, hn.symm⟩, by simp only; omega, ?_⟩
      exact xX [2] rfl rfl (by decide) (.cons rfl rfl rfl rfl (zf (zg _ _)) .nil) (by repeat' first | exact zn | refine zk ?_ ?_ | exact zy | exact le_refl rfl | exact yB rfl | exact z8 rfl rfl | exact z8 rfl (by simp) | exact wL (by omega) (by omega))
    · have hge : i = ps.length := by
        have : ¬ ((i : Int) < ps.length) := by simpa using h
        omega
      subst hge
      rw [List.take_length] at hu
      subst hu
      repeat' first | refine zN ?_ | refine zA ?_ | refine zR [] ?_ | (refine isA ?_; refine zd rfl ?_) | (refine isL ?_; refine zV rfl (by kernel_rfl) rfl rfl ?_) | (refine zc rfl ?_; refine zU rfl (by kernel_rfl) rfl rfl ?_) | (refine zo 120 ?_; refine zb rfl (zT rfl cj (.cons (sk rfl rfl rfl (by simp)) (.cons (.same rfl) .nil)) rfl) rfl ?_) | (refine zp 120 rfl ?_; refine zY rfl (by kernel_rfl) rfl (zT rfl cj (.cons (sk rfl rfl rfl (by simp)) (.cons (.same rfl) .nil)) rfl) rfl ?_) | exact xN rfl rfl rfl | refine zC ?_ | refine zD _ rfl (by kernel_rfl) ?_ | refine zW rfl ?_ | refine zX rfl ?_ | refine zE ?_ | with_reducible refine zM ?_ | refine zJ ?_ | refine zK ?_ | (with_reducible first | refine zO ?_ | refine zP ?_ | refine zG ?_ | refine zI ?_ | refine zH ?_) | refine zQ ?_
theorem nM {ps : List Gr} {i : Nat} {z : Gr} (hz : ps[i]? = some z) : jnF spS (ps.map yz) (i + 1) = cond (decide ((0 : Int) < i)) (jnF spS (ps.map yz) i ++ spS) (jnF spS (ps.map yz) i) ++ yz z := by
  rw [jnF, List.getElem?_map, hz]; rfl
theorem lC (ps : List Gr) (hl : ps.length ≤ 10000) (hr : ∀ x ∈ ps, Rng x) : zi Go.Proofs.Try.prog 92 [gL ps] [] (S' (nQ ps)) [] false := by
  have hsz := u2 (sep := spS) (xs := ps.map yz) (m := 150) (by decide) (fun x hx => by
    obtain ⟨p, hp, rfl⟩ := List.mem_map.1 hx
    exact uc (hr p hp))
  rw [List.length_map] at hsz
  refine zj [2] Go.Proofs.Try.func92 rfl rfl ?_
  simp only [Go.Proofs.Try.ntmps92, List.length_cons, List.length_nil, Nat.reduceAdd, Nat.reduceSub, List.replicate_succ, List.replicate_zero, List.cons_append, List.nil_append]
  repeat' first | refine zN ?_ | refine zA ?_ | refine zR [] ?_ | (refine isA ?_; refine zd rfl ?_) | (refine isL ?_; refine zV rfl (by kernel_rfl) rfl rfl ?_) | (refine zc rfl ?_; refine zU rfl (by kernel_rfl) rfl rfl ?_) | refine zC ?_ | refine zD _ rfl (by kernel_rfl) ?_ | refine zW rfl ?_ | refine zX rfl ?_ | refine zE ?_ | with_reducible refine zM ?_ | refine zJ ?_ | refine zK ?_ | (with_reducible first | refine zO ?_ | refine zP ?_ | refine zG ?_ | refine zI ?_ | refine zH ?_) | refine zQ ?_
  refine yV (α := { i : Nat // i ≤ ps.length }) (fun i => ⟨[gL ps, .any, .any, S' (jnF spS (ps.map yz) i.1), I i.1, .any, .any, .any, .any, .any, .any, .any, .any, .any, .any, .any, .any, .any, .any, .any, .any, .any, .any, .any, .any, .any, .any, .any, .any, .any, .any, .any, .any, .any, .any, .any, .any, .any, .any, .any, .any, .any, .any, .any, .any, .any, .any, .any, .any, .any, .any, .any, .any, .any, .any, .any], [], 0⟩) (fun i => ps.length - i.1) ⟨0, Nat.zero_le _⟩ ?_ ?_
  · exact xW rfl (by repeat' first | exact EqS.nil | refine EqS.any ?_ | refine EqS.same rfl ?_)
  · rintro ⟨i, hi⟩
    have hz1 := hsz i hi
    repeat' first | refine zN ?_ | refine zA ?_ | refine zR [] ?_ | (refine isA ?_; refine zd rfl ?_) | (refine isL ?_; refine zV rfl (by kernel_rfl) rfl rfl ?_) | (refine zc rfl ?_; refine zU rfl (by kernel_rfl) rfl rfl ?_) | refine zC ?_ | refine zD _ rfl (by kernel_rfl) ?_ | refine zW rfl ?_ | refine zX rfl ?_ | refine zE ?_ | with_reducible refine zM ?_ | refine zJ ?_ | refine zK ?_ | (with_reducible first | refine zO ?_ | refine zP ?_ | refine zG ?_ | refine zI ?_ | refine zH ?_) | refine zQ ?_
    refine zm rfl (fun h => ?_) (fun h => ?_)
    · have hlt : i < ps.length := by simpa using h
      obtain ⟨z, hz⟩ : ∃ z, ps[i]? = some z := ⟨_, List.getElem?_eq_getElem hlt⟩
      have hj := nM hz
      obtain ⟨h1, h2, h3, h4, h5⟩ := hr z (List.mem_of_getElem? hz)
      have s1 := yE z.k h1.1 h1.2
      have s2 := yE z.n h2.1 h2.2
      have s3 := yE z.s h3.1 h3.2
      have s4 := yE z.lo h4.1 h4.2
      have s5 := yE z.hi h5.1 h5.2
      have c1 := uJ z.k h1.1 h1.2
      have c2 := uJ z.n h2.1 h2.2
      have c3 := uJ z.s h3.1 h3.2
      have c4 := uJ z.lo h4.1 h4.2
      have c5 := uJ z.hi h5.1 h5.2
      repeat' first | refine zN ?_ | refine zA ?_ | refine zR [] ?_ | (refine isA ?_; refine zd rfl ?_) | (refine isL ?_; refine zV rfl (by kernel_rfl) rfl rfl ?_) | (refine zc rfl ?_; refine zU rfl (by kernel_rfl) rfl rfl ?_) | refine zC ?_ | refine zD _ rfl (by kernel_rfl) ?_ | refine zW rfl ?_ | refine zX rfl ?_ | refine zE ?_ | with_reducible refine zM ?_ | refine zJ ?_ | refine zK ?_ | (with_reducible first | refine zO ?_ | refine zP ?_ | refine zG ?_ | refine zI ?_ | refine zH ?_) | refine zQ ?_
      refine zm rfl (fun h1 => ?_) (fun h1 => ?_)
      · rw [h1] at hj
        have hus : ((jnF spS (ps.map yz) i ++ spS)).size ≤ 30000001 := by rw [ByteArray.size_append, ds]; omega
        rw [cond_true] at hj
        have hj2 : jnF spS (ps.map yz) (i + 1) = (jnF spS (ps.map yz) i ++ spS) ++ yG z.k ++ n8 ++ yG z.n ++ vO ++ yG z.s ++ vO ++ yG z.lo ++ vO ++ yG z.hi := by rw [hj, yz]; simp only [ByteArray.append_assoc]
        clear hj
        have hus0 : (jnF spS (ps.map yz) i).size + spS.size ≤ 9223372036854775807 := by rw [ds]; omega
        generalize yG z.k = A at s1 c1 hj2
        generalize yG z.n = B2 at s2 c2 hj2
        generalize yG z.s = C at s3 c3 hj2
        generalize yG z.lo = D at s4 c4 hj2
        generalize yG z.hi = E at s5 c5 hj2
        repeat' first | refine zN ?_ | refine zA ?_ | refine zR [] ?_ | (refine isA ?_; refine zd rfl ?_) | (refine isL ?_; refine zV rfl (by kernel_rfl) rfl rfl ?_) | (refine zc rfl ?_; refine zU rfl (by kernel_rfl) rfl rfl ?_) | refine zb rfl (zt (a := jnF spS (ps.map yz) i) (b := spS) rfl rfl rfl hus0) rfl ?_ | refine zY rfl (by kernel_rfl) rfl (zt (a := jnF spS (ps.map yz) i) (b := spS) rfl rfl rfl hus0) rfl ?_ | (refine xH ?_; refine zb rfl (yR (t := gT) (z := z) rfl rfl rfl rfl (Int.natCast_nonneg i) hz) rfl ?_) | (refine xG rfl ?_; refine zY rfl (by kernel_rfl) rfl (yR (t := gT) (z := z) rfl rfl rfl rfl (Int.natCast_nonneg i) hz) rfl ?_) | (refine zo 151 (x := #[.tmp 20]) ?_; refine zb rfl (zT rfl c1 (.cons (.same rfl) .nil) rfl) rfl ?_) | (refine zp 151 (x := #[.tmp 20]) rfl ?_; refine zY rfl (by kernel_rfl) rfl (zT rfl c1 (.cons (.same rfl) .nil) rfl) rfl ?_) | (refine zo 151 (x := #[.tmp 28]) ?_; refine zb rfl (zT rfl c2 (.cons (.same rfl) .nil) rfl) rfl ?_) | (refine zp 151 (x := #[.tmp 28]) rfl ?_; refine zY rfl (by kernel_rfl) rfl (zT rfl c2 (.cons (.same rfl) .nil) rfl) rfl ?_) | (refine zo 151 (x := #[.tmp 36]) ?_; refine zb rfl (zT rfl c3 (.cons (.same rfl) .nil) rfl) rfl ?_) | (refine zp 151 (x := #[.tmp 36]) rfl ?_; refine zY rfl (by kernel_rfl) rfl (zT rfl c3 (.cons (.same rfl) .nil) rfl) rfl ?_) | (refine zo 151 (x := #[.tmp 44]) ?_; refine zb rfl (zT rfl c4 (.cons (.same rfl) .nil) rfl) rfl ?_) | (refine zp 151 (x := #[.tmp 44]) rfl ?_; refine zY rfl (by kernel_rfl) rfl (zT rfl c4 (.cons (.same rfl) .nil) rfl) rfl ?_) | (refine zo 151 (x := #[.tmp 52]) ?_; refine zb rfl (zT rfl c5 (.cons (.same rfl) .nil) rfl) rfl ?_) | (refine zp 151 (x := #[.tmp 52]) rfl ?_; refine zY rfl (by kernel_rfl) rfl (zT rfl c5 (.cons (.same rfl) .nil) rfl) rfl ?_) | refine zb rfl (zt rfl rfl rfl (by simp only [ByteArray.size_append, ds, dc, dm]; omega)) rfl ?_ | refine zY rfl (by kernel_rfl) rfl (zt rfl rfl rfl (by simp only [ByteArray.size_append, ds, dc, dm]; omega)) rfl ?_ | refine zC ?_ | refine zD _ rfl (by kernel_rfl) ?_ | refine zW rfl ?_ | refine zX rfl ?_ | refine zE ?_ | with_reducible refine zM ?_ | refine zJ ?_ | refine zK ?_ | (with_reducible first | refine zO ?_ | refine zP ?_ | refine zG ?_ | refine zI ?_ | refine zH ?_) | refine zQ ?_
        refine ⟨⟨i + 1, hlt⟩, by simp only; omega, ?_⟩
        exact xW rfl (by repeat' first | exact EqS.nil | refine EqS.any ?_ | refine EqS.same rfl ?_ | refine EqS.same (u6 hlt (by omega)) ?_ | refine EqS.same (congrArg (fun s => V.k (.string s)) hj2) ?_ | refine EqS.same (congrArg (fun s => V.k (.string s)) hj2.symm) ?_)
      · rw [h1] at hj
        have hus : (jnF spS (ps.map yz) i).size ≤ 30000001 := by omega
        rw [cond_false] at hj
        have hj2 : jnF spS (ps.map yz) (i + 1) = jnF spS (ps.map yz) i ++ yG z.k ++ n8 ++ yG z.n ++ vO ++ yG z.s ++ vO ++ yG z.lo ++ vO ++ yG z.hi := by rw [hj, yz]; simp only [ByteArray.append_assoc]
        clear hj
        generalize yG z.k = A at s1 c1 hj2
        generalize yG z.n = B2 at s2 c2 hj2
        generalize yG z.s = C at s3 c3 hj2
        generalize yG z.lo = D at s4 c4 hj2
        generalize yG z.hi = E at s5 c5 hj2
        repeat' first | refine zN ?_ | refine zA ?_ | refine zR [] ?_ | (refine isA ?_; refine zd rfl ?_) | (refine isL ?_; refine zV rfl (by kernel_rfl) rfl rfl ?_) | (refine zc rfl ?_; refine zU rfl (by kernel_rfl) rfl rfl ?_) | (refine xH ?_; refine zb rfl (yR (t := gT) (z := z) rfl rfl rfl rfl (Int.natCast_nonneg i) hz) rfl ?_) | (refine xG rfl ?_; refine zY rfl (by kernel_rfl) rfl (yR (t := gT) (z := z) rfl rfl rfl rfl (Int.natCast_nonneg i) hz) rfl ?_) | (refine zo 151 (x := #[.tmp 20]) ?_; refine zb rfl (zT rfl c1 (.cons (.same rfl) .nil) rfl) rfl ?_) | (refine zp 151 (x := #[.tmp 20]) rfl ?_; refine zY rfl (by kernel_rfl) rfl (zT rfl c1 (.cons (.same rfl) .nil) rfl) rfl ?_) | (refine zo 151 (x := #[.tmp 28]) ?_; refine zb rfl (zT rfl c2 (.cons (.same rfl) .nil) rfl) rfl ?_) | (refine zp 151 (x := #[.tmp 28]) rfl ?_; refine zY rfl (by kernel_rfl) rfl (zT rfl c2 (.cons (.same rfl) .nil) rfl) rfl ?_) | (refine zo 151 (x := #[.tmp 36]) ?_; refine zb rfl (zT rfl c3 (.cons (.same rfl) .nil) rfl) rfl ?_) | (refine zp 151 (x := #[.tmp 36]) rfl ?_; refine zY rfl (by kernel_rfl) rfl (zT rfl c3 (.cons (.same rfl) .nil) rfl) rfl ?_) | (refine zo 151 (x := #[.tmp 44]) ?_; refine zb rfl (zT rfl c4 (.cons (.same rfl) .nil) rfl) rfl ?_) | (refine zp 151 (x := #[.tmp 44]) rfl ?_; refine zY rfl (by kernel_rfl) rfl (zT rfl c4 (.cons (.same rfl) .nil) rfl) rfl ?_) | (refine zo 151 (x := #[.tmp 52]) ?_; refine zb rfl (zT rfl c5 (.cons (.same rfl) .nil) rfl) rfl ?_) | (refine zp 151 (x := #[.tmp 52]) rfl ?_; refine zY rfl (by kernel_rfl) rfl (zT rfl c5 (.cons (.same rfl) .nil) rfl) rfl ?_) | refine zb rfl (zt rfl rfl rfl (by simp only [ByteArray.size_append, ds, dc, dm]; omega)) rfl ?_ | refine zY rfl (by kernel_rfl) rfl (zt rfl rfl rfl (by simp only [ByteArray.size_append, ds, dc, dm]; omega)) rfl ?_ | refine zC ?_ | refine zD _ rfl (by kernel_rfl) ?_ | refine zW rfl ?_ | refine zX rfl ?_ | refine zE ?_ | with_reducible refine zM ?_ | refine zJ ?_ | refine zK ?_ | (with_reducible first | refine zO ?_ | refine zP ?_ | refine zG ?_ | refine zI ?_ | refine zH ?_) | refine zQ ?_
        refine ⟨⟨i + 1, hlt⟩, by simp only; omega, ?_⟩
        exact xW rfl (by repeat' first | exact EqS.nil | refine EqS.any ?_ | refine EqS.same rfl ?_ | refine EqS.same (u6 hlt (by omega)) ?_ | refine EqS.same (congrArg (fun s => V.k (.string s)) hj2) ?_ | refine EqS.same (congrArg (fun s => V.k (.string s)) hj2.symm) ?_)
    · have hge : i = ps.length := by
        have : ¬ ((i : Int) < ps.length) := by simpa using h
        omega
      subst hge
      repeat' first | refine zN ?_ | refine zA ?_ | refine zR [] ?_ | (refine isA ?_; refine zd rfl ?_) | (refine isL ?_; refine zV rfl (by kernel_rfl) rfl rfl ?_) | (refine zc rfl ?_; refine zU rfl (by kernel_rfl) rfl rfl ?_) | exact xN rfl rfl rfl | refine zC ?_ | refine zD _ rfl (by kernel_rfl) ?_ | refine zW rfl ?_ | refine zX rfl ?_ | refine zE ?_ | with_reducible refine zM ?_ | refine zJ ?_ | refine zK ?_ | (with_reducible first | refine zO ?_ | refine zP ?_ | refine zG ?_ | refine zI ?_ | refine zH ?_) | refine zQ ?_
end Go.Proofs.Ytkcicbigpbdjpaa.Ab.Gq
namespace Go.Proofs.Ytkcicbigpbdjpaa.Ab.Gq
open Go.RowKit
def atK (k : Int) (xs : List Gr) : Option Gr := xs.find? (isK k)
def opK (o : Option Gr) : Option Gr → Option Gr
  | none => o
  | some g => some (match o with | none => g | some x => z6 x g)
def x9 (k : Int) (o : Option Gr) (g : Gr) : Option Gr := if g.k = k then opK o (some g) else o
theorem yQ (k : Int) (x : Gr) (xs : List Gr) : atK k (x :: xs) = if x.k = k then some x else atK k xs := by
  unfold atK
  rw [List.find?_cons]
  by_cases h : x.k = k <;> simp [isK, h]
theorem xv {k : Int} {xs : List Gr} (h : ∀ x ∈ xs, x.k ≠ k) : atK k xs = none := by
  unfold atK
  rw [List.find?_eq_none]
  intro x hx
  simp [isK, h x hx]
theorem qY {k : Int} {g : Gr} : ∀ {xs : List Gr}, Asc xs → atK k (yU g xs) = x9 k (atK k xs) g
  | [], _ => by
    rw [yU, yQ, x9]
    rfl
  | x :: xs, h => by
    obtain ⟨h1, h2⟩ := List.pairwise_cons.1 h
    unfold yU
    split
    · rename_i hlt
      rw [yQ, yQ, qY h2]
      unfold x9
      by_cases e : g.k = k
      · have : x.k ≠ k := by omega
        rw [if_neg this, if_neg this]
      · by_cases e2 : x.k = k
        · simp [e, e2]
        · simp [e, e2]
    · split
      · rename_i e
        rw [yQ, yQ, wm, x9]
        by_cases e2 : x.k = k
        · rw [if_pos e2, if_pos e2, if_pos (by omega)]; rfl
        · rw [if_neg e2, if_neg e2, if_neg (by omega)]
      · rw [yQ, x9]
        by_cases e2 : g.k = k
        · rw [if_pos e2, if_pos e2, xv (fun z hz => by
            rcases List.mem_cons.1 hz with rfl | hz
            · omega
            · have := h1 z hz; omega)]
          rfl
        · rw [if_neg e2, if_neg e2]
theorem uN {k : Int} : ∀ (gs b : List Gr), Asc b → atK k (gs.foldl (fun o g => yU g o) b) = gs.foldl (x9 k) (atK k b)
  | [], b, _ => rfl
  | g :: gs, b, h => by
    rw [List.foldl_cons, List.foldl_cons, uN gs _ (u5 h), qY h]
theorem qZ : ∀ {xs ys : List Gr}, Asc xs → Asc ys → (∀ k, atK k xs = atK k ys) → xs = ys
  | [], [], _, _, _ => rfl
  | [], y :: ys, _, _, h => by
    have := h y.k
    rw [yQ, if_pos rfl] at this
    cases this
  | x :: xs, [], _, _, h => by
    have := h x.k
    rw [yQ, if_pos rfl] at this
    cases this
  | x :: xs, y :: ys, hx, hy, h => by
    obtain ⟨x1, x2⟩ := List.pairwise_cons.1 hx
    obtain ⟨y1, y2⟩ := List.pairwise_cons.1 hy
    have a1 := h x.k
    have a2 := h y.k
    rw [yQ, if_pos rfl, yQ] at a1
    rw [yQ, yQ, if_pos rfl] at a2
    have hk : x.k = y.k := by
      rcases Int.lt_trichotomy x.k y.k with hl | hl | hl
      · rw [if_neg (by omega), xv (fun z hz => by have := y1 z hz; omega)] at a1
        cases a1
      · exact hl
      · rw [if_neg (by omega), xv (fun z hz => by have := x1 z hz; omega)] at a2
        cases a2
    rw [if_pos hk.symm] at a1
    cases a1
    have : xs = ys := qZ x2 y2 fun k => by
      have hq := h k
      rw [yQ, yQ] at hq
      by_cases e : x.k = k
      · subst e
        rw [xv (fun z hz => by have := x1 z hz; omega), xv (fun z hz => by have := y1 z hz; omega)]
      · rwa [if_neg e, if_neg e] at hq
    rw [this]
theorem uC {k : Int} : ∀ {xs : List Gr} {o : Option Gr}, Asc xs → xs.foldl (x9 k) o = opK o (atK k xs)
  | [], o, _ => rfl
  | x :: xs, o, h => by
    obtain ⟨h1, h2⟩ := List.pairwise_cons.1 h
    rw [List.foldl_cons, uC h2, yQ, x9]
    by_cases e : x.k = k
    · rw [if_pos e, if_pos e, xv (fun z hz => by have := h1 z hz; omega)]
      rfl
    · rw [if_neg e, if_neg e]
theorem nH (a b c : Int) : mnV (mnV a b) c = mnV a (mnV b c) := by
  unfold mnV
  repeat' split
  all_goals omega
theorem nG (a b c : Int) : mxV (mxV a b) c = mxV a (mxV b c) := by
  unfold mxV
  repeat' split
  all_goals omega
theorem pN (a b c : Int) : IntKind.i64.wrap (IntKind.i64.wrap (a + b) + c) = IntKind.i64.wrap (a + IntKind.i64.wrap (b + c)) := by
  simp only [IntKind.wrap_i64]
  omega
theorem sS {x g h : Gr} (e1 : x.k = g.k) (e2 : g.k = h.k) : z6 (z6 x g) h = z6 x (z6 g h) := by
  have k1 : (z6 x g).k = h.k := by rw [wm]; omega
  have k2 : x.k = (z6 g h).k := by rw [wm]; exact e1
  have f1 : ∀ {x y : Gr}, x.k = y.k → z6 x y = cmb x y := fun e => by simp [z6, e]
  rw [f1 k1, f1 k2, f1 e1, f1 e2]
  simp only [cmb, nH, nG, pN]
def xf (k : Int) (o : Option Gr) : Prop := ∀ x, o = some x → x.k = k
theorem kc {k : Int} {o p : Option Gr} (h : xf k o) (h' : xf k p) : xf k (opK o p) := fun x hx => by
  cases p with
  | none => exact h x hx
  | some g =>
    cases o with
    | none => exact h' x hx
    | some y =>
      simp only [opK, Option.some.injEq] at hx
      rw [← hx, wm]
      exact h y rfl
theorem uk {k : Int} {o : Option Gr} {g : Gr} (h : xf k o) : xf k (x9 k o g) := by
  unfold x9
  split
  · rename_i e
    exact kc h fun x hx => by cases hx; exact e
  · exact h
theorem uB {k : Int} : ∀ {gs : List Gr} {o : Option Gr}, xf k o → xf k (gs.foldl (x9 k) o)
  | [], _, h => h
  | g :: gs, _, h => uB (gs := gs) (uk h)
theorem nF {k : Int} {o p q : Option Gr} (h1 : xf k o) (h2 : xf k p) (h3 : xf k q) : opK (opK o p) q = opK o (opK p q) := by
  cases q with
  | none => rfl
  | some h =>
    cases p with
    | none => cases o <;> rfl
    | some g =>
      cases o with
      | none => rfl
      | some x =>
        simp only [opK]
        rw [sS ((h1 x rfl).trans (h2 g rfl).symm) ((h2 g rfl).trans (h3 h rfl).symm)]
theorem uu (o : Option Gr) : opK none o = o := by cases o <;> rfl
theorem u7 {k : Int} : ∀ {gs : List Gr} {o : Option Gr}, xf k o → gs.foldl (x9 k) o = opK o (gs.foldl (x9 k) none)
  | [], o, _ => rfl
  | g :: gs, o, h => by
    have hn : xf k none := fun x hx => by cases hx
    rw [List.foldl_cons, List.foldl_cons, u7 (gs := gs) (uk h), u7 (gs := gs) (o := x9 k none g) (uk hn)]
    have hf : xf k (gs.foldl (x9 k) none) := uB hn
    by_cases e : g.k = k
    · have hg : xf k (some g) := fun x hx => by cases hx; exact e
      have u1 : ∀ o, x9 k o g = opK o (some g) := fun o => if_pos e
      rw [u1, u1, nF h hg hf, uu (some g)]
    · have u1 : ∀ o, x9 k o g = o := fun o => if_neg e
      rw [u1, u1, uu]
theorem sN (k : Int) (rs : List Rw) : atK k (yr rs) = (rs.map ofR).foldl (x9 k) none := by
  rw [yr, xR, yD, uN _ _ List.Pairwise.nil]
  rfl
theorem vf (rs : List Rw) : Asc (yr rs) := sr _
theorem qt (a b : List Rw) : ux (yr a ++ yr b) = yr (a ++ b) := by
  refine qZ (sr _) (vf _) fun k => ?_
  have hn : xf k none := fun x hx => by cases hx
  rw [sN, List.map_append, List.foldl_append, u7 (gs := b.map ofR) (uB hn), ← sN, ← sN]
  rw [xR, yD, uN _ _ List.Pairwise.nil, List.foldl_append, uC (vf b), uC (vf a)]
  rw [show atK k [] = none from rfl, uu]
def yX (xs : List Gr) : Int := (xs.map (·.n)).sum
theorem sw {g : Gr} (hg : g.n = 1) : ∀ {xs : List Gr}, (∀ x ∈ xs, 0 ≤ x.n) → yX xs ≤ 1000000 → yX (yU g xs) = yX xs + 1 ∧ ∀ x ∈ yU g xs, 0 ≤ x.n
  | [], _, _ => by simp [yU, yX, hg]
  | x :: xs, h, hs => by
    have hx := h x (List.mem_cons_self ..)
    have hr : ∀ y ∈ xs, 0 ≤ y.n := fun y hy => h y (List.mem_cons_of_mem _ hy)
    have hp : 0 ≤ yX xs := by
      unfold yX
      clear hs h
      induction xs with
      | nil => simp
      | cons y ys ih =>
        have := hr y (List.mem_cons_self ..)
        have := ih (fun z hz => hr z (List.mem_cons_of_mem _ hz))
        simp only [List.map_cons, List.sum_cons]
        omega
    have hc : yX (x :: xs) = x.n + yX xs := by simp [yX]
    rw [hc] at hs ⊢
    unfold yU
    split
    · obtain ⟨e1, e2⟩ := sw hg hr (by omega)
      refine ⟨by rw [show yX (x :: yU g xs) = x.n + yX (yU g xs) by simp [yX], e1]; omega, fun y hy => ?_⟩
      rcases List.mem_cons.1 hy with rfl | hy
      · exact hx
      · exact e2 y hy
    · split
      · rename_i e
        have hn : (z6 x g).n = x.n + 1 := by
          rw [show z6 x g = cmb x g by simp [z6, e]]
          show IntKind.i64.wrap (x.n + g.n) = _
          rw [hg, IntKind.wrap_i64]
          omega
        refine ⟨by rw [show yX (z6 x g :: xs) = (z6 x g).n + yX xs by simp [yX], hn]; omega, fun y hy => ?_⟩
        rcases List.mem_cons.1 hy with rfl | hy
        · rw [hn]; omega
        · exact hr y hy
      · refine ⟨by rw [show yX (g :: x :: xs) = g.n + (x.n + yX xs) by simp [yX], hg]; omega, fun y hy => ?_⟩
        rcases List.mem_cons.1 hy with rfl | hy
        · omega
        · exact h y hy
theorem tl : ∀ (rs : List Rw) (b : List Gr), (∀ x ∈ b, 0 ≤ x.n) → yX b + rs.length ≤ 1000000 → yX ((rs.map ofR).foldl (fun o g => yU g o) b) = yX b + rs.length ∧ ∀ x ∈ (rs.map ofR).foldl (fun o g => yU g o) b, 0 ≤ x.n
  | [], b, h, _ => by simp; exact h
  | r :: rs, b, h, hs => by
    rw [List.map_cons, List.foldl_cons]
    simp only [List.length_cons] at hs ⊢
    obtain ⟨e1, e2⟩ := sw (g := ofR r) rfl h (by omega)
    obtain ⟨e3, e4⟩ := tl rs (yU (ofR r) b) e2 (by omega)
    exact ⟨by rw [e3, e1]; omega, e4⟩
theorem ml {rs : List Rw} (h : rs.length ≤ 1000) : yX (yr rs) = rs.length ∧ ∀ x ∈ yr rs, 0 ≤ x.n := by
  rw [yr, xR, yD]
  have := tl rs [] (fun x hx => by cases hx) (by simp [yX]; omega)
  simpa [yX] using this
theorem s7 {p q : Gr → Prop} {g : Gr} (hpq : ∀ x, p x → q x) (hg : q g) (hc : ∀ x, p x → x.k = g.k → q (z6 x g)) : ∀ {xs : List Gr}, (∀ x ∈ xs, p x) → ∀ x ∈ yU g xs, q x
  | [], _, x, hx => by simp [yU] at hx; rw [hx]; exact hg
  | y :: ys, h, x, hx => by
    have hy := h y (List.mem_cons_self ..)
    have hr : ∀ z ∈ ys, p z := fun z hz => h z (List.mem_cons_of_mem _ hz)
    unfold yU at hx
    split at hx
    · rcases List.mem_cons.1 hx with rfl | hx
      · exact hpq _ hy
      · exact s7 hpq hg hc hr x hx
    · split at hx
      · rename_i e
        rcases List.mem_cons.1 hx with rfl | hx
        · exact hc y hy e
        · exact hpq x (hr x hx)
      · rcases List.mem_cons.1 hx with rfl | hx
        · exact hg
        · exact hpq x (h x hx)
theorem uD {p : Nat → Gr → Prop} (hm : ∀ i x, p i x → p (i + 1) x) : ∀ {gs b : List Gr} {i : Nat} (hg : ∀ g ∈ gs, ∀ j, i ≤ j → p (j + 1) g) (hc : ∀ g ∈ gs, ∀ j x, i ≤ j → j < i + gs.length → p j x → x.k = g.k → p (j + 1) (z6 x g)), (∀ x ∈ b, p i x) → ∀ x ∈ gs.foldl (fun o g => yU g o) b, p (i + gs.length) x
  | [], b, i, _, _, h, x, hx => h x hx
  | g :: gs, b, i, hg, hc, h, x, hx => by
    have h1 : ∀ x ∈ yU g b, p (i + 1) x := s7 (hm i) (hg g (List.mem_cons_self ..) i (Nat.le_refl _)) (fun x hx e => hc g (List.mem_cons_self ..) i x (Nat.le_refl _) (by simp) hx e) h
    have := uD hm (gs := gs) (b := yU g b) (i := i + 1) (fun g' hg' j hj => hg g' (List.mem_cons_of_mem _ hg') j (by omega)) (fun g' hg' j x hj hj2 hx e => hc g' (List.mem_cons_of_mem _ hg') j x (by omega) (by simp only [List.length_cons]; omega) hx e) h1 x hx
    rw [List.length_cons, show i + (gs.length + 1) = i + 1 + gs.length by omega]
    exact this
def VG (i : Nat) (x : Gr) : Prop := (0 ≤ x.k ∧ x.k ≤ 9) ∧ (1 ≤ x.n ∧ x.n ≤ i) ∧ (0 ≤ x.lo ∧ x.lo ≤ x.hi ∧ x.hi ≤ 99) ∧ x.n * x.lo ≤ x.s ∧ x.s ≤ x.n * x.hi
theorem VG.wide {i : Nat} {x : Gr} (h : VG i x) (hi : i ≤ 1000) : 0 ≤ x.n * x.lo ∧ x.n * x.hi ≤ 99000 := by
  obtain ⟨_, h2, h3, _⟩ := h
  refine ⟨Int.mul_nonneg (by omega) (by omega), ?_⟩
  have := Int.mul_le_mul (show x.n ≤ 1000 by omega) (show x.hi ≤ 99 by omega) (by omega) (by omega)
  omega
theorem VG.ofR {r : Rw} (h : vRw r = true) (i : Nat) : VG (i + 1) (ofR r) := by
  have hb := lj h
  refine ⟨hb.1, ⟨Int.le_refl _, ?_⟩, ⟨hb.2.1.1, Int.le_refl _, hb.2.1.2⟩, ?_, ?_⟩
  · show (1 : Int) ≤ ((i + 1 : Nat) : Int)
    omega
  · show (1 : Int) * r.b ≤ r.b
    omega
  · show r.b ≤ (1 : Int) * r.b
    omega
theorem VG.comb {i : Nat} {x : Gr} {r : Rw} (h : VG i x) (hr : vRw r = true) (hi : i < 1000) (e : x.k = (Gq.ofR r).k) : VG (i + 1) (z6 x (Gq.ofR r)) := by
  have hb := lj hr
  obtain ⟨w1, w2⟩ := h.wide (by omega)
  obtain ⟨h1, h2, h3, h4, h5⟩ := h
  rw [show z6 x (Gq.ofR r) = cmb x (Gq.ofR r) by simp [z6, e]]
  have en : IntKind.i64.wrap (x.n + 1) = x.n + 1 := by rw [IntKind.wrap_i64]; omega
  have es : IntKind.i64.wrap (x.s + r.b) = x.s + r.b := by rw [IntKind.wrap_i64]; omega
  have hmn : mnV x.lo r.b ≤ x.lo ∧ mnV x.lo r.b ≤ r.b ∧ 0 ≤ mnV x.lo r.b := by unfold mnV; split <;> omega
  have hmx : x.hi ≤ mxV x.hi r.b ∧ r.b ≤ mxV x.hi r.b ∧ mxV x.hi r.b ≤ 99 := by unfold mxV; split <;> omega
  have p1 := Int.mul_le_mul_of_nonneg_left hmn.1 (show 0 ≤ x.n by omega)
  have p2 := Int.mul_le_mul_of_nonneg_left hmx.1 (show 0 ≤ x.n by omega)
  refine ⟨h1, ⟨?_, ?_⟩, ⟨hmn.2.2, ?_, hmx.2.2⟩, ?_, ?_⟩
  · show 1 ≤ IntKind.i64.wrap (x.n + 1)
    omega
  · show IntKind.i64.wrap (x.n + 1) ≤ ((i + 1 : Nat) : Int)
    omega
  · show mnV x.lo r.b ≤ mxV x.hi r.b
    omega
  · show IntKind.i64.wrap (x.n + 1) * mnV x.lo r.b ≤ IntKind.i64.wrap (x.s + r.b)
    rw [en, es, Int.add_mul, Int.one_mul]
    omega
  · show IntKind.i64.wrap (x.s + r.b) ≤ IntKind.i64.wrap (x.n + 1) * mxV x.hi r.b
    rw [en, es, Int.add_mul, Int.one_mul]
    omega
theorem qs {rs : List Rw} (hl : rs.length ≤ 24) (hv : ∀ r ∈ rs, vRw r = true) : ∀ x ∈ yr rs, vG x = true := by
  intro x hx
  rw [yr, xR, yD] at hx
  have h := uD (p := VG) (gs := rs.map ofR) (b := []) (i := 0) (fun i x h => ⟨h.1, ⟨h.2.1.1, by have := h.2.1.2; omega⟩, h.2.2⟩) (fun g hg j _ => by
    obtain ⟨r, hr, rfl⟩ := List.mem_map.1 hg
    exact VG.ofR (hv r hr) j) (fun g hg j y _ hj hy e => by
    obtain ⟨r, hr, rfl⟩ := List.mem_map.1 hg
    rw [List.length_map] at hj
    exact VG.comb hy (hv r hr) (by omega) e) (fun x hx => by cases hx) x hx
  rw [List.length_map, Nat.zero_add] at h
  obtain ⟨w1, w2⟩ := h.wide (by omega)
  obtain ⟨h1, h2, h3, h4, h5⟩ := h
  have e1 : IntKind.i64.wrap (x.n * x.lo) = x.n * x.lo := by rw [IntKind.wrap_i64]; omega
  have e2 : IntKind.i64.wrap (x.n * x.hi) = x.n * x.hi := by
    have : x.n * x.lo ≤ x.n * x.hi := Int.le_trans h4 h5
    rw [IntKind.wrap_i64]; omega
  unfold vG inV
  rw [e1, e2]
  simp only [Bool.and_eq_true, decide_eq_true_eq]
  omega
def pM (r : Rw) : Prop := wB r.a ∧ wB r.b
theorem li (x : Int) : wB (IntKind.i64.wrap x) := by
  unfold wB
  rw [IntKind.wrap_i64]
  omega
theorem mn {rs : List Rw} (hv : ∀ r ∈ rs, pM r) : ∀ x ∈ yr rs, Rng x := by
  intro x hx
  rw [yr, xR, yD] at hx
  refine uD (p := fun _ => Rng) (gs := rs.map ofR) (b := []) (i := 0) (fun i x h => h) (fun g hg j _ => ?_) (fun g hg j y _ hj hy e => ?_) (fun x hx => by cases hx) x hx
  · obtain ⟨r, hr, rfl⟩ := List.mem_map.1 hg
    obtain ⟨a, b⟩ := hv r hr
    exact ⟨a, (show wB 1 from ⟨by decide, by decide⟩), b, b, b⟩
  · obtain ⟨r, hr, rfl⟩ := List.mem_map.1 hg
    obtain ⟨a, b⟩ := hv r hr
    rw [show z6 y (ofR r) = cmb y (ofR r) by simp [z6, e]]
    refine ⟨hy.1, li _, li _, ?_, ?_⟩
    · show wB (mnV y.lo r.b)
      unfold mnV
      split
      · exact b
      · exact hy.2.2.2.1
    · show wB (mxV y.hi r.b)
      unfold mxV
      split
      · exact b
      · exact hy.2.2.2.2
end Go.Proofs.Ytkcicbigpbdjpaa.Ab.Gq
namespace Go.Proofs.Ytkcicbigpbdjpaa.Ab
open Go.RowKit
def u8T : Ty Int := ⟨1, fun n => [.k (.int .u8 n)], fun _ => rfl, by decide, fun r c hc => by
  simp only [List.mem_cons, List.not_mem_nil, or_false] at hc
  subst hc
  exact ⟨rfl, rfl⟩⟩
structure Cur where
  code : List Int
  pos : Nat
  seed : Int
abbrev yO (c : Cur) : Reg := ⟨154, 3, [yW u8T c.code, I c.pos, I c.seed], 0⟩
def tV (s : Int) : Int := IntKind.i64.wrap (IntKind.i64.wrap (s * 6364136223846793005) + 1442695040888963407)
def mf (s : Int) : Int := uV .i64 (ku .i64 (lI .i64 (tV s) 33) (lI .i64 (tV s) 45)) 255
def xt (c : Cur) : Int := match c.code[c.pos]? with
  | some b => uV .i64 (IntKind.i64.wrap (mf c.seed + IntKind.i64.wrap b)) 255
  | none => mf c.seed
def yc (c : Cur) : Cur := ⟨c.code, match c.code[c.pos]? with | some _ => c.pos + 1 | none => c.pos, tV c.seed⟩
theorem xI (c : Cur) : 0 ≤ xt c ∧ xt c ≤ 255 := by
  unfold xt
  split
  · exact t8 _
  · exact t8 _
theorem vR (c : Cur) (hl : c.code.length ≤ 1000000000) : zi Go.Proofs.Try.prog 163 [.ptr 0 0] [yO c] (I (xt c)) [yO (yc c)] true := by
  refine zj [2] Go.Proofs.Try.func163 rfl rfl ?_
  simp only [Go.Proofs.Try.ntmps163, List.length_cons, List.length_nil, Nat.reduceAdd, Nat.reduceSub, List.replicate_succ, List.replicate_zero, List.cons_append, List.nil_append]
  repeat' first | refine zN ?_ | refine zA ?_ | refine zR [] ?_ | (refine isA ?_; refine zd rfl ?_) | (refine isL ?_; refine zV rfl (by kernel_rfl) rfl rfl ?_) | (refine zc rfl ?_; refine zU rfl (by kernel_rfl) rfl rfl ?_) | (refine isL ?_; refine zY rfl (by kernel_rfl) rfl (tM (n := 33) rfl rfl rfl) rfl ?_) | (refine isL ?_; refine zY rfl (by kernel_rfl) rfl (tM (n := 45) rfl rfl rfl) rfl ?_) | (refine isL ?_; refine zY rfl (by kernel_rfl) rfl (pW rfl rfl rfl) rfl ?_) | (refine isL ?_; refine zY rfl (by kernel_rfl) rfl (vn rfl rfl rfl) rfl ?_) | refine zC ?_ | refine zD _ rfl (by kernel_rfl) ?_ | refine zW rfl ?_ | refine zX rfl ?_ | refine zE ?_ | with_reducible refine zM ?_ | refine zJ ?_ | refine zK ?_ | (with_reducible first | refine zO ?_ | refine zP ?_ | refine zG ?_ | refine zI ?_ | refine zH ?_) | refine zQ ?_
  refine zm rfl (fun h => ?_) (fun h => ?_)
  · have hlt : c.pos < c.code.length := by have := of_decide_eq_true h; omega
    obtain ⟨z, hz⟩ : ∃ z, c.code[c.pos]? = some z := ⟨_, List.getElem?_eq_getElem hlt⟩
    have e1 : xt c = uV .i64 (IntKind.i64.wrap (mf c.seed + IntKind.i64.wrap z)) 255 := by rw [xt, hz]
    have e2 : yc c = ⟨c.code, c.pos + 1, tV c.seed⟩ := by rw [yc, hz]
    repeat' first | refine zN ?_ | refine zA ?_ | refine zR [] ?_ | (refine isA ?_; refine zd rfl ?_) | (refine isL ?_; refine zV rfl (by kernel_rfl) rfl rfl ?_) | (refine zc rfl ?_; refine zU rfl (by kernel_rfl) rfl rfl ?_) | (refine xH ?_; refine zb rfl (yR (t := u8T) (z := z) rfl rfl rfl rfl (Int.natCast_nonneg c.pos) hz) rfl ?_) | (refine xG rfl ?_; refine zY rfl (by kernel_rfl) rfl (yR (t := u8T) (z := z) rfl rfl rfl rfl (Int.natCast_nonneg c.pos) hz) rfl ?_) | (refine isL ?_; refine zY rfl (by kernel_rfl) rfl (vn rfl rfl rfl) rfl ?_) | exact (by rw [e1, e2]; exact vM 1 [0] xm (by decide) rfl (le_refl rfl) (.cons rfl rfl rfl rfl (zk (le_refl rfl) (zk (wL hlt (by omega)) (zk (le_refl rfl) zn))) .nil)) | refine zC ?_ | refine zD _ rfl (by kernel_rfl) ?_ | refine zW rfl ?_ | refine zX rfl ?_ | refine zE ?_ | with_reducible refine zM ?_ | refine zJ ?_ | refine zK ?_ | (with_reducible first | refine zO ?_ | refine zP ?_ | refine zG ?_ | refine zI ?_ | refine zH ?_) | refine zQ ?_
  · have hge : c.code.length ≤ c.pos := by have := of_decide_eq_false h; omega
    have hz : c.code[c.pos]? = none := List.getElem?_eq_none hge
    have e1 : xt c = mf c.seed := by rw [xt, hz]
    have e2 : yc c = ⟨c.code, c.pos, tV c.seed⟩ := by rw [yc, hz]
    repeat' first | refine zN ?_ | refine zA ?_ | refine zR [] ?_ | (refine isA ?_; refine zd rfl ?_) | (refine isL ?_; refine zV rfl (by kernel_rfl) rfl rfl ?_) | (refine zc rfl ?_; refine zU rfl (by kernel_rfl) rfl rfl ?_) | exact (by rw [e1, e2]; exact vM 1 [0] xm (by decide) rfl (le_refl rfl) (.cons rfl rfl rfl rfl (by repeat' first | exact zn | refine zk ?_ ?_ | exact zy | exact le_refl rfl | exact z8 rfl rfl | exact yB rfl) .nil)) | refine zC ?_ | refine zD _ rfl (by kernel_rfl) ?_ | refine zW rfl ?_ | refine zX rfl ?_ | refine zE ?_ | with_reducible refine zM ?_ | refine zJ ?_ | refine zK ?_ | (with_reducible first | refine zO ?_ | refine zP ?_ | refine zG ?_ | refine zI ?_ | refine zH ?_) | refine zQ ?_
end Go.Proofs.Ytkcicbigpbdjpaa.Ab
namespace Go.Proofs.Ytkcicbigpbdjpaa.Ab
open Go.RowKit
theorem zF (c : Cur) : NoH (yO c).cells := wx rfl
def ki (a b c d : Int) : Int := IntKind.i64.wrap (IntKind.i64.wrap (IntKind.i64.wrap (IntKind.i64.wrap (a * 16777216) + IntKind.i64.wrap (b * 65536)) + IntKind.i64.wrap (c * 256)) + d)
theorem nP {a b c d : Int} (ha : 0 ≤ a ∧ a ≤ 255) (hb : 0 ≤ b ∧ b ≤ 255) (hc : 0 ≤ c ∧ c ≤ 255) (hd : 0 ≤ d ∧ d ≤ 255) : 0 ≤ ki a b c d := by
  have e1 : IntKind.i64.wrap (a * 16777216) = a * 16777216 := by rw [IntKind.wrap_i64]; omega
  have e2 : IntKind.i64.wrap (b * 65536) = b * 65536 := by rw [IntKind.wrap_i64]; omega
  have e3 : IntKind.i64.wrap (c * 256) = c * 256 := by rw [IntKind.wrap_i64]; omega
  have e4 : IntKind.i64.wrap (a * 16777216 + b * 65536) = a * 16777216 + b * 65536 := by rw [IntKind.wrap_i64]; omega
  have e5 : IntKind.i64.wrap (a * 16777216 + b * 65536 + c * 256) = a * 16777216 + b * 65536 + c * 256 := by rw [IntKind.wrap_i64]; omega
  have e6 : IntKind.i64.wrap (a * 16777216 + b * 65536 + c * 256 + d) = a * 16777216 + b * 65536 + c * 256 + d := by rw [IntKind.wrap_i64]; omega
  rw [ki, e1, e2, e4, e3, e5, e6]
  omega
def beV (n : Int) (c : Cur) : Int := cond (decide (n ≤ 0)) 0 (cond (decide (n ≤ 256)) ((xt c).tmod n) ((ki (xt c) (xt (yc c)) (xt (yc (yc c))) (xt (yc (yc (yc c))))).tmod n))
def beC (n : Int) (c : Cur) : Cur := cond (decide (n ≤ 0)) c (cond (decide (n ≤ 256)) (yc c) (yc (yc (yc (yc c)))))
theorem yP (n : Int) (c : Cur) : (beC n c).code = c.code := by
  unfold beC
  cases decide (n ≤ 0) <;> cases decide (n ≤ 256) <;> rfl
theorem yv {n : Int} (h : 0 < n) (c : Cur) : 0 ≤ beV n c ∧ beV n c < n := by
  have h0 : decide (n ≤ 0) = false := decide_eq_false (by omega)
  unfold beV
  rw [h0, cond_false]
  cases decide (n ≤ 256) with
  | true => exact ⟨Int.tmod_nonneg _ (xI c).1, Int.tmod_lt_of_pos _ h⟩
  | false => exact ⟨Int.tmod_nonneg _ (nP (xI _) (xI _) (xI _) (xI _)), Int.tmod_lt_of_pos _ h⟩
theorem yt (n : Int) (c : Cur) (hl : c.code.length ≤ 1000000000) : zi Go.Proofs.Try.prog 143 [.ptr 0 0, I n] [yO c] (I (beV n c)) [yO (beC n c)] true := by
  refine zj [4] Go.Proofs.Try.func143 rfl rfl ?_
  simp only [Go.Proofs.Try.ntmps143, List.length_cons, List.length_nil, Nat.reduceAdd, Nat.reduceSub, List.replicate_succ, List.replicate_zero, List.cons_append, List.nil_append]
  repeat' first | refine zN ?_ | refine zA ?_ | refine zR [] ?_ | (refine isA ?_; refine zd rfl ?_) | (refine isL ?_; refine zV rfl (by kernel_rfl) rfl rfl ?_) | (refine zc rfl ?_; refine zU rfl (by kernel_rfl) rfl rfl ?_) | refine zC ?_ | refine zD _ rfl (by kernel_rfl) ?_ | refine zW rfl ?_ | refine zX rfl ?_ | refine zE ?_ | with_reducible refine zM ?_ | refine zJ ?_ | refine zK ?_ | (with_reducible first | refine zO ?_ | refine zP ?_ | refine zG ?_ | refine zI ?_ | refine zH ?_) | refine zQ ?_
  refine zm rfl (fun h => ?_) (fun h => ?_)
  · repeat' first | refine zN ?_ | refine zA ?_ | refine zR [] ?_ | (refine isA ?_; refine zd rfl ?_) | (refine isL ?_; refine zV rfl (by kernel_rfl) rfl rfl ?_) | (refine zc rfl ?_; refine zU rfl (by kernel_rfl) rfl rfl ?_) | exact (by rw [beV, beC, h]; exact vM 1 [0] xm (by decide) rfl (le_refl rfl) (.cons rfl rfl rfl rfl (zf (zF c)) .nil)) | refine zC ?_ | refine zD _ rfl (by kernel_rfl) ?_ | refine zW rfl ?_ | refine zX rfl ?_ | refine zE ?_ | with_reducible refine zM ?_ | refine zJ ?_ | refine zK ?_ | (with_reducible first | refine zO ?_ | refine zP ?_ | refine zG ?_ | refine zI ?_ | refine zH ?_) | refine zQ ?_
  · have hn : n ≠ 0 := by have := of_decide_eq_false h; omega
    repeat' first | refine zN ?_ | refine zA ?_ | refine zR [] ?_ | (refine isA ?_; refine zd rfl ?_) | (refine isL ?_; refine zV rfl (by kernel_rfl) rfl rfl ?_) | (refine zc rfl ?_; refine zU rfl (by kernel_rfl) rfl rfl ?_) | refine zC ?_ | refine zD _ rfl (by kernel_rfl) ?_ | refine zW rfl ?_ | refine zX rfl ?_ | refine zE ?_ | with_reducible refine zM ?_ | refine zJ ?_ | refine zK ?_ | (with_reducible first | refine zO ?_ | refine zP ?_ | refine zG ?_ | refine zI ?_ | refine zH ?_) | refine zQ ?_
    refine zm rfl (fun h' => ?_) (fun h' => ?_)
    · repeat' first | refine zN ?_ | refine zA ?_ | refine zR [] ?_ | (refine isA ?_; refine zd rfl ?_) | (refine isL ?_; refine zV rfl (by kernel_rfl) rfl rfl ?_) | (refine zc rfl ?_; refine zU rfl (by kernel_rfl) rfl rfl ?_) | (refine zo 163 ?_; refine zb rfl (zS (K := []) (Rs' := [_]) [0] (by decide) rfl (vR c hl) (.cons rfl rfl rfl (zF _) (zF _) .nil) (.cons (.ptr rfl) .nil) (fun q hq => by cases hq) rfl) rfl ?_) | (refine zp 163 rfl ?_; refine zY rfl (by kernel_rfl) rfl (zS (K := []) (Rs' := [_]) [0] (by decide) rfl (vR c hl) (.cons rfl rfl rfl (zF _) (zF _) .nil) (.cons (.ptr rfl) .nil) (fun q hq => by cases hq) rfl) rfl ?_) | (refine isA ?_; refine zb rfl (vl rfl rfl rfl hn) rfl ?_) | exact (by rw [beV, beC, h, h']; exact vM 1 [0] xm (by decide) rfl (le_refl rfl) (.cons rfl rfl rfl rfl (zf (zF (yc c))) .nil)) | refine zC ?_ | refine zD _ rfl (by kernel_rfl) ?_ | refine zW rfl ?_ | refine zX rfl ?_ | refine zE ?_ | with_reducible refine zM ?_ | refine zJ ?_ | refine zK ?_ | (with_reducible first | refine zO ?_ | refine zP ?_ | refine zG ?_ | refine zI ?_ | refine zH ?_) | refine zQ ?_
    · repeat' first | refine zN ?_ | refine zA ?_ | refine zR [] ?_ | (refine isA ?_; refine zd rfl ?_) | (refine isL ?_; refine zV rfl (by kernel_rfl) rfl rfl ?_) | (refine zc rfl ?_; refine zU rfl (by kernel_rfl) rfl rfl ?_) | (refine zo 163 (x := #[.tmp 17]) ?_; refine zb rfl (zS (K := []) (Rs' := [_]) [0] (by decide) rfl (vR c hl) (.cons rfl rfl rfl (zF _) (zF _) .nil) (.cons (.ptr rfl) .nil) (fun q hq => by cases hq) rfl) rfl ?_) | (refine zo 163 (x := #[.tmp 19]) ?_; refine zb rfl (zS (K := []) (Rs' := [_]) [0] (by decide) rfl (vR (yc c) hl) (.cons rfl rfl rfl (zF _) (zF _) .nil) (.cons (.ptr rfl) .nil) (fun q hq => by cases hq) rfl) rfl ?_) | (refine zo 163 (x := #[.tmp 21]) ?_; refine zb rfl (zS (K := []) (Rs' := [_]) [0] (by decide) rfl (vR (yc (yc c)) hl) (.cons rfl rfl rfl (zF _) (zF _) .nil) (.cons (.ptr rfl) .nil) (fun q hq => by cases hq) rfl) rfl ?_) | (refine zo 163 (x := #[.tmp 23]) ?_; refine zb rfl (zS (K := []) (Rs' := [_]) [0] (by decide) rfl (vR (yc (yc (yc c))) hl) (.cons rfl rfl rfl (zF _) (zF _) .nil) (.cons (.ptr rfl) .nil) (fun q hq => by cases hq) rfl) rfl ?_) | (refine isA ?_; refine zb rfl (vl rfl rfl rfl hn) rfl ?_) | exact (by rw [beV, beC, h, h']; exact vM 1 [0] xm (by decide) rfl (le_refl rfl) (.cons rfl rfl rfl rfl (zf (zF (yc (yc (yc (yc c)))))) .nil)) | refine zC ?_ | refine zD _ rfl (by kernel_rfl) ?_ | refine zW rfl ?_ | refine zX rfl ?_ | refine zE ?_ | with_reducible refine zM ?_ | refine zJ ?_ | refine zK ?_ | (with_reducible first | refine zO ?_ | refine zP ?_ | refine zG ?_ | refine zI ?_ | refine zH ?_) | refine zQ ?_
theorem mG (n : Int) (c : Cur) (hl : c.code.length ≤ 1000000000) : zi Go.Proofs.Try.prog 128 [.ptr 0 0, I n] [yO c] (B (decide (beV n c = 0))) [yO (beC n c)] true := by
  refine zj [4] Go.Proofs.Try.func128 rfl rfl ?_
  simp only [Go.Proofs.Try.ntmps128, List.length_cons, List.length_nil, Nat.reduceAdd, Nat.reduceSub, List.replicate_succ, List.replicate_zero, List.cons_append, List.nil_append]
  repeat' first | refine zN ?_ | refine zA ?_ | refine zR [] ?_ | (refine isA ?_; refine zd rfl ?_) | (refine isL ?_; refine zV rfl (by kernel_rfl) rfl rfl ?_) | (refine zc rfl ?_; refine zU rfl (by kernel_rfl) rfl rfl ?_) | (refine zo 143 ?_; refine zb rfl (zS (K := []) (Rs' := [_]) [0] (by decide) rfl (yt n c hl) (.cons rfl rfl rfl (zF _) (zF _) .nil) (.cons (.ptr rfl) (.cons (.same rfl) .nil)) (fun q hq => by cases hq) rfl) rfl ?_) | (refine zp 143 rfl ?_; refine zY rfl (by kernel_rfl) rfl (zS (K := []) (Rs' := [_]) [0] (by decide) rfl (yt n c hl) (.cons rfl rfl rfl (zF _) (zF _) .nil) (.cons (.ptr rfl) (.cons (.same rfl) .nil)) (fun q hq => by cases hq) rfl) rfl ?_) | exact vM 1 [0] xm (by decide) rfl (le_refl rfl) (.cons rfl rfl rfl rfl (zf (zF _)) .nil) | refine zC ?_ | refine zD _ rfl (by kernel_rfl) ?_ | refine zW rfl ?_ | refine zX rfl ?_ | refine zE ?_ | with_reducible refine zM ?_ | refine zJ ?_ | refine zK ?_ | (with_reducible first | refine zO ?_ | refine zP ?_ | refine zG ?_ | refine zI ?_ | refine zH ?_) | refine zQ ?_
theorem ld_at {P : Program} {o : Oper} {ρ : Operand → V} {H : List Reg} {t i : Nat} {x : Operand} {cs : List V} {v : V} [ht : Sc P t] (ho : o.op = .load t x) (hx : ρ x = .pref (cs.drop i)) (hz : cs[i]? = some v) : zh P o ρ H v H := by
  have hlt := (List.getElem?_eq_some_iff.1 hz).1
  rw [List.drop_eq_getElem_cons hlt] at hx
  have hv : cs[i] = v := by rw [List.getElem?_eq_getElem hlt] at hz; exact Option.some.inj hz
  rw [hv] at hx
  exact wD ho hx
theorem ko (xs : List V) (n : Nat) (z : Int) (c : Cur) (hl : c.code.length ≤ 1000000000) (h0 : 0 < n) (hz : xs[(beV n c).toNat]? = some (I z)) : zi Go.Proofs.Try.prog 131 [.ptr 0 0, .lst n xs] [yO c] (I z) [yO (beC n c)] true := by
  obtain ⟨r0, r1⟩ := yv (n := n) (by omega) c
  refine zj [4] Go.Proofs.Try.func131 rfl rfl ?_
  simp only [Go.Proofs.Try.ntmps131, List.length_cons, List.length_nil, Nat.reduceAdd, Nat.reduceSub, List.replicate_succ, List.replicate_zero, List.cons_append, List.nil_append]
  repeat' first | refine zN ?_ | refine zA ?_ | refine zR [] ?_ | (refine isA ?_; refine zd rfl ?_) | (refine isL ?_; refine zV rfl (by kernel_rfl) rfl rfl ?_) | (refine zc rfl ?_; refine zU rfl (by kernel_rfl) rfl rfl ?_) | (refine zo 143 ?_; refine zb rfl (zS (K := []) (Rs' := [_]) [0] (by decide) rfl (yt n c hl) (.cons rfl rfl rfl (zF _) (zF _) .nil) (.cons (.ptr rfl) (.cons (.same rfl) .nil)) (fun q hq => by cases hq) rfl) rfl ?_) | (refine zp 143 rfl ?_; refine zY rfl (by kernel_rfl) rfl (zS (K := []) (Rs' := [_]) [0] (by decide) rfl (yt n c hl) (.cons rfl rfl rfl (zF _) (zF _) .nil) (.cons (.ptr rfl) (.cons (.same rfl) .nil)) (fun q hq => by cases hq) rfl) rfl ?_) | (refine xH ?_; refine zb rfl (wE rfl rfl rfl r0 r1) rfl ?_) | (refine xG rfl ?_; refine zY rfl (by kernel_rfl) rfl (wE rfl rfl rfl r0 r1) rfl ?_) | (refine nN ?_; refine zb rfl (ld_at rfl rfl (by rw [Nat.mul_one]; exact hz)) rfl ?_) | exact vM 1 [0] xm (by decide) rfl (le_refl rfl) (.cons rfl rfl rfl rfl (zf (zF _)) .nil) | refine zC ?_ | refine zD _ rfl (by kernel_rfl) ?_ | refine zW rfl ?_ | refine zX rfl ?_ | refine zE ?_ | with_reducible refine zM ?_ | refine zJ ?_ | refine zK ?_ | (with_reducible first | refine zO ?_ | refine zP ?_ | refine zG ?_ | refine zI ?_ | refine zH ?_) | refine zQ ?_
def td (xs : List Int) : Nat → Int
  | 0 => IntKind.i64.wrap (10101 + xs.length)
  | i + 1 => match xs[i]? with
    | some b => uV .i64 (IntKind.i64.wrap (IntKind.i64.wrap (IntKind.i64.wrap (td xs i * 131) + IntKind.i64.wrap b) + 7)) 1073741823
    | none => td xs i
def y0 (xs : List Int) : Cur := ⟨xs, 0, td xs (min xs.length 4000)⟩
theorem wh (xs : List Int) (hl : xs.length ≤ 1000000000) : zi Go.Proofs.Try.prog 104 [yW u8T xs] [] (.ptr 0 0) [yO (y0 xs)] true := by
  refine zj [2] Go.Proofs.Try.func104 rfl rfl ?_
  simp only [Go.Proofs.Try.ntmps104, List.length_cons, List.length_nil, Nat.reduceAdd, Nat.reduceSub, List.replicate_succ, List.replicate_zero, List.cons_append, List.nil_append]
  repeat' first | refine zN ?_ | refine zA ?_ | refine zR [] ?_ | (refine isA ?_; refine zd rfl ?_) | (refine isL ?_; refine zV rfl (by kernel_rfl) rfl rfl ?_) | (refine zc rfl ?_; refine zU rfl (by kernel_rfl) rfl rfl ?_) | refine zC ?_ | refine zD _ rfl (by kernel_rfl) ?_ | refine zW rfl ?_ | refine zX rfl ?_ | refine zE ?_ | with_reducible refine zM ?_ | refine zJ ?_ | refine zK ?_ | (with_reducible first | refine zO ?_ | refine zP ?_ | refine zG ?_ | refine zI ?_ | refine zH ?_) | refine zQ ?_
  refine yV (α := { i : Nat // i ≤ min xs.length 4000 }) (fun i => ⟨[yW u8T xs, .any, .any, I (td xs i.1), I i.1, .any, .any, .any, .any, .any, .any, .any, .any, .any, .any, .any, .any, .any, .any, .any, .any, .any, .any, .any, .any, .any, .any, .any, .any, .any, .any, .any], [], 0⟩) (fun i => xs.length - i.1) ⟨0, Nat.zero_le _⟩ ?_ ?_
  · exact xX [] rfl rfl (by decide) .nil (by repeat' first | exact zn | refine zk ?_ ?_ | exact zy | exact le_refl rfl | exact z8 rfl rfl | exact yB rfl)
  · rintro ⟨i, hi⟩
    have hdone : i = min xs.length 4000 → y0 xs = ⟨xs, 0, td xs i⟩ := fun e => by rw [y0, e]
    repeat' first | refine zN ?_ | refine zA ?_ | refine zR [] ?_ | (refine isA ?_; refine zd rfl ?_) | (refine isL ?_; refine zV rfl (by kernel_rfl) rfl rfl ?_) | (refine zc rfl ?_; refine zU rfl (by kernel_rfl) rfl rfl ?_) | refine zC ?_ | refine zD _ rfl (by kernel_rfl) ?_ | refine zW rfl ?_ | refine zX rfl ?_ | refine zE ?_ | with_reducible refine zM ?_ | refine zJ ?_ | refine zK ?_ | (with_reducible first | refine zO ?_ | refine zP ?_ | refine zG ?_ | refine zI ?_ | refine zH ?_) | refine zQ ?_
    refine uF rfl rfl (fun h => ?_) (fun h => ?_)
    · have hlt : i < xs.length := by simpa using h
      obtain ⟨z, hz⟩ : ∃ z, xs[i]? = some z := ⟨_, List.getElem?_eq_getElem hlt⟩
      have es : td xs (i + 1) = uV .i64 (IntKind.i64.wrap (IntKind.i64.wrap (IntKind.i64.wrap (td xs i * 131) + IntKind.i64.wrap z) + 7)) 1073741823 := by rw [td, hz]
      repeat' first | refine zN ?_ | refine zA ?_ | refine zR [] ?_ | (refine isA ?_; refine zd rfl ?_) | (refine isL ?_; refine zV rfl (by kernel_rfl) rfl rfl ?_) | (refine zc rfl ?_; refine zU rfl (by kernel_rfl) rfl rfl ?_) | refine zC ?_ | refine zD _ rfl (by kernel_rfl) ?_ | refine zW rfl ?_ | refine zX rfl ?_ | refine zE ?_ | with_reducible refine zM ?_ | refine zJ ?_ | refine zK ?_ | (with_reducible first | refine zO ?_ | refine zP ?_ | refine zG ?_ | refine zI ?_ | refine zH ?_) | refine zQ ?_
      refine zm rfl (fun h' => ?_) (fun h' => ?_)
      · have h4 : i < 4000 := by have := of_decide_eq_true h'; simp only at this; omega
        repeat' first | refine zN ?_ | refine zA ?_ | refine zR [] ?_ | (refine isA ?_; refine zd rfl ?_) | (refine isL ?_; refine zV rfl (by kernel_rfl) rfl rfl ?_) | (refine zc rfl ?_; refine zU rfl (by kernel_rfl) rfl rfl ?_) | (refine xH ?_; refine zb rfl (yR (t := u8T) (z := z) rfl rfl rfl rfl (Int.natCast_nonneg i) hz) rfl ?_) | (refine xG rfl ?_; refine zY rfl (by kernel_rfl) rfl (yR (t := u8T) (z := z) rfl rfl rfl rfl (Int.natCast_nonneg i) hz) rfl ?_) | (refine isA ?_; refine zb rfl (vn rfl rfl rfl) rfl ?_) | refine zC ?_ | refine zD _ rfl (by kernel_rfl) ?_ | refine zW rfl ?_ | refine zX rfl ?_ | refine zE ?_ | with_reducible refine zM ?_ | refine zJ ?_ | refine zK ?_ | (with_reducible first | refine zO ?_ | refine zP ?_ | refine zG ?_ | refine zI ?_ | refine zH ?_) | refine zQ ?_
        refine ⟨⟨i + 1, by omega⟩, by simp only; omega, ?_⟩
        exact xX [] rfl rfl (by decide) .nil (by
          repeat' first | exact zn | refine zk ?_ ?_ | exact zy | exact le_refl rfl | exact wL hlt (by omega) | exact vc (congrArg _ es))
      · have h4 : ¬ i < 4000 := by have := of_decide_eq_false h'; simp only at this; omega
        repeat' first | refine zN ?_ | refine zA ?_ | refine zR [] ?_ | (refine isA ?_; refine zd rfl ?_) | (refine isL ?_; refine zV rfl (by kernel_rfl) rfl rfl ?_) | (refine zc rfl ?_; refine zU rfl (by kernel_rfl) rfl rfl ?_) | exact (by rw [hdone (by omega)]; exact vM 0 [0] (fun i hi => absurd hi (Nat.not_lt_zero _)) (by decide) rfl (yB rfl) (.cons rfl rfl rfl rfl (by repeat' first | exact zn | refine zk ?_ ?_ | exact zy | exact le_refl rfl | exact z8 rfl rfl | exact yB rfl) .nil)) | refine zC ?_ | refine zD _ rfl (by kernel_rfl) ?_ | refine zW rfl ?_ | refine zX rfl ?_ | refine zE ?_ | with_reducible refine zM ?_ | refine zJ ?_ | refine zK ?_ | (with_reducible first | refine zO ?_ | refine zP ?_ | refine zG ?_ | refine zI ?_ | refine zH ?_) | refine zQ ?_
    · have hge : ¬ i < xs.length := by simpa using h
      repeat' first | refine zN ?_ | refine zA ?_ | refine zR [] ?_ | (refine isA ?_; refine zd rfl ?_) | (refine isL ?_; refine zV rfl (by kernel_rfl) rfl rfl ?_) | (refine zc rfl ?_; refine zU rfl (by kernel_rfl) rfl rfl ?_) | exact (by rw [hdone (by omega)]; exact vM 0 [0] (fun i hi => absurd hi (Nat.not_lt_zero _)) (by decide) rfl (yB rfl) (.cons rfl rfl rfl rfl (by repeat' first | exact zn | refine zk ?_ ?_ | exact zy | exact le_refl rfl | exact z8 rfl rfl | exact yB rfl) .nil)) | refine zC ?_ | refine zD _ rfl (by kernel_rfl) ?_ | refine zW rfl ?_ | refine zX rfl ?_ | refine zE ?_ | with_reducible refine zM ?_ | refine zJ ?_ | refine zK ?_ | (with_reducible first | refine zO ?_ | refine zP ?_ | refine zG ?_ | refine zI ?_ | refine zH ?_) | refine zQ ?_
end Go.Proofs.Ytkcicbigpbdjpaa.Ab
namespace Go.Proofs.Ytkcicbigpbdjpaa.Ab
open Go.RowKit
def pkV (zs : List Int) (c : Cur) : Int := (zs[(beV zs.length c).toNat]?).getD 0
theorem yo (zs : List Int) (c : Cur) (hl : c.code.length ≤ 1000000000) (h0 : 0 < zs.length) : zi Go.Proofs.Try.prog 131 [.ptr 0 0, .lst zs.length (zs.map I)] [yO c] (I (pkV zs c)) [yO (beC zs.length c)] true := by
  obtain ⟨r0, r1⟩ := yv (n := zs.length) (by omega) c
  refine ko _ _ _ c hl h0 ?_
  have hlt : (beV zs.length c).toNat < zs.length := by omega
  rw [List.getElem?_map, pkV, List.getElem?_eq_getElem hlt]
  rfl
theorem x3 {l : List V} {H : List Reg} {t : Tmp} {n : Nat} {v r : V} {K : Reg} (hv : CellIs l H t n v) (hr : Le [0] r v) (hH : HLes [0] H [0] [K]) :
    (Exit.ret = .ret ∨ Exit.ret = .normal) ∧ ∃ v, CellIs l H t n v ∧ Out true r [K] v ⟨l, H, 1⟩ := ⟨Or.inl rfl, v, hv, vD (S := ⟨l, H, 1⟩) [0] xm (wl (by decide) hH) hr (Or.inl rfl)⟩
theorem tS {o : Oper} {ρ : Operand → V} {H H' : List Reg} {f : FuncId} {a : Operand} {args : List Operand} {ats : Array TypeId} {cargs : List V} {m : Nat} {c c' : Cur} {R : Reg} (n h : Nat) [he : Ent Go.Proofs.Try.prog f]
    (hm : zi Go.Proofs.Try.prog f (.ptr 0 0 :: cargs) [yO c] (.sl 1 0 m) [yO c', R] true) (ho : o.op = .call { callee := .value (.func f), args := (a :: args).toArray, argTypes := ats })
    (ha : ρ a = .ptr h 0) (hargs : args.map ρ = cargs) (hN : noHs cargs = true) (hR : NoH R.cells) (hH : H[h]? = some (yO c)) (hn : H.length = n) (hH' : H.set h (yO c') ++ [R] = H') : zh Go.Proofs.Try.prog o ρ H (.sl n 0 m) H' := by
  subst hn
  refine pq (args := a :: args) (K := [R]) (K2 := [R]) (Rs' := [yO c']) [h] (by simp) ho hm (.cons (R0 := yO c) (R' := yO c') hH rfl (wX (zF _)) Nat.zero_ne_one (.rest (zF _)) .nil) ?_ (.ofN (fun q hq => by simp at hq; subst hq; exact hR)) (.sl rfl) hH'
  show PassS [h] (ρ a :: args.map ρ) _
  rw [ha, hargs]
  exact .cons (.ptr rfl) (wX (wx hN))
def zu (keys : Int) (c : Cur) : Rw × Cur := (⟨beV keys c, beV 100 (beC keys c), pkV [0, 0, 1, 2, 3] (beC 100 (beC keys c))⟩, beC 5 (beC 100 (beC keys c)))
theorem xo (keys : Int) (c : Cur) : (zu keys c).2.code = c.code := by
  show (beC 5 (beC 100 (beC keys c))).code = _
  rw [yP, yP, yP]
theorem ud (keys : Int) (c : Cur) (hl : c.code.length ≤ 1000000000) : zi Go.Proofs.Try.prog 159 [.ptr 0 0, I keys] [yO c] (.agg (rwE (zu keys c).1)) [yO (zu keys c).2] true := by
  have h1 : (beC keys c).code.length ≤ 1000000000 := by rw [yP]; exact hl
  have h2 : (beC 100 (beC keys c)).code.length ≤ 1000000000 := by rw [yP]; exact h1
  refine yn 4 71 Go.Proofs.Try.func159 rfl rfl ?_
  simp only [Go.Proofs.Try.ntmps159, List.length_cons, List.length_nil, Nat.reduceAdd, Nat.reduceSub, List.replicate_succ, List.replicate_zero, List.cons_append, List.nil_append]
  repeat' first | (refine isA ?_; refine zb rfl (yh rfl rfl rfl rfl rfl) rfl ?_) | refine zN ?_ | refine zA ?_ | refine zR [] ?_ | (refine isA ?_; refine zd rfl ?_) | (refine isL ?_; refine zV rfl (by kernel_rfl) rfl rfl ?_) | (refine zc rfl ?_; refine zU rfl (by kernel_rfl) rfl rfl ?_) | (refine zo 143 (x := #[.tmp 5, .tmp 6]) ?_; refine zb rfl (zS (K := []) (Rs' := [_]) [0] (by decide) rfl (yt keys c hl) (.cons rfl rfl rfl (zF _) (zF _) .nil) (.cons (.ptr rfl) (.cons (.same rfl) .nil)) (fun q hq => by cases hq) rfl) rfl ?_) | (refine zp 143 (x := #[.tmp 5, .tmp 6]) rfl ?_; refine zY rfl (by kernel_rfl) rfl (zS (K := []) (Rs' := [_]) [0] (by decide) rfl (yt keys c hl) (.cons rfl rfl rfl (zF _) (zF _) .nil) (.cons (.ptr rfl) (.cons (.same rfl) .nil)) (fun q hq => by cases hq) rfl) rfl ?_) | (refine zo 143 ?_; refine zb rfl (zS (K := []) (Rs' := [_]) [0] (by decide) rfl (yt 100 (beC keys c) h1) (.cons rfl rfl rfl (zF _) (zF _) .nil) (.cons (.ptr rfl) (.cons (.same rfl) .nil)) (fun q hq => by cases hq) rfl) rfl ?_) | (refine zp 143 rfl ?_; refine zY rfl (by kernel_rfl) rfl (zS (K := []) (Rs' := [_]) [0] (by decide) rfl (yt 100 (beC keys c) h1) (.cons rfl rfl rfl (zF _) (zF _) .nil) (.cons (.ptr rfl) (.cons (.same rfl) .nil)) (fun q hq => by cases hq) rfl) rfl ?_) | (refine zo 131 ?_; refine zb rfl (zS (K := []) (Rs' := [_]) [0] (by decide) rfl (yo [0, 0, 1, 2, 3] (beC 100 (beC keys c)) h2 (by decide)) (.cons rfl rfl rfl (zF _) (zF _) .nil) (.cons (.ptr rfl) (.cons (.same rfl) .nil)) (fun q hq => by cases hq) rfl) rfl ?_) | (refine zp 131 rfl ?_; refine zY rfl (by kernel_rfl) rfl (zS (K := []) (Rs' := [_]) [0] (by decide) rfl (yo [0, 0, 1, 2, 3] (beC 100 (beC keys c)) h2 (by decide)) (.cons rfl rfl rfl (zF _) (zF _) .nil) (.cons (.ptr rfl) (.cons (.same rfl) .nil)) (fun q hq => by cases hq) rfl) rfl ?_) | exact x3 (yJ rfl rfl rfl rfl rfl) (le_refl rfl) (.cons rfl rfl rfl rfl (zf (zF _)) .nil) | refine zC ?_ | refine zD _ rfl (by kernel_rfl) ?_ | refine zW rfl ?_ | refine zX rfl ?_ | refine zE ?_ | with_reducible refine zM ?_ | refine zJ ?_ | refine zK ?_ | (with_reducible first | refine zO ?_ | refine zP ?_ | refine zG ?_ | refine zI ?_ | refine zH ?_) | refine zQ ?_
def yp (keys : Int) (c : Cur) : Nat → List Rw × Cur
  | 0 => ([], c)
  | i + 1 => ((yp keys c i).1 ++ [(zu keys (yp keys c i).2).1], (zu keys (yp keys c i).2).2)
theorem vA (keys : Int) (c : Cur) : ∀ i, (yp keys c i).1.length = i
  | 0 => rfl
  | i + 1 => by rw [yp, List.length_append, vA keys c i]; rfl
theorem wj (keys : Int) (c : Cur) : ∀ i, (yp keys c i).2.code = c.code
  | 0 => rfl
  | i + 1 => by rw [yp, xo, wj keys c i]
def zq (most : Int) (c : Cur) : List Rw × Cur := yp (pkV [1, 2, 4, 10] c) (beC (IntKind.i64.wrap (most + 1)) (beC 4 c)) (beV (IntKind.i64.wrap (most + 1)) (beC 4 c)).toNat
theorem vq (most : Int) (c : Cur) : (zq most c).2.code = c.code := by rw [zq, wj, yP, yP]
theorem vB {most : Int} (h0 : 0 ≤ most) (h1 : most ≤ 1000) (c : Cur) : ((zq most c).1.length : Int) ≤ most := by
  have e : IntKind.i64.wrap (most + 1) = most + 1 := by rw [IntKind.wrap_i64]; omega
  rw [zq, vA, e]
  have := yv (n := most + 1) (by omega) (beC 4 c)
  omega
theorem sT (most : Int) (m0 : 0 ≤ most) (m1 : most ≤ 1000) (c : Cur) (hl : c.code.length ≤ 1000000000) : zi Go.Proofs.Try.prog 129 [.ptr 0 0, I most] [yO c] (.sl 1 0 (zq most c).1.length) [yO (zq most c).2, rwR (zq most c).1] true := by
  have h1 : (beC 4 c).code.length ≤ 1000000000 := by rw [yP]; exact hl
  have e : IntKind.i64.wrap (most + 1) = most + 1 := by rw [IntKind.wrap_i64]; omega
  obtain ⟨r0, r1⟩ := yv (n := IntKind.i64.wrap (most + 1)) (by omega) (beC 4 c)
  obtain ⟨k, hk⟩ : ∃ k : Nat, beV (IntKind.i64.wrap (most + 1)) (beC 4 c) = k := ⟨(beV (IntKind.i64.wrap (most + 1)) (beC 4 c)).toNat, by omega⟩
  have hkl : k ≤ 1000 := by omega
  refine zj [4] Go.Proofs.Try.func129 rfl rfl ?_
  simp only [Go.Proofs.Try.ntmps129, List.length_cons, List.length_nil, Nat.reduceAdd, Nat.reduceSub, List.replicate_succ, List.replicate_zero, List.cons_append, List.nil_append]
  repeat' first | (refine isA ?_; refine zb rfl (yh (cs := [1, 2, 4, 10].map I) rfl rfl rfl rfl rfl) rfl ?_) | refine zN ?_ | refine zA ?_ | refine zR [] ?_ | (refine isA ?_; refine zd rfl ?_) | (refine isL ?_; refine zV rfl (by kernel_rfl) rfl rfl ?_) | (refine zc rfl ?_; refine zU rfl (by kernel_rfl) rfl rfl ?_) | (refine zo 131 ?_; refine zb rfl (zS (K := []) (Rs' := [_]) [0] (by decide) rfl (yo [1, 2, 4, 10] c hl (by decide)) (.cons rfl rfl rfl (zF _) (zF _) .nil) (.cons (.ptr rfl) (.cons (.same rfl) .nil)) (fun q hq => by cases hq) rfl) rfl ?_) | (refine zp 131 rfl ?_; refine zY rfl (by kernel_rfl) rfl (zS (K := []) (Rs' := [_]) [0] (by decide) rfl (yo [1, 2, 4, 10] c hl (by decide)) (.cons rfl rfl rfl (zF _) (zF _) .nil) (.cons (.ptr rfl) (.cons (.same rfl) .nil)) (fun q hq => by cases hq) rfl) rfl ?_) | (refine zo 143 ?_; refine zb rfl (zS (K := []) (Rs' := [_]) [0] (by decide) rfl (yt (IntKind.i64.wrap (most + 1)) (beC 4 c) h1) (.cons rfl rfl rfl (zF _) (zF _) .nil) (.cons (.ptr rfl) (.cons (.same rfl) .nil)) (fun q hq => by cases hq) rfl) rfl ?_) | (refine zp 143 rfl ?_; refine zY rfl (by kernel_rfl) rfl (zS (K := []) (Rs' := [_]) [0] (by decide) rfl (yt (IntKind.i64.wrap (most + 1)) (beC 4 c) h1) (.cons rfl rfl rfl (zF _) (zF _) .nil) (.cons (.ptr rfl) (.cons (.same rfl) .nil)) (fun q hq => by cases hq) rfl) rfl ?_) | refine zC ?_ | refine zD _ rfl (by kernel_rfl) ?_ | refine zW rfl ?_ | refine zX rfl ?_ | refine zE ?_ | with_reducible refine zM ?_ | refine zJ ?_ | refine zK ?_ | (with_reducible first | refine zO ?_ | refine zP ?_ | refine zG ?_ | refine zI ?_ | refine zH ?_) | refine zQ ?_
  have hq : (beC (IntKind.i64.wrap (most + 1)) (beC 4 c)).code.length ≤ 1000000000 := by rw [yP]; exact h1
  have hD : zq most c = yp (pkV [1, 2, 4, 10] c) (beC (IntKind.i64.wrap (most + 1)) (beC 4 c)) k := by rw [zq, hk]; rfl
  rw [hD, hk]
  generalize hQ : pkV [1, 2, 4, 10] c = q
  generalize hE : beC (IntKind.i64.wrap (most + 1)) (beC 4 c) = d at hq
  refine yV (α := { j : Nat // j ≤ k }) (fun j => ⟨[.ptr 0 0, .any, .any, .any, .any, .sl 1 0 (yp q d j.1).1.length, I q, I ((k : Int) - j.1), .any, .any, .any, .any, .any, .any, .any, .any, .any, .any, .any, .any, .any, .any, .any, .any, .any, .any, .any], [yO (yp q d j.1).2, rwR (yp q d j.1).1], 1⟩) (fun j => k - j.1) ⟨0, Nat.zero_le _⟩ ?_ ?_
  · refine qg 1 [0, 1] rfl rfl xm (by decide) (.cons rfl rfl rfl rfl (zf (zF _)) (.cons rfl rfl rfl rfl (yC rfl) .nil)) (by
      repeat' first | exact zn | refine zk ?_ ?_ | exact zy | exact le_refl rfl | exact yB rfl | exact z8 rfl rfl | exact vc (congrArg _ (by simp)))
  · rintro ⟨j, hj⟩
    have hcl : (yp q d j).2.code.length ≤ 1000000000 := by rw [wj]; exact hq
    have hol := vA q d j
    repeat' first | refine zN ?_ | refine zA ?_ | refine zR [] ?_ | (refine isA ?_; refine zd rfl ?_) | (refine isL ?_; refine zV rfl (by kernel_rfl) rfl rfl ?_) | (refine zc rfl ?_; refine zU rfl (by kernel_rfl) rfl rfl ?_) | refine zC ?_ | refine zD _ rfl (by kernel_rfl) ?_ | refine zW rfl ?_ | refine zX rfl ?_ | refine zE ?_ | with_reducible refine zM ?_ | refine zJ ?_ | refine zK ?_ | (with_reducible first | refine zO ?_ | refine zP ?_ | refine zG ?_ | refine zI ?_ | refine zH ?_) | refine zQ ?_
    refine zm rfl (fun h => ?_) (fun h => ?_)
    · have hlt : j < k := by have := of_decide_eq_true h; simp only at this; omega
      repeat' first | (refine isA ?_; refine zb rfl (yh rfl rfl rfl rfl rfl) rfl ?_) | refine zN ?_ | refine zA ?_ | refine zR [] ?_ | (refine isA ?_; refine zd rfl ?_) | (refine isL ?_; refine zV rfl (by kernel_rfl) rfl rfl ?_) | (refine zc rfl ?_; refine zU rfl (by kernel_rfl) rfl rfl ?_) | (refine zo 159 ?_; refine zb rfl (zS (K := []) (Rs' := [_]) [0] (by decide) rfl (ud q (yp q d j).2 hcl) (.cons rfl rfl rfl (zF _) (zF _) .nil) (.cons (.ptr rfl) (.cons (.same rfl) .nil)) (fun q hq => by cases hq) rfl) rfl ?_) | (refine zp 159 rfl ?_; refine zY rfl (by kernel_rfl) rfl (zS (K := []) (Rs' := [_]) [0] (by decide) rfl (ud q (yp q d j).2 hcl) (.cons rfl rfl rfl (zF _) (zF _) .nil) (.cons (.ptr rfl) (.cons (.same rfl) .nil)) (fun q hq => by cases hq) rfl) rfl ?_) | (refine v6 ?_; refine zb rfl (xJ (t := rwT) (xs := (yp q d j).1) (ys := [(zu q (yp q d j).2).1]) rfl rfl rfl rfl (.lst _ _) (by rw [hol]; simp; omega) rfl) rfl ?_) | (refine vz rfl ?_; refine zY rfl (by kernel_rfl) rfl (xJ (t := rwT) (xs := (yp q d j).1) (ys := [(zu q (yp q d j).2).1]) rfl rfl rfl rfl (.lst _ _) (by rw [hol]; simp; omega) rfl) rfl ?_) | refine zC ?_ | refine zD _ rfl (by kernel_rfl) ?_ | refine zW rfl ?_ | refine zX rfl ?_ | refine zE ?_ | with_reducible refine zM ?_ | refine zJ ?_ | refine zK ?_ | (with_reducible first | refine zO ?_ | refine zP ?_ | refine zG ?_ | refine zI ?_ | refine zH ?_) | refine zQ ?_
      refine ⟨⟨j + 1, hlt⟩, by simp only; omega, ?_⟩
      exact qg 1 [0, 2] rfl rfl xm (by decide) (.cons rfl rfl rfl rfl (zf (zF _)) (.cons rfl rfl rfl rfl (zf (zg _ _)) .nil)) (by
        repeat' first | exact zn | refine zk ?_ ?_ | exact zy | exact le_refl rfl | exact yB rfl | exact z8 rfl rfl | exact vc (congrArg _ (show (k : Int) - ((j + 1 : Nat) : Int) = IntKind.i64.wrap ((k : Int) - (j : Int) - 1) by rw [IntKind.wrap_i64]; omega)))
    · have hge : j = k := by have := of_decide_eq_false h; simp only at this; omega
      subst hge
      repeat' first | refine zN ?_ | refine zA ?_ | refine zR [] ?_ | (refine isA ?_; refine zd rfl ?_) | (refine isL ?_; refine zV rfl (by kernel_rfl) rfl rfl ?_) | (refine zc rfl ?_; refine zU rfl (by kernel_rfl) rfl rfl ?_) | exact vM 1 [0, 1] xm (by decide) rfl (z8 rfl rfl) (.cons rfl rfl rfl rfl (zf (zF _)) (.cons rfl rfl rfl rfl (zf (zg _ _)) .nil)) | refine zC ?_ | refine zD _ rfl (by kernel_rfl) ?_ | refine zW rfl ?_ | refine zX rfl ?_ | refine zE ?_ | with_reducible refine zM ?_ | refine zJ ?_ | refine zK ?_ | (with_reducible first | refine zO ?_ | refine zP ?_ | refine zG ?_ | refine zI ?_ | refine zH ?_) | refine zQ ?_
def xn (c : Cur) : Rw × Cur :=
  cond (decide (beV 8 (zu 10 c).2 = 0)) (⟨pkV [-1, 10] (beC 8 (zu 10 c).2), (zu 10 c).1.b, (zu 10 c).1.c⟩, beC 2 (beC 8 (zu 10 c).2))
    (cond (decide (beV 8 (zu 10 c).2 = 1)) (⟨(zu 10 c).1.a, pkV [-1, 100, 99] (beC 8 (zu 10 c).2), (zu 10 c).1.c⟩, beC 3 (beC 8 (zu 10 c).2))
      (cond (decide (beV 8 (zu 10 c).2 = 2)) (⟨(zu 10 c).1.a, (zu 10 c).1.b, pkV [-1, 4] (beC 8 (zu 10 c).2)⟩, beC 2 (beC 8 (zu 10 c).2)) ((zu 10 c).1, beC 8 (zu 10 c).2)))
theorem mS (c : Cur) (hl : c.code.length ≤ 1000000000) : zi Go.Proofs.Try.prog 155 [.ptr 0 0] [yO c] (.agg (rwE (xn c).1)) [yO (xn c).2] true := by
  have h1 : (zu 10 c).2.code.length ≤ 1000000000 := by rw [xo]; exact hl
  have h2 : (beC 8 (zu 10 c).2).code.length ≤ 1000000000 := by rw [yP]; exact h1
  refine yn 2 71 Go.Proofs.Try.func155 rfl rfl ?_
  simp only [Go.Proofs.Try.ntmps155, List.length_cons, List.length_nil, Nat.reduceAdd, Nat.reduceSub, List.replicate_succ, List.replicate_zero, List.cons_append, List.nil_append]
  repeat' first | refine zN ?_ | refine zA ?_ | refine zR [] ?_ | (refine isA ?_; refine zd rfl ?_) | (refine isL ?_; refine zV rfl (by kernel_rfl) rfl rfl ?_) | (refine zc rfl ?_; refine zU rfl (by kernel_rfl) rfl rfl ?_) | (refine zo 159 ?_; refine zb rfl (zS (K := []) (Rs' := [_]) [0] (by decide) rfl (ud 10 c hl) (.cons rfl rfl rfl (zF _) (zF _) .nil) (.cons (.ptr rfl) (.cons (.same rfl) .nil)) (fun q hq => by cases hq) rfl) rfl ?_) | (refine zp 159 rfl ?_; refine zY rfl (by kernel_rfl) rfl (zS (K := []) (Rs' := [_]) [0] (by decide) rfl (ud 10 c hl) (.cons rfl rfl rfl (zF _) (zF _) .nil) (.cons (.ptr rfl) (.cons (.same rfl) .nil)) (fun q hq => by cases hq) rfl) rfl ?_) | (refine zo 143 ?_; refine zb rfl (zS (K := []) (Rs' := [_]) [0] (by decide) rfl (yt 8 (zu 10 c).2 h1) (.cons rfl rfl rfl (zF _) (zF _) .nil) (.cons (.ptr rfl) (.cons (.same rfl) .nil)) (fun q hq => by cases hq) rfl) rfl ?_) | (refine zp 143 rfl ?_; refine zY rfl (by kernel_rfl) rfl (zS (K := []) (Rs' := [_]) [0] (by decide) rfl (yt 8 (zu 10 c).2 h1) (.cons rfl rfl rfl (zF _) (zF _) .nil) (.cons (.ptr rfl) (.cons (.same rfl) .nil)) (fun q hq => by cases hq) rfl) rfl ?_) | refine zC ?_ | refine zD _ rfl (by kernel_rfl) ?_ | refine zW rfl ?_ | refine zX rfl ?_ | refine zE ?_ | with_reducible refine zM ?_ | refine zJ ?_ | refine zK ?_ | (with_reducible first | refine zO ?_ | refine zP ?_ | refine zG ?_ | refine zI ?_ | refine zH ?_) | refine zQ ?_
  refine zm rfl (fun b0 => ?_) (fun b0 => ?_)
  · skip
    have D : xn c = (⟨pkV [-1, 10] (beC 8 (zu 10 c).2), (zu 10 c).1.b, (zu 10 c).1.c⟩, beC 2 (beC 8 (zu 10 c).2)) := by rw [xn, b0]; rfl
    repeat' first | (refine isA ?_; refine zb rfl (yh rfl rfl rfl rfl rfl) rfl ?_) | refine zN ?_ | refine zA ?_ | refine zR [] ?_ | (refine isA ?_; refine zd rfl ?_) | (refine isL ?_; refine zV rfl (by kernel_rfl) rfl rfl ?_) | (refine zc rfl ?_; refine zU rfl (by kernel_rfl) rfl rfl ?_) | (refine zo 131 ?_; refine zb rfl (zS (K := []) (Rs' := [_]) [0] (by decide) rfl (yo [-1, 10] (beC 8 (zu 10 c).2) h2 (Nat.zero_lt_succ _)) (.cons rfl rfl rfl (zF _) (zF _) .nil) (.cons (.ptr rfl) (.cons (.same rfl) .nil)) (fun q hq => by cases hq) rfl) rfl ?_) | (refine zp 131 rfl ?_; refine zY rfl (by kernel_rfl) rfl (zS (K := []) (Rs' := [_]) [0] (by decide) rfl (yo [-1, 10] (beC 8 (zu 10 c).2) h2 (Nat.zero_lt_succ _)) (.cons rfl rfl rfl (zF _) (zF _) .nil) (.cons (.ptr rfl) (.cons (.same rfl) .nil)) (fun q hq => by cases hq) rfl) rfl ?_) | exact (by rw [D]; exact x3 (yJ rfl rfl rfl rfl rfl) (le_refl rfl) (.cons rfl rfl rfl rfl (zf (zF _)) .nil)) | refine zC ?_ | refine zD _ rfl (by kernel_rfl) ?_ | refine zW rfl ?_ | refine zX rfl ?_ | refine zE ?_ | with_reducible refine zM ?_ | refine zJ ?_ | refine zK ?_ | (with_reducible first | refine zO ?_ | refine zP ?_ | refine zG ?_ | refine zI ?_ | refine zH ?_) | refine zQ ?_
  · repeat' first | refine zN ?_ | refine zA ?_ | refine zR [] ?_ | (refine isA ?_; refine zd rfl ?_) | (refine isL ?_; refine zV rfl (by kernel_rfl) rfl rfl ?_) | (refine zc rfl ?_; refine zU rfl (by kernel_rfl) rfl rfl ?_) | refine zC ?_ | refine zD _ rfl (by kernel_rfl) ?_ | refine zW rfl ?_ | refine zX rfl ?_ | refine zE ?_ | with_reducible refine zM ?_ | refine zJ ?_ | refine zK ?_ | (with_reducible first | refine zO ?_ | refine zP ?_ | refine zG ?_ | refine zI ?_ | refine zH ?_) | refine zQ ?_
    refine zm rfl (fun b1 => ?_) (fun b1 => ?_)
    · skip
      have D : xn c = (⟨(zu 10 c).1.a, pkV [-1, 100, 99] (beC 8 (zu 10 c).2), (zu 10 c).1.c⟩, beC 3 (beC 8 (zu 10 c).2)) := by rw [xn, b0, b1]; rfl
      repeat' first | (refine isA ?_; refine zb rfl (yh rfl rfl rfl rfl rfl) rfl ?_) | refine zN ?_ | refine zA ?_ | refine zR [] ?_ | (refine isA ?_; refine zd rfl ?_) | (refine isL ?_; refine zV rfl (by kernel_rfl) rfl rfl ?_) | (refine zc rfl ?_; refine zU rfl (by kernel_rfl) rfl rfl ?_) | (refine zo 131 ?_; refine zb rfl (zS (K := []) (Rs' := [_]) [0] (by decide) rfl (yo [-1, 100, 99] (beC 8 (zu 10 c).2) h2 (Nat.zero_lt_succ _)) (.cons rfl rfl rfl (zF _) (zF _) .nil) (.cons (.ptr rfl) (.cons (.same rfl) .nil)) (fun q hq => by cases hq) rfl) rfl ?_) | (refine zp 131 rfl ?_; refine zY rfl (by kernel_rfl) rfl (zS (K := []) (Rs' := [_]) [0] (by decide) rfl (yo [-1, 100, 99] (beC 8 (zu 10 c).2) h2 (Nat.zero_lt_succ _)) (.cons rfl rfl rfl (zF _) (zF _) .nil) (.cons (.ptr rfl) (.cons (.same rfl) .nil)) (fun q hq => by cases hq) rfl) rfl ?_) | exact (by rw [D]; exact x3 (yJ rfl rfl rfl rfl rfl) (le_refl rfl) (.cons rfl rfl rfl rfl (zf (zF _)) .nil)) | refine zC ?_ | refine zD _ rfl (by kernel_rfl) ?_ | refine zW rfl ?_ | refine zX rfl ?_ | refine zE ?_ | with_reducible refine zM ?_ | refine zJ ?_ | refine zK ?_ | (with_reducible first | refine zO ?_ | refine zP ?_ | refine zG ?_ | refine zI ?_ | refine zH ?_) | refine zQ ?_
    · repeat' first | refine zN ?_ | refine zA ?_ | refine zR [] ?_ | (refine isA ?_; refine zd rfl ?_) | (refine isL ?_; refine zV rfl (by kernel_rfl) rfl rfl ?_) | (refine zc rfl ?_; refine zU rfl (by kernel_rfl) rfl rfl ?_) | refine zC ?_ | refine zD _ rfl (by kernel_rfl) ?_ | refine zW rfl ?_ | refine zX rfl ?_ | refine zE ?_ | with_reducible refine zM ?_ | refine zJ ?_ | refine zK ?_ | (with_reducible first | refine zO ?_ | refine zP ?_ | refine zG ?_ | refine zI ?_ | refine zH ?_) | refine zQ ?_
      refine zm rfl (fun b2 => ?_) (fun b2 => ?_)
      · skip
        have D : xn c = (⟨(zu 10 c).1.a, (zu 10 c).1.b, pkV [-1, 4] (beC 8 (zu 10 c).2)⟩, beC 2 (beC 8 (zu 10 c).2)) := by rw [xn, b0, b1, b2]; rfl
        repeat' first | (refine isA ?_; refine zb rfl (yh rfl rfl rfl rfl rfl) rfl ?_) | refine zN ?_ | refine zA ?_ | refine zR [] ?_ | (refine isA ?_; refine zd rfl ?_) | (refine isL ?_; refine zV rfl (by kernel_rfl) rfl rfl ?_) | (refine zc rfl ?_; refine zU rfl (by kernel_rfl) rfl rfl ?_) | (refine zo 131 ?_; refine zb rfl (zS (K := []) (Rs' := [_]) [0] (by decide) rfl (yo [-1, 4] (beC 8 (zu 10 c).2) h2 (Nat.zero_lt_succ _)) (.cons rfl rfl rfl (zF _) (zF _) .nil) (.cons (.ptr rfl) (.cons (.same rfl) .nil)) (fun q hq => by cases hq) rfl) rfl ?_) | (refine zp 131 rfl ?_; refine zY rfl (by kernel_rfl) rfl (zS (K := []) (Rs' := [_]) [0] (by decide) rfl (yo [-1, 4] (beC 8 (zu 10 c).2) h2 (Nat.zero_lt_succ _)) (.cons rfl rfl rfl (zF _) (zF _) .nil) (.cons (.ptr rfl) (.cons (.same rfl) .nil)) (fun q hq => by cases hq) rfl) rfl ?_) | exact (by rw [D]; exact x3 (yJ rfl rfl rfl rfl rfl) (le_refl rfl) (.cons rfl rfl rfl rfl (zf (zF _)) .nil)) | refine zC ?_ | refine zD _ rfl (by kernel_rfl) ?_ | refine zW rfl ?_ | refine zX rfl ?_ | refine zE ?_ | with_reducible refine zM ?_ | refine zJ ?_ | refine zK ?_ | (with_reducible first | refine zO ?_ | refine zP ?_ | refine zG ?_ | refine zI ?_ | refine zH ?_) | refine zQ ?_
      · skip
        have D : xn c = ((zu 10 c).1, beC 8 (zu 10 c).2) := by rw [xn, b0, b1, b2]; rfl
        repeat' first | refine zN ?_ | refine zA ?_ | refine zR [] ?_ | (refine isA ?_; refine zd rfl ?_) | (refine isL ?_; refine zV rfl (by kernel_rfl) rfl rfl ?_) | (refine zc rfl ?_; refine zU rfl (by kernel_rfl) rfl rfl ?_) | exact (by rw [D]; exact x3 (yJ rfl rfl rfl rfl rfl) (le_refl rfl) (.cons rfl rfl rfl rfl (zf (zF _)) .nil)) | refine zC ?_ | refine zD _ rfl (by kernel_rfl) ?_ | refine zW rfl ?_ | refine zX rfl ?_ | refine zE ?_ | with_reducible refine zM ?_ | refine zJ ?_ | refine zK ?_ | (with_reducible first | refine zO ?_ | refine zP ?_ | refine zG ?_ | refine zI ?_ | refine zH ?_) | refine zQ ?_
def y6 (most : Int) (c : Cur) : List Rw × Cur :=
  cond (decide (beV 14 (zq most c).2 = 0)) ((zq most c).1 ++ [(xn (beC 14 (zq most c).2)).1], (xn (beC 14 (zq most c).2)).2) ((zq most c).1, beC 14 (zq most c).2)
theorem pH {most : Int} (h0 : 0 ≤ most) (h1 : most ≤ 1000) (c : Cur) : ((y6 most c).1.length : Int) ≤ most + 1 := by
  have := vB h0 h1 c
  unfold y6
  cases decide (beV 14 (zq most c).2 = 0) <;> simp <;> omega
theorem kp (most : Int) (m0 : 0 ≤ most) (m1 : most ≤ 1000) (c : Cur) (hl : c.code.length ≤ 1000000000) : zi Go.Proofs.Try.prog 105 [.ptr 0 0, I most] [yO c] (.sl 1 0 (y6 most c).1.length) [yO (y6 most c).2, rwR (y6 most c).1] true := by
  have h1 : (zq most c).2.code.length ≤ 1000000000 := by rw [vq]; exact hl
  have h2 : (beC 14 (zq most c).2).code.length ≤ 1000000000 := by rw [yP]; exact h1
  have hrl := vB m0 m1 c
  refine zj [4] Go.Proofs.Try.func105 rfl rfl ?_
  simp only [Go.Proofs.Try.ntmps105, List.length_cons, List.length_nil, Nat.reduceAdd, Nat.reduceSub, List.replicate_succ, List.replicate_zero, List.cons_append, List.nil_append]
  repeat' first | refine zN ?_ | refine zA ?_ | refine zR [] ?_ | (refine isA ?_; refine zd rfl ?_) | (refine isL ?_; refine zV rfl (by kernel_rfl) rfl rfl ?_) | (refine zc rfl ?_; refine zU rfl (by kernel_rfl) rfl rfl ?_) | (refine zo 129 ?_; refine zb rfl (tS (args := [_]) 1 0 (sT most m0 m1 c hl) rfl rfl rfl rfl (zg _ _) rfl rfl rfl) rfl ?_) | (refine zp 129 rfl ?_; refine zY rfl (by kernel_rfl) rfl (tS (args := [_]) 1 0 (sT most m0 m1 c hl) rfl rfl rfl rfl (zg _ _) rfl rfl rfl) rfl ?_) | (refine zo 128 ?_; refine zb rfl (zS (K := []) (Rs' := [_]) [0] (by decide) rfl (mG 14 (zq most c).2 h1) (.cons rfl rfl rfl (zF _) (zF _) .nil) (.cons (.ptr rfl) (.cons (.same rfl) .nil)) (fun q hq => by cases hq) rfl) rfl ?_) | (refine zp 128 rfl ?_; refine zY rfl (by kernel_rfl) rfl (zS (K := []) (Rs' := [_]) [0] (by decide) rfl (mG 14 (zq most c).2 h1) (.cons rfl rfl rfl (zF _) (zF _) .nil) (.cons (.ptr rfl) (.cons (.same rfl) .nil)) (fun q hq => by cases hq) rfl) rfl ?_) | refine zC ?_ | refine zD _ rfl (by kernel_rfl) ?_ | refine zW rfl ?_ | refine zX rfl ?_ | refine zE ?_ | with_reducible refine zM ?_ | refine zJ ?_ | refine zK ?_ | (with_reducible first | refine zO ?_ | refine zP ?_ | refine zG ?_ | refine zI ?_ | refine zH ?_) | refine zQ ?_
  refine zm rfl (fun b0 => ?_) (fun b0 => ?_)
  · skip
    have D : y6 most c = ((zq most c).1 ++ [(xn (beC 14 (zq most c).2)).1], (xn (beC 14 (zq most c).2)).2) := by rw [y6, b0]; rfl
    repeat' first | (refine isA ?_; refine zb rfl (yh rfl rfl rfl rfl rfl) rfl ?_) | refine zN ?_ | refine zA ?_ | refine zR [] ?_ | (refine isA ?_; refine zd rfl ?_) | (refine isL ?_; refine zV rfl (by kernel_rfl) rfl rfl ?_) | (refine zc rfl ?_; refine zU rfl (by kernel_rfl) rfl rfl ?_) | (refine zo 155 ?_; refine zb rfl (zS (K := []) (Rs' := [_]) [0] (by decide) rfl (mS (beC 14 (zq most c).2) h2) (.cons rfl rfl rfl (zF _) (zF _) .nil) (.cons (.ptr rfl) .nil) (fun q hq => by cases hq) rfl) rfl ?_) | (refine zp 155 rfl ?_; refine zY rfl (by kernel_rfl) rfl (zS (K := []) (Rs' := [_]) [0] (by decide) rfl (mS (beC 14 (zq most c).2) h2) (.cons rfl rfl rfl (zF _) (zF _) .nil) (.cons (.ptr rfl) .nil) (fun q hq => by cases hq) rfl) rfl ?_) | (refine v6 ?_; refine zb rfl (xJ (t := rwT) (xs := (zq most c).1) (ys := [(xn (beC 14 (zq most c).2)).1]) rfl rfl rfl rfl (.lst _ _) (by simp; omega) rfl) rfl ?_) | (refine vz rfl ?_; refine zY rfl (by kernel_rfl) rfl (xJ (t := rwT) (xs := (zq most c).1) (ys := [(xn (beC 14 (zq most c).2)).1]) rfl rfl rfl rfl (.lst _ _) (by simp; omega) rfl) rfl ?_) | exact (by rw [D]; exact vM 1 [0, 2] xm (by decide) rfl (z8 rfl rfl) (.cons rfl rfl rfl rfl (zf (zF _)) (.cons rfl rfl rfl rfl (zf (zg _ _)) .nil))) | refine zC ?_ | refine zD _ rfl (by kernel_rfl) ?_ | refine zW rfl ?_ | refine zX rfl ?_ | refine zE ?_ | with_reducible refine zM ?_ | refine zJ ?_ | refine zK ?_ | (with_reducible first | refine zO ?_ | refine zP ?_ | refine zG ?_ | refine zI ?_ | refine zH ?_) | refine zQ ?_
  · skip
    have D : y6 most c = ((zq most c).1, beC 14 (zq most c).2) := by rw [y6, b0]; rfl
    repeat' first | refine zN ?_ | refine zA ?_ | refine zR [] ?_ | (refine isA ?_; refine zd rfl ?_) | (refine isL ?_; refine zV rfl (by kernel_rfl) rfl rfl ?_) | (refine zc rfl ?_; refine zU rfl (by kernel_rfl) rfl rfl ?_) | exact (by rw [D]; exact vM 1 [0, 1] xm (by decide) rfl (z8 rfl rfl) (.cons rfl rfl rfl rfl (zf (zF _)) (.cons rfl rfl rfl rfl (zf (zg _ _)) .nil))) | refine zC ?_ | refine zD _ rfl (by kernel_rfl) ?_ | refine zW rfl ?_ | refine zX rfl ?_ | refine zE ?_ | with_reducible refine zM ?_ | refine zJ ?_ | refine zK ?_ | (with_reducible first | refine zO ?_ | refine zP ?_ | refine zG ?_ | refine zI ?_ | refine zH ?_) | refine zQ ?_
end Go.Proofs.Ytkcicbigpbdjpaa.Ab
namespace Go.Proofs.Ytkcicbigpbdjpaa.Ab
open Go.RowKit
theorem uI {x y : Rw} : xr x y ≤ 0 ↔ x.a < y.a ∨ (x.a = y.a ∧ (x.b < y.b ∨ (x.b = y.b ∧ x.c ≤ y.c))) := by
  unfold xr rwN
  simp only [vP]
  rcases Int.lt_trichotomy x.a y.a with h | h | h
  · rw [decide_eq_true h]; simp only [cond_true]; constructor
    · intro _; exact Or.inl h
    · intro _; omega
  · rw [decide_eq_false (show ¬ x.a < y.a by omega), decide_eq_false (show ¬ y.a < x.a by omega)]
    simp only [cond_false]
    rcases Int.lt_trichotomy x.b y.b with k | k | k
    · rw [decide_eq_true k]; simp only [cond_true]; omega
    · rw [decide_eq_false (show ¬ x.b < y.b by omega), decide_eq_false (show ¬ y.b < x.b by omega)]
      simp only [cond_false]
      rcases Int.lt_trichotomy x.c y.c with m | m | m
      · rw [decide_eq_true m]; simp only [cond_true]; omega
      · rw [decide_eq_false (show ¬ x.c < y.c by omega), decide_eq_false (show ¬ y.c < x.c by omega)]
        simp only [cond_false]; omega
      · rw [decide_eq_false (show ¬ x.c < y.c by omega), decide_eq_true m]
        simp only [cond_false, cond_true]; omega
    · rw [decide_eq_false (show ¬ x.b < y.b by omega), decide_eq_true k]
      simp only [cond_false, cond_true]; omega
  · rw [decide_eq_false (show ¬ x.a < y.a by omega), decide_eq_true h]
    simp only [cond_false, cond_true]; omega
def leW (x y : Rw) : Prop := xr x y ≤ 0
theorem vH {x y z : Rw} (h : leW x y) (k : leW y z) : leW x z := uI.2 (by have := uI.1 h; have := uI.1 k; omega)
theorem vI (x y : Rw) : leW x y ∨ leW y x := by
  rcases Int.lt_or_le 0 (xr x y) with h | h
  · right
    have : ¬ xr x y ≤ 0 := by omega
    rw [uI] at this
    exact uI.2 (by omega)
  · exact Or.inl h
theorem uz {x y : Rw} (h : ¬ leW x y) : leW y x := (vI x y).resolve_left h
def Srt (xs : List Rw) : Prop := xs.Pairwise leW
def xy (x : Rw) : List Rw → List Rw
  | [] => [x]
  | y :: ys => cond (decide (xr y x ≤ 0)) (y :: xy x ys) (x :: y :: ys)
def mi (xs : List Rw) : List Rw := xs.foldl (fun o x => xy x o) []
theorem yq (x : Rw) : ∀ ys : List Rw, (xy x ys).Perm (x :: ys)
  | [] => .refl _
  | y :: ys => by
    rw [xy]
    cases decide (xr y x ≤ 0) with
    | true => exact ((yq x ys).cons y).trans (.swap _ _ _)
    | false => exact .refl _
theorem wy (x : Rw) : ∀ {ys : List Rw}, Srt ys → Srt (xy x ys)
  | [], _ => List.pairwise_singleton _ _
  | y :: ys, h => by
    have h' := List.pairwise_cons.1 h
    rw [xy]
    cases hd : decide (xr y x ≤ 0) with
    | true =>
      refine List.pairwise_cons.2 ⟨fun z hz => ?_, wy x h'.2⟩
      rcases List.mem_cons.1 ((yq x ys).mem_iff.1 hz) with rfl | hz
      · exact (show xr y _ ≤ 0 from of_decide_eq_true hd)
      · exact h'.1 z hz
    | false =>
      have hle : leW x y := uz (show ¬ xr y x ≤ 0 from of_decide_eq_false hd)
      refine List.pairwise_cons.2 ⟨fun z hz => ?_, h⟩
      rcases List.mem_cons.1 hz with rfl | hz
      · exact hle
      · exact vH hle (h'.1 z hz)
theorem xz : ∀ (xs o : List Rw), Srt o → Srt (xs.foldl (fun o x => xy x o) o) ∧ (xs.foldl (fun o x => xy x o) o).Perm (o ++ xs)
  | [], o, h => ⟨h, by simp⟩
  | x :: xs, o, h => by
    obtain ⟨q1, q2⟩ := xz xs (xy x o) (wy x h)
    refine ⟨q1, q2.trans ?_⟩
    refine ((yq x o).append_right xs).trans ?_
    exact List.perm_middle.symm
end Go.Proofs.Ytkcicbigpbdjpaa.Ab
namespace Go.Proofs.Ytkcicbigpbdjpaa.Ab
open Go.RowKit
theorem ve {H : List Reg} {h k off m : Nat} {xs : List Rw} (hH : H[h]? = some (rwR xs)) (hk : k ≤ xs.length) (ho : off = k) (hm : m = xs.length - k) : Src H (.sl h off m) (xs.drop k).length (rwT.flat (xs.drop k)) := by
  subst ho hm
  have q := Src.sl (H := H) (h := h) (off := off) (m := xs.length - off) hH (Nat.zero_le _) (by show (off + (xs.length - off)) * 3 ≤ (rwT.flat xs).length; rw [zr]; show _ ≤ xs.length * 3; omega)
  have e : ((rwR xs).cells.drop (off * (rwR xs).esz)).take ((xs.length - off) * (rwR xs).esz) = rwT.flat (xs.drop off) := vN xs off
  rw [e] at q
  rw [List.length_drop]
  exact q
theorem xQ {H : List Reg} {h k off m : Nat} {xs : List Rw} (hH : H[h]? = some (rwR xs)) (hk : k ≤ xs.length) (ho : off = 0) (hm : m = k) : Src H (.sl h off m) (xs.take k).length (rwT.flat (xs.take k)) := by
  subst ho hm
  have q := Src.sl (H := H) (h := h) (off := 0) (m := m) hH (Nat.zero_le _) (by show (0 + m) * 3 ≤ (rwT.flat xs).length; rw [zr]; show _ ≤ xs.length * 3; omega)
  have e : ((rwR xs).cells.drop (0 * (rwR xs).esz)).take (m * (rwR xs).esz) = rwT.flat (xs.take m) := w8 xs m
  rw [e] at q
  rw [List.length_take, Nat.min_eq_left hk]
  exact q
theorem wS {H : List Reg} {h : Nat} {xs : List Rw} (hH : H[h]? = some (rwR xs)) : Src H (.sl h 0 xs.length) xs.length (rwT.flat xs) := by
  have q := xQ (k := xs.length) hH (Nat.le_refl _) rfl rfl
  rw [List.take_length] at q
  exact q
end Go.Proofs.Ytkcicbigpbdjpaa.Ab
namespace Go.Proofs.Ytkcicbigpbdjpaa.Ab
open Go.RowKit
theorem kh {P : Program} {f : FuncId} {cargs : List V} {c c' : Cur} {R : Reg} {r r' : V} {al : Bool} (h : zi P f cargs [yO c] r [yO c', R] al) (hp : Pur true [uH (yO c'), R] r r') : zi P f cargs [yO c] r' [yO c'] true :=
  zi.frozenK (Rs := [yO c]) (Rs' := [yO c']) (K := [R]) h rfl (fun q hq => by simp at hq; subst hq; exact zF _) (fun i q q' h1 h2 h3 => by
    cases i with
    | zero => simp at h2; subst h2; rfl
    | succ i => simp at h2) hp
theorem lD (most : Int) (m0 : 0 ≤ most) (m1 : most ≤ 1000) (c : Cur) (hl : c.code.length ≤ 1000000000) : zi Go.Proofs.Try.prog 129 [.ptr 0 0, I most] [yO c] (rwL (zq most c).1) [yO (zq most c).2] true :=
  kh (sT most m0 m1 c hl) (sj rfl)
theorem lG (most : Int) (m0 : 0 ≤ most) (m1 : most ≤ 1000) (c : Cur) (hl : c.code.length ≤ 1000000000) : zi Go.Proofs.Try.prog 105 [.ptr 0 0, I most] [yO c] (rwL (y6 most c).1) [yO (y6 most c).2] true :=
  kh (kp most m0 m1 c hl) (sj rfl)
abbrev rnR (rs : List Rn) : Reg := xD rnT 39 rs
def turnR (p : List Rn × Cur) : List Rn × Cur :=
  cond (decide (0 < ((mi (zq 4 p.2).1).length : Int))) (p.1 ++ [mi (zq 4 p.2).1], (zq 4 p.2).2)
    (cond (decide (beV 20 (zq 4 p.2).2 = 0)) (p.1 ++ [mi (zq 4 p.2).1], beC 20 (zq 4 p.2).2) (p.1, beC 20 (zq 4 p.2).2))
def pO (p : List Rn × Cur) : Nat → List Rn × Cur
  | 0 => p
  | i + 1 => turnR (pO p i)
def lastR (p : List Rn × Cur) : List Rn × Cur :=
  cond (decide (0 < (p.1.length : Int))) (cond (decide (beV 12 p.2 = 0)) (p.1.set 0 (zq 4 (beC 12 p.2)).1, (zq 4 (beC 12 p.2)).2) (p.1, beC 12 p.2)) p
def runsD (c : Cur) : List Rn × Cur := lastR (pO ([], beC 5 c) (beV 5 c).toNat)
structure Small (k : Nat) (rs : List Rn) : Prop where
  len : rs.length ≤ k
  row : ∀ x ∈ rs, x.length ≤ 4
theorem Small.push {k : Nat} {rs : List Rn} {x : Rn} (h : Small k rs) (hx : x.length ≤ 4) : Small (k + 1) (rs ++ [x]) := ⟨by have := h.len; simp; omega, fun y hy => by
  rcases List.mem_append.1 hy with hy | hy
  · exact h.row y hy
  · simp at hy; subst hy; exact hx⟩
theorem Small.tot {k : Nat} : ∀ {rs : List Rn}, Small k rs → Ab.tot rs ≤ 4 * rs.length
  | [], _ => Nat.le_refl _
  | x :: xs, h => by
    have h1 := h.row x (List.mem_cons_self ..)
    have h2 := Small.tot (k := k) (rs := xs) ⟨by have := h.len; simp at this; omega, fun y hy => h.row y (List.mem_cons_of_mem _ hy)⟩
    simp only [Ab.tot, List.map_cons, List.sum_cons, List.length_cons] at h2 ⊢
    omega
end Go.Proofs.Ytkcicbigpbdjpaa.Ab
namespace Go.Proofs.Ytkcicbigpbdjpaa.Ab
open Go.RowKit
theorem sO {P : Program} {f : FuncId} {fn : Func} {c : Code} {cargs : List V} {hs : List Reg} {r : V} {hs' : List Reg} {al : Bool} (t t2 : Tmp) (ty ty2 : TypeId) {n n2 : Nat} [ht : Ag P ty n] [ht2 : Ag P ty2 n2]
    (hf : P.funcs[f]? = some fn) (hb : fn.body = some c) (hr : fn.results = #[.cell t ty, .cell t2 ty2] := by rfl)
    (h : AW P c (fun e S => (e = .ret ∨ e = .normal) ∧ ∃ v v2, CellIs S.tmps S.H t n v ∧ CellIs S.tmps S.H t2 n2 v2 ∧ Out al r hs' (.tup [v, v2]) S) ⟨cargs ++ List.replicate (fn.ntmps - cargs.length) (.k undef), hs, hs.length⟩) : zi P f cargs hs r hs' al := by
  intro A φ w xs hok hrel hsz
  refine calls_of_wp hf hb ?_
  have hI : Inv ⟨A, w, φ, hs⟩ φ ⟨cargs ++ List.replicate (fn.ntmps - cargs.length) (.k undef), hs, hs.length⟩ { tmps := xs ++ Array.replicate (fn.ntmps - xs.size) undef, defers := [] } w := by
    refine ⟨hok.len, ⟨A, ⟨hok, fun b hb => Or.inl hb, fun h b hl => Or.inr ⟨h, hl⟩, ⟨rfl, rfl, rfl, Nat.le_refl _, fun _ _ _ => rfl⟩, fun _ _ h => h⟩, ?_⟩, by simp [hsz], rfl⟩
    refine yd (z7 hrel fun i hi => ?_) (zv.2 fun i c hc => ⟨undef, ?_, ?_⟩)
    · simp [Array.getElem?_append, hsz, hi]
    · have hlt := (List.getElem?_eq_some_iff.1 hc).1
      simp only [List.length_replicate] at hlt
      simp only [Array.getElem?_append, hsz, Nat.not_lt.2 (Nat.le_add_right _ _), if_false, Nat.add_sub_cancel_left]
      simp [hlt]
    · have := List.mem_of_getElem? hc
      obtain rfl := List.eq_of_mem_replicate this
      simp [Rel]
  refine wp_mono (h.out ⟨A, w, φ, hs⟩ φ _ w hI) ?_
  rintro e a' w' ⟨S', φ1, hI', he, v, v2, hc, hc2, ho⟩
  obtain ⟨hm, ⟨A1, hA1, hr1⟩, hs1, hd1⟩ := hI'
  have rd : ∀ {t n v}, CellIs S'.tmps S'.H t n v → ∃ (b off : Nat) (xs' : Array Value), a'.tmps.getD t undef = .pointer (some ⟨b, off, none⟩) ∧ (loadCells ⟨b, off, none⟩ n).run P w' = .ok xs' w' ∧ Rel A1 w' φ1 v (.agg xs') := by
    intro t n v hc
    obtain ⟨⟨h, off, r0, c1, c2, c3, c4, c5⟩⟩ := hc
    obtain ⟨y, y1, y2⟩ := zz hr1 c1
    rw [Rel] at y2
    obtain ⟨hd, b, e1, e2, e3⟩ := y2
    obtain ⟨xs', h2, h3, h4⟩ := yM (P := P) (ya (yS (yu hA1.ok e1 c2 c3 e2) off) n)
    have hl : ((r0.cells.drop off).take n).length = n := by simp; omega
    rw [hl] at h2
    refine ⟨b, off, xs', ?_, h2, ?_⟩
    · rw [Array.getD_eq_getD_getElem?, show a'.tmps[t]? = some y from y1, e3]
      rfl
    · subst c5; rw [Rel]; exact ⟨xs', rfl, h3, h4⟩
  obtain ⟨b, off, x1, g1, h1, r1⟩ := rd hc
  obtain ⟨b2, off2, x2, g2, h2, r2⟩ := rd hc2
  have hrun : (results fn a'.tmps).run P w' = .ok (.tuple #[Value.agg x1, Value.agg x2]) w' := by
    unfold results
    rw [hr]
    simp only [List.mapM_toArray, List.mapM_cons, List.mapM_nil, g1, g2, Sem.run_bind, Sem.run_map, Sem.run_pure, Result.andThen_ok, asAddr, loadVar, ht.a, ht.s, ht2.a, ht2.s, h1, h2, if_true]
    rfl
  have hxt : Rel A1 w' φ1 (.tup [v, v2]) (.tuple #[Value.agg x1, Value.agg x2]) := by
    rw [Rel]
    refine ⟨_, rfl, by simp, ?_⟩
    rw [zZ]
    refine ⟨⟨.agg x1, rfl, r1⟩, ?_⟩
    rw [zZ]
    refine ⟨⟨.agg x2, rfl, r2⟩, ?_⟩
    rw [zZ]
    trivial
  obtain ⟨φ', A', k1, k2, k3, k4, k5⟩ := ho ⟨A, w, φ, hs⟩ A1 φ1 w' _ hm hA1 hxt
  have key : a'.defers = [] ∧ ∃ v, (results fn a'.tmps).run P w' = .ok v w' ∧ ∃ x φ' A', (Ending.returned v) = .returned x ∧ HeapOk A' w' φ' hs' ∧ Rel A' w' φ' r x ∧ (∀ b, A' b → (al = true ∧ A b) ∨ w.heap.size ≤ b) ∧
      (∀ h b, za φ' hs' h b → w.heap.size ≤ b ∨ ∃ h0, za φ hs h0 b) ∧ Framed ⟨A, w, φ, hs⟩ w' ∧ (∀ (h : Nat) (hd : Hd), φ[h]? = some hd → φ'[h]? = some hd) :=
    ⟨hd1, _, hrun, _, φ', A', rfl, k1, k2, k3, k4, hA1.frame, k5⟩
  rcases he with rfl | rfl
  · exact key
  · exact key
theorem fin2C {l : List V} {H : List Reg} {t t2 : Tmp} {n n2 : Nat} {v v2 r : V} (hv : CellIs l H t n v) (hv2 : CellIs l H t2 n2 v2) (hp : Pur true H (.tup [v, v2]) r) : (Exit.ret = .ret ∨ Exit.ret = .normal) ∧ ∃ v v2, CellIs l H t n v ∧ CellIs l H t2 n2 v2 ∧ Out true r [] (.tup [v, v2]) ⟨l, H, 0⟩ := ⟨Or.inl rfl, v, v2, hv, hv2, ut rfl hp⟩
end Go.Proofs.Ytkcicbigpbdjpaa.Ab
namespace Go.Proofs.Ytkcicbigpbdjpaa.Ab
open Go.RowKit
def uj (P : Program) (o : Oper) (ρ : Operand → V) (H : List Reg) (post : V → List Reg → Prop) : Prop :=
  ∀ S : St, S.H = H → (∀ x ∈ o.op.operands, S.ev x = ρ x) → ∀ C φ a w, Inv C φ S a w → ∀ (next : Act → World → Prop) (Q : Exit → Act → World → Prop),
    (∀ v H' x w' φ', post v H' → Inv C φ' (S.put o.dst v H') (a.put o.dst x) w' → next (a.put o.dst x) w') → o.wp P a w next Q
theorem uj.of {P : Program} {o : Oper} {ρ : Operand → V} {H H' : List Reg} {v : V} (h : zh P o ρ H v H') : uj P o ρ H (fun v1 H1 => v1 = v ∧ H1 = H') :=
  fun S hS hρ C φ a w hI next Q hn => h S hS hρ C φ a w hI next Q fun x w' φ' hI' => hn v H' x w' φ' ⟨rfl, rfl⟩ hI'
theorem uj.congr {P : Program} {o : Oper} {ρ ρ' : Operand → V} {H : List Reg} {post : V → List Reg → Prop} (h : uj P o ρ H post) (hρ : ∀ x ∈ o.op.operands, ρ' x = ρ x) : uj P o ρ' H post :=
  fun S hS hx => h S hS fun x hm => (hx x hm).trans (hρ x hm)
section
variable {P : Program} {ops : Array Oper} {md : Region.Mode} {s : Nat} {G : List Reg → Prop} {Q : Exit → St → Prop}
def vS (P : Program) (ops : Array Oper) (b : Prop) (G : List Reg → Prop) (i : Nat) (K : St → Prop) (S : St) : Prop :=
  match ops[i]? with
  | none => K S
  | some o => (zw ops S o = some true ∧ ∃ post : V → List Reg → Prop, uj P o S.ev S.H post ∧ (∀ v H', post v H' → b → G H') ∧ ∀ v H', post v H' → K (S.put o.dst v H')) ∨ (zw ops S o = some false ∧ K (S.put o.dst (.k undef) S.H))
def wP (P : Program) (md : Region.Mode) (ops : Array Oper) (s : Nat) (G : List Reg → Prop) (Q : Exit → St → Prop) : Nat → Array Bool → St → Prop
  | 0, listed, S => Region.ready md ops listed = [] ∧ Q .normal S
  | n + 1, listed, S => (Region.ready md ops listed = [] → Q .normal S) ∧ ∀ i ∈ Region.ready md ops listed, vS P ops ((listed.setIfInBounds i true).getD s true = false) G i (wP P md ops s G Q n (listed.setIfInBounds i true)) S
theorem vS.mono {b : Prop} {i : Nat} {K K' : St → Prop} {S : St} (hk : ∀ S, K S → K' S) (h : vS P ops b G i K S) : vS P ops b G i K' S := by
  unfold vS at *
  split at h
  · exact hk _ h
  · rcases h with ⟨h1, post, h2, h3, h4⟩ | ⟨h1, h2⟩
    · exact Or.inl ⟨h1, post, h2, h3, fun v H' hp => hk _ (h4 v H' hp)⟩
    · exact Or.inr ⟨h1, hk _ h2⟩
theorem yw : ∀ (n : Nat) (listed : Array Bool) (S : St), wP P md ops s G Q n listed S → ∀ (C : Cx) (φ : List Hd) (a : Act) (w : World), Inv C φ S a w → wpAny P md ops (me C Q) n listed a w
  | 0, listed, S, h, C, φ, a, w, hI => ⟨h.1, S, φ, hI, h.2⟩
  | n + 1, listed, S, h, C, φ, a, w, hI => by
    refine ⟨fun h0 => ⟨S, φ, hI, h.1 h0⟩, fun i hi => ?_⟩
    have h1 := h.2 i hi
    unfold vS at h1
    unfold wpOp
    cases ho : ops[i]? with
    | none => rw [ho] at h1; exact yw n _ S h1 C φ a w hI
    | some o =>
      rw [ho] at h1
      simp only at h1 ⊢
      rcases h1 with ⟨hw, post, hs, _, hk⟩ | ⟨hw, hk⟩
      · rw [if_pos (yL hI hw)]
        exact Or.inl (hs S rfl (fun _ _ => rfl) C φ a w hI _ _ fun v H' x w' φ' hp hI' => yw n _ _ (hk v H' hp) C φ' _ _ hI')
      · rw [if_neg (by rw [yL hI hw]; simp)]
        exact yw n _ _ hk C φ _ _ (w7 C φ a w hI o.dst)
theorem ye {listed : Array Bool} {i j : Nat} (h : i ≠ j) : (listed.setIfInBounds i true).getD j true = listed.getD j true := getD_set_ne true h
theorem vW {B : Prop} {i : Nat} {oi : Oper} {v : V} (hi : ops[i]? = some oi) (hne : i ≠ s) (hed : B → ∃ os, ops[s]? = some os ∧ ∃ e ∈ os.after, Region.binds md e = true ∧ e.on = i) :
    ∀ (n : Nat) (listed : Array Bool) (S : St), (listed.getD s true = false → G S.H) → (B → listed.getD s true = false) →
      (∀ j oj, ops[j]? = some oj → j ≠ i → listed.getD j true = false → (∀ e ∈ oj.after, Region.binds md e = true → e.on ≠ i) → oi.apart ops oj = true) →
      i ∈ Region.ready md ops listed → xe P ops (fun H => B → G H) oi v S →
      wP P md ops s G Q n (listed.setIfInBounds i true) (S.put oi.dst v S.H) → wP P md ops s G Q (n + 1) listed S := by
  intro n
  induction n with
  | zero =>
    intro listed S hG hB _ hr hy H
    refine ⟨fun h => (by rw [h] at hr; cases hr), fun j hj => ?_⟩
    by_cases hji : j = i
    · subst hji
      unfold vS
      rw [hi]
      rcases hy with ⟨h1, h2⟩ | ⟨h1, rfl⟩
      · exact Or.inl ⟨h1, _, .of (h2 _ (fun b => hG (hB b))), fun v1 H1 hp hb => by obtain ⟨_, rfl⟩ := hp; exact hG (by rw [ye hne] at hb; exact hb), fun v1 H1 hp => by obtain ⟨rfl, rfl⟩ := hp; exact H⟩
      · exact Or.inr ⟨h1, H⟩
    · have := ready_mono hj hji
      rw [H.1] at this
      cases this
  | succ n ih =>
    intro listed S hG hB hfree hr hy H
    refine ⟨fun h => (by rw [h] at hr; cases hr), fun j hj => ?_⟩
    by_cases hji : j = i
    · subst hji
      unfold vS
      rw [hi]
      rcases hy with ⟨h1, h2⟩ | ⟨h1, rfl⟩
      · exact Or.inl ⟨h1, _, .of (h2 _ (fun b => hG (hB b))), fun v1 H1 hp hb => by obtain ⟨_, rfl⟩ := hp; exact hG (by rw [ye hne] at hb; exact hb), fun v1 H1 hp => by obtain ⟨rfl, rfl⟩ := hp; exact H⟩
      · exact Or.inr ⟨h1, H⟩
    · have h1 := H.2 j (ready_mono hj hji)
      obtain ⟨hjun, oj, hoj, hall⟩ := mem_ready.1 hj
      have hiun := (mem_ready.1 hr).1
      have hnot : ∀ e ∈ oj.after, Region.binds md e = true → e.on ≠ i := fun e he hb heq => by
        have h1 := hall e he hb
        rw [heq] at h1
        rcases Nat.lt_or_ge i listed.size with h' | h'
        · simp [h'] at hiun h1; rw [hiun] at h1; cases h1
        · simp [Array.getElem?_eq_none h'] at h1
      have hjs : B → j ≠ s := fun b hjs => by
        subst hjs
        obtain ⟨os, h3, e, h4, h5, h6⟩ := hed b
        rw [hoj] at h3
        cases h3
        exact hnot e h4 h5 h6
      have hfree' : ∀ k ok, ops[k]? = some ok → k ≠ i → (listed.setIfInBounds j true).getD k true = false →
          (∀ e ∈ ok.after, Region.binds md e = true → e.on ≠ i) → oi.apart ops ok = true := fun k ok hk hki hun hno => by
        refine hfree k ok hk hki ?_ hno
        by_cases hjk : j = k
        · subst hjk; exact hjun
        · rw [getD_set_ne true hjk] at hun; exact hun
      have hb2 : ((listed.setIfInBounds i true).setIfInBounds j true).getD s true = (listed.setIfInBounds j true).getD s true := by
        rw [Array.setIfInBounds_comm _ _ (Ne.symm hji), ye hne]
      obtain ⟨p1, p2, p3⟩ := Oper.apart_spec (hfree j oj hoj hji hjun hnot)
      have key : ∀ (u : V) (H' : List Reg), ((listed.setIfInBounds j true).getD s true = false → G H') → wP P md ops s G Q n ((listed.setIfInBounds j true).setIfInBounds i true) ((S.put oj.dst u H').put oi.dst v H') → wP P md ops s G Q (n + 1) (listed.setIfInBounds j true) (S.put oj.dst u H') := fun u H' hGH hk => by
        refine ih (listed.setIfInBounds j true) (S.put oj.dst u H') (by rw [y4]; exact hGH) (fun b => by rw [ye (hjs b)]; exact hB b) hfree' (ready_mono hr (Ne.symm hji)) (hy.keep p3) ?_
        rw [y4]
        exact hk
      unfold vS at h1 ⊢
      rw [hoj] at h1 ⊢
      simp only at h1 ⊢
      rw [xT p1, y4] at h1
      rcases h1 with ⟨hw, post, hs, hH, hk⟩ | ⟨hw, hk⟩
      · rw [hb2] at hH
        refine Or.inl ⟨hw, post, hs.congr (fun x hx => (yk p1 x hx).symm), hH, fun u H' hp => key u H' (hH u H' hp) ?_⟩
        rw [Array.setIfInBounds_comm _ _ hji, ← xE v u S.H H' p2]
        exact hk u H' hp
      · refine Or.inr ⟨hw, key (.k undef) S.H (fun hb => ?_) ?_⟩
        · by_cases hjs' : j = s
          · subst hjs'
            rcases Nat.lt_or_ge j listed.size with h' | h'
            · simp [Array.getD, h'] at hb
            · rw [Array.getD_eq_getD_getElem?, Array.getElem?_eq_none (by simpa using h')] at hb; cases hb
          · rw [ye hjs'] at hb
            exact hG hb
        · rw [Array.setIfInBounds_comm _ _ hji, ← xE v (.k undef) S.H S.H p2]
          exact hk
end
section
variable {P : Program} {T : Tab} {ops : Array Oper} {s : Nat} {G : List Reg → Prop} {Q : Exit → St → Prop} {l l' : List V} {H H' K : List Reg} {m : Nat} {o : Oper} {d : List Nat} {n : Nat}
structure APerS (P : Program) (ops : Array Oper) (s : Nat) (G : List Reg → Prop) (d : List Nat) (n : Nat) (Q : Exit → St → Prop) (S : St) : Prop where
  out : wP P .any ops s G Q n (mkL ops.size d) S
theorem vj {id : Nat} {S : St} (s : Nat) (G : List Reg → Prop) (n : Nat) (hn : ops.size = n) [hT : TabC P T] (h : APerS P ops s G [] n Q S) : AW P (.region id ops true) Q S := by
  subst hn
  exact ⟨fun C φ a w hI => wp_region_any hT.wide (yw _ _ _ h.out C φ a _ (tv hI))⟩
theorem wV {S : St} (hr : (Region.ready .any ops (mkL ops.size d) == []) = true) (h : Q .normal S) : APerS P ops s G d 0 Q S := ⟨⟨by simpa using hr, h⟩⟩
def nz (ops : Array Oper) (d : List Nat) (s i : Nat) : Bool := !((mkL ops.size d).getD s true) && (match ops[s]? with | some os => os.after.any fun e => Region.binds .any e && e.on == i | none => false) && !(i == s)
def nO (s i : Nat) : Bool := !(i == s)
theorem sQ {i : Nat} (h : nz ops d s i = true) : (mkL ops.size d).getD s true = false ∧ (∃ os, ops[s]? = some os ∧ ∃ e ∈ os.after, Region.binds .any e = true ∧ e.on = i) ∧ i ≠ s := by
  simp only [nz, Bool.and_eq_true, Bool.not_eq_true'] at h
  obtain ⟨⟨h1, h2⟩, h3⟩ := h
  refine ⟨h1, ?_, by simpa using h3⟩
  cases ho : ops[s]? with
  | none => rw [ho] at h2; cases h2
  | some os =>
    rw [ho] at h2
    simp only [Array.any_eq_true'] at h2
    obtain ⟨e, h4, h5⟩ := h2
    simp only [Bool.and_eq_true, beq_iff_eq] at h5
    exact ⟨os, rfl, e, h4, h5.1, h5.2⟩
theorem wJ (i : Nat) {v : V} (hG : G H) (he : nz ops d s i = true) (ho : ops[i]? = some o) (hc : vv ops d i = true) (hw : zw ops ⟨l, H, m⟩ o = some true) (hs : ∀ H, G H → zh P o (St.ev ⟨l, H, m⟩) H v H) (hp : xg l H o.dst v = some (l', K)) (hk : APerS P ops s G (i :: d) n Q ⟨l', K, m⟩) : APerS P ops s G d (n + 1) Q ⟨l, H, m⟩ := by
  simp only [vv, Bool.and_eq_true] at hc
  obtain ⟨e1, e2, e3⟩ := sQ he
  refine ⟨vW (B := True) ho e3 (fun _ => e2) n _ _ (fun _ => hG) (fun _ => e1) (Region.free_spec ho hc.1) (by simpa using hc.2) (Or.inl ⟨hw, fun H1 h1 => hs H1 (h1 trivial)⟩) ?_⟩
  rw [show (⟨l, H, m⟩ : St).put o.dst v (⟨l, H, m⟩ : St).H = ⟨l', K, m⟩ from yI hp m]
  exact hk.out
theorem yg (i : Nat) {v : V} (hG : (mkL ops.size d).getD s true = true ∨ G H) (he : nO s i = true) (ho : ops[i]? = some o) (hc : vv ops d i = true) (hw : zw ops ⟨l, H, m⟩ o = some true) (hs : ∀ H, zh P o (St.ev ⟨l, H, m⟩) H v H) (hp : xg l H o.dst v = some (l', K)) (hk : APerS P ops s G (i :: d) n Q ⟨l', K, m⟩) : APerS P ops s G d (n + 1) Q ⟨l, H, m⟩ := by
  simp only [vv, Bool.and_eq_true] at hc
  refine ⟨vW (B := False) ho (by simpa [nO] using he) (fun h => h.elim) n _ _ (fun hb => hG.resolve_left (by rw [hb]; decide)) (fun h => h.elim) (Region.free_spec ho hc.1) (by simpa using hc.2) (Or.inl ⟨hw, fun H1 h1 => hs H1⟩) ?_⟩
  rw [show (⟨l, H, m⟩ : St).put o.dst v (⟨l, H, m⟩ : St).H = ⟨l', K, m⟩ from yI hp m]
  exact hk.out
theorem yN (i : Nat) {v : V} [hT : TabC P T] (hG : (mkL ops.size d).getD s true = true ∨ G H) (he : nO s i = true) (ho : ops[i]? = some o) (hc : vv ops d i = true) (hw : zw ops ⟨l, H, m⟩ o = some true) (h : ∀ H, wq T l H o.op = some (v, H)) (hp : xg l H o.dst v = some (l', K)) (hk : APerS P ops s G (i :: d) n Q ⟨l', K, m⟩) : APerS P ops s G d (n + 1) Q ⟨l, H, m⟩ :=
  yg i hG he ho hc hw (fun H1 => yx (m := m) hT.ok (h H1)) hp hk
theorem vu (i : Nat) {v : V} (hr : (Region.ready .any ops (mkL ops.size d) == [i]) = true) (ho : ops[i]? = some o) (hw : zw ops ⟨l, H, m⟩ o = some true) (hs : zh P o (St.ev ⟨l, H, m⟩) H v H') (hG : (mkL ops.size (i :: d)).getD s true = true ∨ G H') (hp : xg l H' o.dst v = some (l', K)) (hk : APerS P ops s G (i :: d) n Q ⟨l', K, m⟩) : APerS P ops s G d (n + 1) Q ⟨l, H, m⟩ := by
  have hr' : Region.ready .any ops (mkL ops.size d) = [i] := by simpa using hr
  refine ⟨⟨fun h0 => (by rw [h0] at hr'; cases hr'), fun x hx => ?_⟩⟩
  rw [hr'] at hx
  simp at hx
  subst hx
  unfold vS
  rw [ho]
  refine Or.inl ⟨hw, _, .of hs, fun v1 H1 hq hb => ?_, fun v1 H1 hq => ?_⟩
  · obtain ⟨_, rfl⟩ := hq
    refine hG.resolve_left (fun ht => ?_)
    have hb' : (mkL ops.size (x :: d)).getD s true = false := hb
    rw [ht] at hb'
    cases hb'
  · obtain ⟨rfl, rfl⟩ := hq
    rw [yI hp m]
    exact hk.out
theorem wW (i : Nat) {v : V} [hT : TabC P T] (hr : (Region.ready .any ops (mkL ops.size d) == [i]) = true) (ho : ops[i]? = some o) (hw : zw ops ⟨l, H, m⟩ o = some true) (h : wq T l H o.op = some (v, H')) (hG : (mkL ops.size (i :: d)).getD s true = true ∨ G H') (hp : xg l H' o.dst v = some (l', K)) (hk : APerS P ops s G (i :: d) n Q ⟨l', K, m⟩) : APerS P ops s G d (n + 1) Q ⟨l, H, m⟩ :=
  vu i hr ho hw (yx hT.ok h) hG hp hk
end
end Go.Proofs.Ytkcicbigpbdjpaa.Ab
namespace Go.Proofs.Ytkcicbigpbdjpaa.Ab
open Go.RowKit
section
variable {P : Program} {md : Region.Mode} {ops : Array Oper} {s : Nat} {G : List Reg → Prop} {Q : Exit → St → Prop}
theorem tJ {i : Nat} {oi : Oper} {v : V} (hi : ops[i]? = some oi) (hne : i ≠ s) (fu : Nat) (hed : Region.reachB md ops i fu s = true) :
    ∀ (n : Nat) (listed : Array Bool) (S : St), G S.H → listed.getD s true = false → yK md ops listed →
      (∀ j oj, ops[j]? = some oj → j ≠ i → listed.getD j true = false → (∀ e ∈ oj.after, Region.binds md e = true → e.on ≠ i) → oi.apart ops oj = true) →
      i ∈ Region.ready md ops listed → xe P ops G oi v S →
      wP P md ops s G Q n (listed.setIfInBounds i true) (S.put oi.dst v S.H) → wP P md ops s G Q (n + 1) listed S := by
  intro n
  induction n with
  | zero =>
    intro listed S hG hB hC _ hr hy H
    refine ⟨fun h => (by rw [h] at hr; cases hr), fun j hj => ?_⟩
    by_cases hji : j = i
    · subst hji
      unfold vS
      rw [hi]
      rcases hy with ⟨h1, h2⟩ | ⟨h1, rfl⟩
      · exact Or.inl ⟨h1, _, .of (h2 _ hG), fun v1 H1 hp hb => by obtain ⟨_, rfl⟩ := hp; exact hG, fun v1 H1 hp => by obtain ⟨rfl, rfl⟩ := hp; exact H⟩
      · exact Or.inr ⟨h1, H⟩
    · have := ready_mono hj hji
      rw [H.1] at this
      cases this
  | succ n ih =>
    intro listed S hG hB hC hfree hr hy H
    refine ⟨fun h => (by rw [h] at hr; cases hr), fun j hj => ?_⟩
    by_cases hji : j = i
    · subst hji
      unfold vS
      rw [hi]
      rcases hy with ⟨h1, h2⟩ | ⟨h1, rfl⟩
      · exact Or.inl ⟨h1, _, .of (h2 _ hG), fun v1 H1 hp hb => by obtain ⟨_, rfl⟩ := hp; exact hG, fun v1 H1 hp => by obtain ⟨rfl, rfl⟩ := hp; exact H⟩
      · exact Or.inr ⟨h1, H⟩
    · have h1 := H.2 j (ready_mono hj hji)
      obtain ⟨hjun, oj, hoj, hall⟩ := mem_ready.1 hj
      have hiun := (mem_ready.1 hr).1
      have hnot : ∀ e ∈ oj.after, Region.binds md e = true → e.on ≠ i := fun e he hb heq => by
        have h1 := hall e he hb
        rw [heq] at h1
        rcases Nat.lt_or_ge i listed.size with h' | h'
        · simp [h'] at hiun h1; rw [hiun] at h1; cases h1
        · simp [Array.getElem?_eq_none h'] at h1
      have hjs : j ≠ s := fun hjs => by
        subst hjs
        exact Region.reach_not_ready hC hed hiun hj
      have hfree' : ∀ k ok, ops[k]? = some ok → k ≠ i → (listed.setIfInBounds j true).getD k true = false →
          (∀ e ∈ ok.after, Region.binds md e = true → e.on ≠ i) → oi.apart ops ok = true := fun k ok hk hki hun hno => by
        refine hfree k ok hk hki ?_ hno
        by_cases hjk : j = k
        · subst hjk; exact hjun
        · rw [getD_set_ne true hjk] at hun; exact hun
      have hb2 : ((listed.setIfInBounds i true).setIfInBounds j true).getD s true = (listed.setIfInBounds j true).getD s true := by
        rw [Array.setIfInBounds_comm _ _ (Ne.symm hji), ye hne]
      have hBj : (listed.setIfInBounds j true).getD s true = false := by rw [ye hjs]; exact hB
      obtain ⟨p1, p2, p3⟩ := Oper.apart_spec (hfree j oj hoj hji hjun hnot)
      have key : ∀ (u : V) (H' : List Reg), G H' → wP P md ops s G Q n ((listed.setIfInBounds j true).setIfInBounds i true) ((S.put oj.dst u H').put oi.dst v H') → wP P md ops s G Q (n + 1) (listed.setIfInBounds j true) (S.put oj.dst u H') := fun u H' hGH hk => by
        refine ih (listed.setIfInBounds j true) (S.put oj.dst u H') (by rw [y4]; exact hGH) hBj (hC.set hj) hfree' (ready_mono hr (Ne.symm hji)) (hy.keep p3) ?_
        rw [y4]
        exact hk
      unfold vS at h1 ⊢
      rw [hoj] at h1 ⊢
      simp only at h1 ⊢
      rw [xT p1, y4] at h1
      rcases h1 with ⟨hw, post, hs, hH, hk⟩ | ⟨hw, hk⟩
      · rw [hb2] at hH
        refine Or.inl ⟨hw, post, hs.congr (fun x hx => (yk p1 x hx).symm), hH, fun u H' hp => key u H' (hH u H' hp hBj) ?_⟩
        rw [Array.setIfInBounds_comm _ _ hji, ← xE v u S.H H' p2]
        exact hk u H' hp
      · refine Or.inr ⟨hw, key (.k undef) S.H hG ?_⟩
        rw [Array.setIfInBounds_comm _ _ hji, ← xE v (.k undef) S.H S.H p2]
        exact hk
end
section
variable {P : Program} {T : Tab} {ops : Array Oper} {s : Nat} {G : List Reg → Prop} {Q : Exit → St → Prop} {l l' : List V} {H H' K : List Reg} {m : Nat} {o : Oper} {d : List Nat} {n : Nat}
def kO (ops : Array Oper) (d : List Nat) (s i : Nat) : Bool := !((mkL ops.size d).getD s true) && Region.reachB .any ops i ops.size s && Region.closedB .any ops (mkL ops.size d) && !(i == s)
theorem nB (i : Nat) {v : V} (hG : G H) (he : kO ops d s i = true) (ho : ops[i]? = some o) (hc : vv ops d i = true) (hw : zw ops ⟨l, H, m⟩ o = some true) (hs : ∀ H, G H → zh P o (St.ev ⟨l, H, m⟩) H v H) (hp : xg l H o.dst v = some (l', K)) (hk : APerS P ops s G (i :: d) n Q ⟨l', K, m⟩) : APerS P ops s G d (n + 1) Q ⟨l, H, m⟩ := by
  simp only [vv, Bool.and_eq_true] at hc
  simp only [kO, Bool.and_eq_true, Bool.not_eq_true'] at he
  obtain ⟨⟨⟨e1, e2⟩, e3⟩, e4⟩ := he
  refine ⟨tJ ho (by simpa using e4) _ e2 n _ _ hG e1 (Region.closedB_spec e3) (Region.free_spec ho hc.1) (by simpa using hc.2) (Or.inl ⟨hw, hs⟩) ?_⟩
  rw [show (⟨l, H, m⟩ : St).put o.dst v (⟨l, H, m⟩ : St).H = ⟨l', K, m⟩ from yI hp m]
  exact hk.out
end
end Go.Proofs.Ytkcicbigpbdjpaa.Ab
namespace Go.Proofs.Ytkcicbigpbdjpaa.Ab.Gq
open Go.RowKit
abbrev bxG (g : Gr) : Reg := ⟨95, 5, gE g, 0⟩
abbrev bxW (r : Rw) : Reg := ⟨71, 3, rwE r, 0⟩
def oneT (p : Gr × Cur) : Gr × Cur := (z6 p.1 (ofR ⟨p.1.k, (zu 3 p.2).1.b, (zu 3 p.2).1.c⟩), (zu 3 p.2).2)
def uv (c : Cur) : Nat → Gr × Cur
  | 0 => (ofR (zu 3 c).1, beC 4 (zu 3 c).2)
  | i + 1 => oneT (uv c i)
theorem vE (c : Cur) : ∀ i, (uv c i).2.code = c.code
  | 0 => by show (beC 4 (zu 3 c).2).code = _; rw [yP, xo]
  | i + 1 => by
    show (zu 3 (uv c i).2).2.code = _
    rw [xo, vE c i]
def x8 (p : Gr × Cur) : Gr × Cur :=
  cond (decide (beV 10 p.2 = 0)) (⟨p.1.k, p.1.n, IntKind.i64.wrap (p.1.s + pkV [-100, 300] (beC 10 p.2)), p.1.lo, p.1.hi⟩, beC 2 (beC 10 p.2))
    (cond (decide (beV 10 p.2 = 1)) (⟨p.1.k, pkV [0, 25] (beC 10 p.2), p.1.s, p.1.lo, p.1.hi⟩, beC 2 (beC 10 p.2))
      (cond (decide (beV 10 p.2 = 2)) (⟨p.1.k, p.1.n, p.1.s, IntKind.i64.wrap (p.1.hi + 1), p.1.hi⟩, beC 10 p.2) (p.1, beC 10 p.2)))
def wK (c : Cur) : Gr × Cur := x8 (uv c (beV 4 (zu 3 c).2).toNat)
theorem pI (p : Gr × Cur) : (x8 p).2.code = p.2.code := by
  unfold x8
  cases decide (beV 10 p.2 = 0) <;> cases decide (beV 10 p.2 = 1) <;> cases decide (beV 10 p.2 = 2) <;> simp [yP]
theorem qx (c : Cur) : (wK c).2.code = c.code := by rw [wK, pI, vE]
theorem tF (c : Cur) (hl : c.code.length ≤ 1000000000) : zi Go.Proofs.Try.prog 153 [.ptr 0 0] [yO c] (.agg (gE (wK c).1)) [yO (wK c).2] true := by
  have k1 : (zu 3 c).2.code.length ≤ 1000000000 := by rw [xo]; exact hl
  obtain ⟨r0, r1⟩ := yv (n := 4) (by decide) (zu 3 c).2
  obtain ⟨k, hk⟩ : ∃ k : Nat, beV 4 (zu 3 c).2 = k := ⟨(beV 4 (zu 3 c).2).toNat, by omega⟩
  have hD : wK c = x8 (uv c k) := by rw [wK, hk]; rfl
  rw [hD]
  have b1 := ud 3 c hl
  have b2 := yt 4 (zu 3 c).2 k1
  rw [hk] at b2
  have hF0 : uv c 0 = (ofR (zu 3 c).1, beC 4 (zu 3 c).2) := rfl
  have hFc := vE c
  have hFs : ∀ i, uv c (i + 1) = oneT (uv c i) := fun _ => rfl
  generalize zu 3 c = p0 at b1 b2 hF0
  generalize uv c = F at hF0 hFc hFs
  refine yn 2 95 Go.Proofs.Try.func153 rfl rfl ?_
  simp only [Go.Proofs.Try.ntmps153, List.length_cons, List.length_nil, Nat.reduceAdd, Nat.reduceSub, List.replicate_succ, List.replicate_zero, List.cons_append, List.nil_append]
  repeat' first | refine zN ?_ | refine zA ?_ | refine zR [] ?_ | (refine isA ?_; refine zd rfl ?_) | (refine isL ?_; refine zV rfl (by kernel_rfl) rfl rfl ?_) | (refine zc rfl ?_; refine zU rfl (by kernel_rfl) rfl rfl ?_) | (refine zo 159 ?_; refine zb rfl (zS (K := []) (Rs' := [_]) [0] (by decide) rfl b1 (.cons rfl rfl rfl (zF _) (zF _) .nil) (.cons (.ptr rfl) (.cons (.same rfl) .nil)) (fun q hq => by cases hq) rfl) rfl ?_) | (refine zp 159 rfl ?_; refine zY rfl (by kernel_rfl) rfl (zS (K := []) (Rs' := [_]) [0] (by decide) rfl b1 (.cons rfl rfl rfl (zF _) (zF _) .nil) (.cons (.ptr rfl) (.cons (.same rfl) .nil)) (fun q hq => by cases hq) rfl) rfl ?_) | (refine zo 103 ?_; refine zb rfl (zT rfl (x4 p0.1) (.cons (.same rfl) .nil) rfl) rfl ?_) | (refine zp 103 rfl ?_; refine zY rfl (by kernel_rfl) rfl (zT rfl (x4 p0.1) (.cons (.same rfl) .nil) rfl) rfl ?_) | (refine zo 143 ?_; refine zb rfl (zS (K := []) (Rs' := [_]) [0] (by decide) rfl b2 (.cons rfl rfl rfl (zF _) (zF _) .nil) (.cons (.ptr rfl) (.cons (.same rfl) .nil)) (fun q hq => by cases hq) rfl) rfl ?_) | (refine zp 143 rfl ?_; refine zY rfl (by kernel_rfl) rfl (zS (K := []) (Rs' := [_]) [0] (by decide) rfl b2 (.cons rfl rfl rfl (zF _) (zF _) .nil) (.cons (.ptr rfl) (.cons (.same rfl) .nil)) (fun q hq => by cases hq) rfl) rfl ?_) | refine zC ?_ | refine zD _ rfl (by kernel_rfl) ?_ | refine zW rfl ?_ | refine zX rfl ?_ | refine zE ?_ | with_reducible refine zM ?_ | refine zJ ?_ | refine zK ?_ | (with_reducible first | refine zO ?_ | refine zP ?_ | refine zG ?_ | refine zI ?_ | refine zH ?_) | refine zQ ?_
  refine yV (α := { j : Nat // j ≤ k }) (fun j => ⟨[.ptr 0 0, .any, .ptr 1 0, .ptr 2 0, I ((k : Int) - j.1), .any, .any, .any, .any, .any, .any, .any, .any, .any, .any, .any, .any, .any, .any, .any, .any, .any, .any, .any, .any, .any, .any, .any, .any, .any, .any, .any, .any, .any, .any, .any, .any, .any, .any, .any, .any, .any, .any, .any, .any, .any, .any, .any], [yO (F j.1).2, bxG ⟨0, 0, 0, 0, 0⟩, bxG (F j.1).1], 1⟩) (fun j => k - j.1) ⟨0, Nat.zero_le _⟩ ?_ ?_
  · simp only [hF0]
    refine qg 1 [0, 1, 2] rfl rfl xm (by decide) (.cons rfl rfl rfl rfl (zf (zF _)) (.cons rfl rfl rfl rfl (yC rfl) (.cons rfl rfl rfl rfl (yC rfl) .nil))) (by
      repeat' first | exact zn | refine zk ?_ ?_ | exact zy | exact le_refl rfl | exact yB rfl | exact vc (congrArg _ (by simp)))
  · rintro ⟨j, hj⟩
    have hcl : (F j).2.code.length ≤ 1000000000 := by rw [hFc]; exact hl
    have hS := hFs j
    generalize hp : F j = p at hcl hS
    repeat' first | refine zN ?_ | refine zA ?_ | refine zR [] ?_ | (refine isA ?_; refine zd rfl ?_) | (refine isL ?_; refine zV rfl (by kernel_rfl) rfl rfl ?_) | (refine zc rfl ?_; refine zU rfl (by kernel_rfl) rfl rfl ?_) | refine zC ?_ | refine zD _ rfl (by kernel_rfl) ?_ | refine zW rfl ?_ | refine zX rfl ?_ | refine zE ?_ | with_reducible refine zM ?_ | refine zJ ?_ | refine zK ?_ | (with_reducible first | refine zO ?_ | refine zP ?_ | refine zG ?_ | refine zI ?_ | refine zH ?_) | refine zQ ?_
    refine zm rfl (fun h => ?_) (fun h => ?_)
    · have hlt : j < k := by have := of_decide_eq_true h; simp only at this; omega
      have b3 := ud 3 p.2 hcl
      repeat' first | refine zN ?_ | refine zA ?_ | refine zR [4] ?_ | (refine isA ?_; refine zd rfl ?_) | (refine isL ?_; refine zV rfl (by kernel_rfl) rfl rfl ?_) | (refine zc rfl ?_; refine zU rfl (by kernel_rfl) rfl rfl ?_) | (refine zo 159 ?_; refine zb rfl (zS (K := []) (Rs' := [_]) [0] (by decide) rfl b3 (.cons rfl rfl rfl (zF _) (zF _) .nil) (.cons (.ptr rfl) (.cons (.same rfl) .nil)) (fun q hq => by cases hq) rfl) rfl ?_) | (refine zp 159 rfl ?_; refine zY rfl (by kernel_rfl) rfl (zS (K := []) (Rs' := [_]) [0] (by decide) rfl b3 (.cons rfl rfl rfl (zF _) (zF _) .nil) (.cons (.ptr rfl) (.cons (.same rfl) .nil)) (fun q hq => by cases hq) rfl) rfl ?_) | (refine zo 103 ?_; refine zb rfl (zT rfl (x4 ⟨p.1.k, (zu 3 p.2).1.b, (zu 3 p.2).1.c⟩) (.cons (.same rfl) .nil) rfl) rfl ?_) | (refine zp 103 rfl ?_; refine zY rfl (by kernel_rfl) rfl (zT rfl (x4 ⟨p.1.k, (zu 3 p.2).1.b, (zu 3 p.2).1.c⟩) (.cons (.same rfl) .nil) rfl) rfl ?_) | (refine zo 100 ?_; refine zb rfl (zT rfl (w5 p.1 (ofR ⟨p.1.k, (zu 3 p.2).1.b, (zu 3 p.2).1.c⟩)) (.cons (.same rfl) (.cons (.same rfl) .nil)) rfl) rfl ?_) | (refine zp 100 rfl ?_; refine zY rfl (by kernel_rfl) rfl (zT rfl (w5 p.1 (ofR ⟨p.1.k, (zu 3 p.2).1.b, (zu 3 p.2).1.c⟩)) (.cons (.same rfl) (.cons (.same rfl) .nil)) rfl) rfl ?_) | (refine isL ?_; refine kf rfl (by kernel_rfl) rfl rfl ?_) | refine zC ?_ | refine zD _ rfl (by kernel_rfl) ?_ | refine zW rfl ?_ | refine zX rfl ?_ | refine zE ?_ | with_reducible refine zM ?_ | refine zJ ?_ | refine zK ?_ | (with_reducible first | refine zO ?_ | refine zP ?_ | refine zG ?_ | refine zI ?_ | refine zH ?_) | refine zQ ?_
      refine ⟨⟨j + 1, hlt⟩, by simp only; omega, ?_⟩
      simp only [hS]
      exact qg 1 [0, 1, 2] rfl rfl xm (by decide) (.cons rfl rfl rfl rfl (zf (zF _)) (.cons rfl rfl rfl rfl (yC rfl) (.cons rfl rfl rfl rfl (yC rfl) .nil))) (by
        repeat' first | exact zn | refine zk ?_ ?_ | exact zy | exact le_refl rfl | exact yB rfl | exact vc (congrArg _ (show (k : Int) - ((j + 1 : Nat) : Int) = IntKind.i64.wrap ((k : Int) - (j : Int) - 1) by rw [IntKind.wrap_i64]; omega)))
    · have hge : j = k := by have := of_decide_eq_false h; simp only at this; omega
      subst hge
      have h2 : (beC 10 p.2).code.length ≤ 1000000000 := by rw [yP]; exact hcl
      have b4 := yt 10 p.2 hcl
      repeat' first | refine zN ?_ | refine zA ?_ | refine zR [] ?_ | (refine isA ?_; refine zd rfl ?_) | (refine isL ?_; refine zV rfl (by kernel_rfl) rfl rfl ?_) | (refine zc rfl ?_; refine zU rfl (by kernel_rfl) rfl rfl ?_) | (refine zo 143 ?_; refine zb rfl (zS (K := []) (Rs' := [_]) [0] (by decide) rfl b4 (.cons rfl rfl rfl (zF _) (zF _) .nil) (.cons (.ptr rfl) (.cons (.same rfl) .nil)) (fun q hq => by cases hq) rfl) rfl ?_) | (refine zp 143 rfl ?_; refine zY rfl (by kernel_rfl) rfl (zS (K := []) (Rs' := [_]) [0] (by decide) rfl b4 (.cons rfl rfl rfl (zF _) (zF _) .nil) (.cons (.ptr rfl) (.cons (.same rfl) .nil)) (fun q hq => by cases hq) rfl) rfl ?_) | refine zC ?_ | refine zD _ rfl (by kernel_rfl) ?_ | refine zW rfl ?_ | refine zX rfl ?_ | refine zE ?_ | with_reducible refine zM ?_ | refine zJ ?_ | refine zK ?_ | (with_reducible first | refine zO ?_ | refine zP ?_ | refine zG ?_ | refine zI ?_ | refine zH ?_) | refine zQ ?_
      refine zm rfl (fun b0 => ?_) (fun b0 => ?_)
      · skip
        have D : x8 p = (⟨p.1.k, p.1.n, IntKind.i64.wrap (p.1.s + pkV [-100, 300] (beC 10 p.2)), p.1.lo, p.1.hi⟩, beC 2 (beC 10 p.2)) := by rw [x8, b0]; rfl
        repeat' first | refine zN ?_ | refine zA ?_ | (refine isA ?_; refine zd rfl ?_) | (refine isL ?_; refine zV rfl (by kernel_rfl) rfl rfl ?_) | (refine zc rfl ?_; refine zU rfl (by kernel_rfl) rfl rfl ?_) | refine zC ?_ | refine zD _ rfl (by kernel_rfl) ?_ | refine zW rfl ?_ | refine zX rfl ?_ | refine zE ?_ | with_reducible refine zM ?_ | refine zJ ?_ | refine zK ?_ | (with_reducible first | refine zO ?_ | refine zP ?_ | refine zG ?_ | refine zI ?_ | refine zH ?_) | refine zQ ?_
        refine vj 7 (fun H => H[2]? = some (bxG p.1)) 8 rfl ?_
        refine yN 0 (Or.inr rfl) rfl rfl (by kernel_rfl) rfl (fun _ => rfl) rfl ?_
        refine nB 1 rfl (by kernel_rfl) rfl (by kernel_rfl) rfl (fun _ hG => rd_sc rfl rfl hG rfl rfl) rfl ?_
        refine yN 2 (Or.inr rfl) rfl rfl (by kernel_rfl) rfl (fun _ => rfl) rfl ?_
        refine yg 3 (Or.inr rfl) rfl rfl (by kernel_rfl) rfl (fun _ => yh (cs := [-100, 300].map I) rfl rfl rfl rfl rfl) rfl ?_
        refine vu 4 (by kernel_rfl) rfl rfl (zS (K := []) (Rs' := [_]) [0] (by decide) rfl (yo [-100, 300] (beC 10 p.2) h2 (Nat.zero_lt_succ _)) (.cons rfl rfl rfl (zF _) (zF _) .nil) (.cons (.ptr rfl) (.cons (.same rfl) .nil)) (fun q hq => by cases hq) rfl) (Or.inr rfl) rfl ?_
        refine yN 5 (Or.inr rfl) rfl rfl (by kernel_rfl) rfl (fun _ => rfl) rfl ?_
        refine yN 6 (Or.inr rfl) rfl rfl (by kernel_rfl) rfl (fun _ => rfl) rfl ?_
        refine wW 7 (by kernel_rfl) rfl rfl rfl (Or.inl (by kernel_rfl)) rfl ?_
        refine wV (by kernel_rfl) ?_
        repeat' first | refine zN ?_ | refine zA ?_ | refine zR [] ?_ | (refine isA ?_; refine zd rfl ?_) | (refine isL ?_; refine zV rfl (by kernel_rfl) rfl rfl ?_) | (refine zc rfl ?_; refine zU rfl (by kernel_rfl) rfl rfl ?_) | exact (by rw [hp, D]; exact x3 (yJ rfl rfl rfl rfl rfl) (le_refl rfl) (.cons rfl rfl rfl rfl (zf (zF _)) .nil)) | refine zC ?_ | refine zD _ rfl (by kernel_rfl) ?_ | refine zW rfl ?_ | refine zX rfl ?_ | refine zE ?_ | with_reducible refine zM ?_ | refine zJ ?_ | refine zK ?_ | (with_reducible first | refine zO ?_ | refine zP ?_ | refine zG ?_ | refine zI ?_ | refine zH ?_) | refine zQ ?_
      · repeat' first | refine zN ?_ | refine zA ?_ | refine zR [] ?_ | (refine isA ?_; refine zd rfl ?_) | (refine isL ?_; refine zV rfl (by kernel_rfl) rfl rfl ?_) | (refine zc rfl ?_; refine zU rfl (by kernel_rfl) rfl rfl ?_) | refine zC ?_ | refine zD _ rfl (by kernel_rfl) ?_ | refine zW rfl ?_ | refine zX rfl ?_ | refine zE ?_ | with_reducible refine zM ?_ | refine zJ ?_ | refine zK ?_ | (with_reducible first | refine zO ?_ | refine zP ?_ | refine zG ?_ | refine zI ?_ | refine zH ?_) | refine zQ ?_
        refine zm rfl (fun b1 => ?_) (fun b1 => ?_)
        · skip
          have D : x8 p = (⟨p.1.k, pkV [0, 25] (beC 10 p.2), p.1.s, p.1.lo, p.1.hi⟩, beC 2 (beC 10 p.2)) := by rw [x8, b0, b1]; rfl
          repeat' first | (refine isA ?_; refine zb rfl (yh rfl rfl rfl rfl rfl) rfl ?_) | refine zN ?_ | refine zA ?_ | refine zR [] ?_ | (refine isA ?_; refine zd rfl ?_) | (refine isL ?_; refine zV rfl (by kernel_rfl) rfl rfl ?_) | (refine zc rfl ?_; refine zU rfl (by kernel_rfl) rfl rfl ?_) | (refine zo 131 ?_; refine zb rfl (zS (K := []) (Rs' := [_]) [0] (by decide) rfl (yo [0, 25] (beC 10 p.2) h2 (Nat.zero_lt_succ _)) (.cons rfl rfl rfl (zF _) (zF _) .nil) (.cons (.ptr rfl) (.cons (.same rfl) .nil)) (fun q hq => by cases hq) rfl) rfl ?_) | (refine zp 131 rfl ?_; refine zY rfl (by kernel_rfl) rfl (zS (K := []) (Rs' := [_]) [0] (by decide) rfl (yo [0, 25] (beC 10 p.2) h2 (Nat.zero_lt_succ _)) (.cons rfl rfl rfl (zF _) (zF _) .nil) (.cons (.ptr rfl) (.cons (.same rfl) .nil)) (fun q hq => by cases hq) rfl) rfl ?_) | exact (by rw [hp, D]; exact x3 (yJ rfl rfl rfl rfl rfl) (le_refl rfl) (.cons rfl rfl rfl rfl (zf (zF _)) .nil)) | refine zC ?_ | refine zD _ rfl (by kernel_rfl) ?_ | refine zW rfl ?_ | refine zX rfl ?_ | refine zE ?_ | with_reducible refine zM ?_ | refine zJ ?_ | refine zK ?_ | (with_reducible first | refine zO ?_ | refine zP ?_ | refine zG ?_ | refine zI ?_ | refine zH ?_) | refine zQ ?_
        · repeat' first | refine zN ?_ | refine zA ?_ | refine zR [] ?_ | (refine isA ?_; refine zd rfl ?_) | (refine isL ?_; refine zV rfl (by kernel_rfl) rfl rfl ?_) | (refine zc rfl ?_; refine zU rfl (by kernel_rfl) rfl rfl ?_) | refine zC ?_ | refine zD _ rfl (by kernel_rfl) ?_ | refine zW rfl ?_ | refine zX rfl ?_ | refine zE ?_ | with_reducible refine zM ?_ | refine zJ ?_ | refine zK ?_ | (with_reducible first | refine zO ?_ | refine zP ?_ | refine zG ?_ | refine zI ?_ | refine zH ?_) | refine zQ ?_
          refine zm rfl (fun b2 => ?_) (fun b2 => ?_)
          · skip
            have D : x8 p = (⟨p.1.k, p.1.n, p.1.s, IntKind.i64.wrap (p.1.hi + 1), p.1.hi⟩, beC 10 p.2) := by rw [x8, b0, b1, b2]; rfl
            repeat' first | refine zN ?_ | refine zA ?_ | refine zR [] ?_ | (refine isA ?_; refine zd rfl ?_) | (refine isL ?_; refine zV rfl (by kernel_rfl) rfl rfl ?_) | (refine zc rfl ?_; refine zU rfl (by kernel_rfl) rfl rfl ?_) | exact (by rw [hp, D]; exact x3 (yJ rfl rfl rfl rfl rfl) (le_refl rfl) (.cons rfl rfl rfl rfl (zf (zF _)) .nil)) | refine zC ?_ | refine zD _ rfl (by kernel_rfl) ?_ | refine zW rfl ?_ | refine zX rfl ?_ | refine zE ?_ | with_reducible refine zM ?_ | refine zJ ?_ | refine zK ?_ | (with_reducible first | refine zO ?_ | refine zP ?_ | refine zG ?_ | refine zI ?_ | refine zH ?_) | refine zQ ?_
          · skip
            have D : x8 p = (p.1, beC 10 p.2) := by rw [x8, b0, b1, b2]; rfl
            repeat' first | refine zN ?_ | refine zA ?_ | refine zR [] ?_ | (refine isA ?_; refine zd rfl ?_) | (refine isL ?_; refine zV rfl (by kernel_rfl) rfl rfl ?_) | (refine zc rfl ?_; refine zU rfl (by kernel_rfl) rfl rfl ?_) | exact (by rw [hp, D]; exact x3 (yJ rfl rfl rfl rfl rfl) (le_refl rfl) (.cons rfl rfl rfl rfl (zf (zF _)) .nil)) | refine zC ?_ | refine zD _ rfl (by kernel_rfl) ?_ | refine zW rfl ?_ | refine zX rfl ?_ | refine zE ?_ | with_reducible refine zM ?_ | refine zJ ?_ | refine zK ?_ | (with_reducible first | refine zO ?_ | refine zP ?_ | refine zG ?_ | refine zI ?_ | refine zH ?_) | refine zQ ?_
end Go.Proofs.Ytkcicbigpbdjpaa.Ab.Gq
namespace Go.Proofs.Ytkcicbigpbdjpaa.Ab.Gq
open Go.RowKit
def y5 (c : Cur) : Nat → List Gr × Cur
  | 0 => ([], beC 6 c)
  | i + 1 => ((y5 c i).1 ++ yr (zq 3 (y5 c i).2).1, (zq 3 (y5 c i).2).2)
theorem uA (c : Cur) : ∀ i, (y5 c i).2.code = c.code
  | 0 => yP _ _
  | i + 1 => by
    show (zq 3 (y5 c i).2).2.code = _
    rw [vq, uA c i]
theorem l7 (c : Cur) : (zq 3 c).1.length ≤ 3 := by
  have := vB (most := 3) (by decide) (by decide) c
  omega
theorem vK (c : Cur) : ∀ i, (y5 c i).1.length ≤ 3 * i
  | 0 => Nat.le_refl _
  | i + 1 => by
    have h1 := vK c i
    have h2 := wv (zq 3 (y5 c i).2).1
    have h3 := l7 (y5 c i).2
    show ((y5 c i).1 ++ yr (zq 3 (y5 c i).2).1).length ≤ _
    rw [List.length_append]
    omega
def wM (c : Cur) : List Gr × Cur := y5 c (beV 6 c).toNat
theorem pC (c : Cur) : (wM c).1.length ≤ 18 := by
  have := yv (n := 6) (by decide) c
  have h := vK c (beV 6 c).toNat
  unfold wM
  omega
theorem sU (c : Cur) (hl : c.code.length ≤ 1000000000) : zi Go.Proofs.Try.prog 154 [.ptr 0 0] [yO c] (.sl 1 0 (wM c).1.length) [yO (wM c).2, gR (wM c).1] true := by
  obtain ⟨r0, r1⟩ := yv (n := 6) (by decide) c
  obtain ⟨k, hk⟩ : ∃ k : Nat, beV 6 c = k := ⟨(beV 6 c).toNat, by omega⟩
  have hD : wM c = y5 c k := by rw [wM, hk]; rfl
  rw [hD]
  have b2 := yt 6 c hl
  rw [hk] at b2
  have hF0 : y5 c 0 = ([], beC 6 c) := rfl
  have hFc := uA c
  have hFl := vK c
  have hFs : ∀ i, y5 c (i + 1) = ((y5 c i).1 ++ yr (zq 3 (y5 c i).2).1, (zq 3 (y5 c i).2).2) := fun _ => rfl
  generalize y5 c = F at hF0 hFc hFs hFl
  refine zj [2] Go.Proofs.Try.func154 rfl rfl ?_
  simp only [Go.Proofs.Try.ntmps154, List.length_cons, List.length_nil, Nat.reduceAdd, Nat.reduceSub, List.replicate_succ, List.replicate_zero, List.cons_append, List.nil_append]
  repeat' first | refine zN ?_ | refine zA ?_ | refine zR [] ?_ | (refine isA ?_; refine zd rfl ?_) | (refine isL ?_; refine zV rfl (by kernel_rfl) rfl rfl ?_) | (refine zc rfl ?_; refine zU rfl (by kernel_rfl) rfl rfl ?_) | (refine zo 143 ?_; refine zb rfl (zS (K := []) (Rs' := [_]) [0] (by decide) rfl b2 (.cons rfl rfl rfl (zF _) (zF _) .nil) (.cons (.ptr rfl) (.cons (.same rfl) .nil)) (fun q hq => by cases hq) rfl) rfl ?_) | (refine zp 143 rfl ?_; refine zY rfl (by kernel_rfl) rfl (zS (K := []) (Rs' := [_]) [0] (by decide) rfl b2 (.cons rfl rfl rfl (zF _) (zF _) .nil) (.cons (.ptr rfl) (.cons (.same rfl) .nil)) (fun q hq => by cases hq) rfl) rfl ?_) | refine zC ?_ | refine zD _ rfl (by kernel_rfl) ?_ | refine zW rfl ?_ | refine zX rfl ?_ | refine zE ?_ | with_reducible refine zM ?_ | refine zJ ?_ | refine zK ?_ | (with_reducible first | refine zO ?_ | refine zP ?_ | refine zG ?_ | refine zI ?_ | refine zH ?_) | refine zQ ?_
  refine yV (α := { j : Nat // j ≤ k }) (fun j => ⟨[.ptr 0 0, .any, .any, .sl 1 0 (F j.1).1.length, I ((k : Int) - j.1), .any, .any, .any, .any, .any, .any, .any, .any, .any, .any, .any, .any, .any, .any, .any], [yO (F j.1).2, gR (F j.1).1], 1⟩) (fun j => k - j.1) ⟨0, Nat.zero_le _⟩ ?_ ?_
  · simp only [hF0]
    refine qg 1 [0, 1] rfl rfl xm (by decide) (.cons rfl rfl rfl rfl (zf (zF _)) (.cons rfl rfl rfl rfl (yC rfl) .nil)) (by
      repeat' first | exact zn | refine zk ?_ ?_ | exact zy | exact le_refl rfl | exact yB rfl | exact z8 rfl rfl | exact vc (congrArg _ (by simp)))
  · rintro ⟨j, hj⟩
    have hcl : (F j).2.code.length ≤ 1000000000 := by rw [hFc]; exact hl
    have hS := hFs j
    have hjl := hFl j
    generalize hp : F j = p at hcl hS hjl
    repeat' first | refine zN ?_ | refine zA ?_ | refine zR [] ?_ | (refine isA ?_; refine zd rfl ?_) | (refine isL ?_; refine zV rfl (by kernel_rfl) rfl rfl ?_) | (refine zc rfl ?_; refine zU rfl (by kernel_rfl) rfl rfl ?_) | refine zC ?_ | refine zD _ rfl (by kernel_rfl) ?_ | refine zW rfl ?_ | refine zX rfl ?_ | refine zE ?_ | with_reducible refine zM ?_ | refine zJ ?_ | refine zK ?_ | (with_reducible first | refine zO ?_ | refine zP ?_ | refine zG ?_ | refine zI ?_ | refine zH ?_) | refine zQ ?_
    refine zm rfl (fun h => ?_) (fun h => ?_)
    · have hlt : j < k := by have := of_decide_eq_true h; simp only at this; omega
      have b3 := lD 3 (by decide) (by decide) p.2 hcl
      have hrl := l7 p.2
      have hgl := wv (zq 3 p.2).1
      have b4 := (mD (zq 3 p.2).1 (by omega)).frozen (xP (n := 0) rfl)
      repeat' first | refine zN ?_ | refine zA ?_ | refine zR [] ?_ | (refine isA ?_; refine zd rfl ?_) | (refine isL ?_; refine zV rfl (by kernel_rfl) rfl rfl ?_) | (refine zc rfl ?_; refine zU rfl (by kernel_rfl) rfl rfl ?_) | (refine zo 129 ?_; refine zb rfl (zS (K := []) (Rs' := [_]) [0] (by decide) rfl b3 (.cons rfl rfl rfl (zF _) (zF _) .nil) (.cons (.ptr rfl) (.cons (.same rfl) .nil)) (fun q hq => by cases hq) rfl) rfl ?_) | (refine zp 129 rfl ?_; refine zY rfl (by kernel_rfl) rfl (zS (K := []) (Rs' := [_]) [0] (by decide) rfl b3 (.cons rfl rfl rfl (zF _) (zF _) .nil) (.cons (.ptr rfl) (.cons (.same rfl) .nil)) (fun q hq => by cases hq) rfl) rfl ?_) | (refine zo 86 ?_; refine zb rfl (zT rfl b4 (.cons (.same rfl) .nil) rfl) rfl ?_) | (refine zp 86 rfl ?_; refine zY rfl (by kernel_rfl) rfl (zT rfl b4 (.cons (.same rfl) .nil) rfl) rfl ?_) | (refine v6 ?_; refine zb rfl (xJ (t := gT) (xs := p.1) (ys := yr (zq 3 p.2).1) rfl rfl rfl rfl (.lst _ _) (by omega) rfl) rfl ?_) | (refine vz rfl ?_; refine zY rfl (by kernel_rfl) rfl (xJ (t := gT) (xs := p.1) (ys := yr (zq 3 p.2).1) rfl rfl rfl rfl (.lst _ _) (by omega) rfl) rfl ?_) | refine zC ?_ | refine zD _ rfl (by kernel_rfl) ?_ | refine zW rfl ?_ | refine zX rfl ?_ | refine zE ?_ | with_reducible refine zM ?_ | refine zJ ?_ | refine zK ?_ | (with_reducible first | refine zO ?_ | refine zP ?_ | refine zG ?_ | refine zI ?_ | refine zH ?_) | refine zQ ?_
      refine ⟨⟨j + 1, hlt⟩, by simp only; omega, ?_⟩
      simp only [hS]
      exact qg 1 [0, 2] rfl rfl xm (by decide) (.cons rfl rfl rfl rfl (zf (zF _)) (.cons rfl rfl rfl rfl (zf (zg _ _)) .nil)) (by
        repeat' first | exact zn | refine zk ?_ ?_ | exact zy | exact le_refl rfl | exact yB rfl | exact z8 rfl rfl | exact vc (congrArg _ (show (k : Int) - ((j + 1 : Nat) : Int) = IntKind.i64.wrap ((k : Int) - (j : Int) - 1) by rw [IntKind.wrap_i64]; omega)))
    · have hge : j = k := by have := of_decide_eq_false h; simp only at this; omega
      subst hge
      rw [hp]
      repeat' first | refine zN ?_ | refine zA ?_ | refine zR [] ?_ | (refine isA ?_; refine zd rfl ?_) | (refine isL ?_; refine zV rfl (by kernel_rfl) rfl rfl ?_) | (refine zc rfl ?_; refine zU rfl (by kernel_rfl) rfl rfl ?_) | exact vM 1 [0, 1] xm (by decide) rfl (z8 rfl rfl) (.cons rfl rfl rfl rfl (zf (zF _)) (.cons rfl rfl rfl rfl (zf (zg _ _)) .nil)) | refine zC ?_ | refine zD _ rfl (by kernel_rfl) ?_ | refine zW rfl ?_ | refine zX rfl ?_ | refine zE ?_ | with_reducible refine zM ?_ | refine zJ ?_ | refine zK ?_ | (with_reducible first | refine zO ?_ | refine zP ?_ | refine zG ?_ | refine zI ?_ | refine zH ?_) | refine zQ ?_
theorem tz (c : Cur) (hl : c.code.length ≤ 1000000000) : zi Go.Proofs.Try.prog 154 [.ptr 0 0] [yO c] (gL (wM c).1) [yO (wM c).2] true := kh (sU c hl) (xP (n := 0) rfl)
theorem mM (xs : List Int) (hl : xs.length ≤ 1000000000) : zi Go.Proofs.Try.prog 88 [yW u8T xs] [] (rwL (y6 12 (y0 xs)).1) [] true := by
  have b1 := lG 12 (by decide) (by decide) (y0 xs) hl
  refine zj [2] Go.Proofs.Try.func88 rfl rfl ?_
  simp only [Go.Proofs.Try.ntmps88, List.length_cons, List.length_nil, Nat.reduceAdd, Nat.reduceSub, List.replicate_succ, List.replicate_zero, List.cons_append, List.nil_append]
  repeat' first | refine zN ?_ | refine zA ?_ | refine zR [] ?_ | (refine isA ?_; refine zd rfl ?_) | (refine isL ?_; refine zV rfl (by kernel_rfl) rfl rfl ?_) | (refine zc rfl ?_; refine zU rfl (by kernel_rfl) rfl rfl ?_) | (refine zo 104 ?_; refine zb rfl (yH rfl (wh xs hl) (.cons (.same rfl) .nil) (fun q hq => by simp at hq; subst hq; exact zF _) rfl rfl) rfl ?_) | (refine zp 104 rfl ?_; refine zY rfl (by kernel_rfl) rfl (yH rfl (wh xs hl) (.cons (.same rfl) .nil) (fun q hq => by simp at hq; subst hq; exact zF _) rfl rfl) rfl ?_) | (refine zo 105 ?_; refine zb rfl (zS (K := []) (Rs' := [_]) [0] (by decide) rfl b1 (.cons rfl rfl rfl (zF _) (zF _) .nil) (.cons (.ptr rfl) (.cons (.same rfl) .nil)) (fun q hq => by cases hq) rfl) rfl ?_) | (refine zp 105 rfl ?_; refine zY rfl (by kernel_rfl) rfl (zS (K := []) (Rs' := [_]) [0] (by decide) rfl b1 (.cons rfl rfl rfl (zF _) (zF _) .nil) (.cons (.ptr rfl) (.cons (.same rfl) .nil)) (fun q hq => by cases hq) rfl) rfl ?_) | exact finP rfl (.same rfl) | refine zC ?_ | refine zD _ rfl (by kernel_rfl) ?_ | refine zW rfl ?_ | refine zX rfl ?_ | refine zE ?_ | with_reducible refine zM ?_ | refine zJ ?_ | refine zK ?_ | (with_reducible first | refine zO ?_ | refine zP ?_ | refine zG ?_ | refine zI ?_ | refine zH ?_) | refine zQ ?_
theorem mN (xs : List Int) (hl : xs.length ≤ 1000000000) : zi Go.Proofs.Try.prog 97 [yW u8T xs] [] (gL (wM (y0 xs)).1) [] true := by
  have b1 := tz (y0 xs) hl
  refine zj [2] Go.Proofs.Try.func97 rfl rfl ?_
  simp only [Go.Proofs.Try.ntmps97, List.length_cons, List.length_nil, Nat.reduceAdd, Nat.reduceSub, List.replicate_succ, List.replicate_zero, List.cons_append, List.nil_append]
  repeat' first | refine zN ?_ | refine zA ?_ | refine zR [] ?_ | (refine isA ?_; refine zd rfl ?_) | (refine isL ?_; refine zV rfl (by kernel_rfl) rfl rfl ?_) | (refine zc rfl ?_; refine zU rfl (by kernel_rfl) rfl rfl ?_) | (refine zo 104 ?_; refine zb rfl (yH rfl (wh xs hl) (.cons (.same rfl) .nil) (fun q hq => by simp at hq; subst hq; exact zF _) rfl rfl) rfl ?_) | (refine zp 104 rfl ?_; refine zY rfl (by kernel_rfl) rfl (yH rfl (wh xs hl) (.cons (.same rfl) .nil) (fun q hq => by simp at hq; subst hq; exact zF _) rfl rfl) rfl ?_) | (refine zo 154 ?_; refine zb rfl (zS (K := []) (Rs' := [_]) [0] (by decide) rfl b1 (.cons rfl rfl rfl (zF _) (zF _) .nil) (.cons (.ptr rfl) .nil) (fun q hq => by cases hq) rfl) rfl ?_) | (refine zp 154 rfl ?_; refine zY rfl (by kernel_rfl) rfl (zS (K := []) (Rs' := [_]) [0] (by decide) rfl b1 (.cons rfl rfl rfl (zF _) (zF _) .nil) (.cons (.ptr rfl) .nil) (fun q hq => by cases hq) rfl) rfl ?_) | exact finP rfl (.same rfl) | refine zC ?_ | refine zD _ rfl (by kernel_rfl) ?_ | refine zW rfl ?_ | refine zX rfl ?_ | refine zE ?_ | with_reducible refine zM ?_ | refine zJ ?_ | refine zK ?_ | (with_reducible first | refine zO ?_ | refine zP ?_ | refine zG ?_ | refine zI ?_ | refine zH ?_) | refine zQ ?_
theorem mO (xs : List Int) (hl : xs.length ≤ 1000000000) : zi Go.Proofs.Try.prog 96 [yW u8T xs] [] (.agg (gE (wK (y0 xs)).1)) [] true := by
  have b1 := tF (y0 xs) hl
  refine yn 2 95 Go.Proofs.Try.func96 rfl rfl ?_
  simp only [Go.Proofs.Try.ntmps96, List.length_cons, List.length_nil, Nat.reduceAdd, Nat.reduceSub, List.replicate_succ, List.replicate_zero, List.cons_append, List.nil_append]
  repeat' first | refine zN ?_ | refine zA ?_ | refine zR [] ?_ | (refine isA ?_; refine zd rfl ?_) | (refine isL ?_; refine zV rfl (by kernel_rfl) rfl rfl ?_) | (refine zc rfl ?_; refine zU rfl (by kernel_rfl) rfl rfl ?_) | (refine zo 104 ?_; refine zb rfl (yH rfl (wh xs hl) (.cons (.same rfl) .nil) (fun q hq => by simp at hq; subst hq; exact zF _) rfl rfl) rfl ?_) | (refine zp 104 rfl ?_; refine zY rfl (by kernel_rfl) rfl (yH rfl (wh xs hl) (.cons (.same rfl) .nil) (fun q hq => by simp at hq; subst hq; exact zF _) rfl rfl) rfl ?_) | (refine zo 153 ?_; refine zb rfl (zS (K := []) (Rs' := [_]) [1] (by decide) rfl b1 (.cons rfl rfl rfl (zF _) (zF _) .nil) (.cons (.ptr rfl) .nil) (fun q hq => by cases hq) rfl) rfl ?_) | (refine zp 153 rfl ?_; refine zY rfl (by kernel_rfl) rfl (zS (K := []) (Rs' := [_]) [1] (by decide) rfl b1 (.cons rfl rfl rfl (zF _) (zF _) .nil) (.cons (.ptr rfl) .nil) (fun q hq => by cases hq) rfl) rfl ?_) | exact tq (yJ rfl rfl rfl rfl rfl) (.same rfl) | refine zC ?_ | refine zD _ rfl (by kernel_rfl) ?_ | refine zW rfl ?_ | refine zX rfl ?_ | refine zE ?_ | with_reducible refine zM ?_ | refine zJ ?_ | refine zK ?_ | (with_reducible first | refine zO ?_ | refine zP ?_ | refine zG ?_ | refine zI ?_ | refine zH ?_) | refine zQ ?_
theorem mP (xs : List Int) (hl : xs.length ≤ 1000000000) : zi Go.Proofs.Try.prog 98 [yW u8T xs] [] (.agg (rwE (xn (y0 xs)).1)) [] true := by
  have b1 := mS (y0 xs) hl
  refine yn 2 71 Go.Proofs.Try.func98 rfl rfl ?_
  simp only [Go.Proofs.Try.ntmps98, List.length_cons, List.length_nil, Nat.reduceAdd, Nat.reduceSub, List.replicate_succ, List.replicate_zero, List.cons_append, List.nil_append]
  repeat' first | refine zN ?_ | refine zA ?_ | refine zR [] ?_ | (refine isA ?_; refine zd rfl ?_) | (refine isL ?_; refine zV rfl (by kernel_rfl) rfl rfl ?_) | (refine zc rfl ?_; refine zU rfl (by kernel_rfl) rfl rfl ?_) | (refine zo 104 ?_; refine zb rfl (yH rfl (wh xs hl) (.cons (.same rfl) .nil) (fun q hq => by simp at hq; subst hq; exact zF _) rfl rfl) rfl ?_) | (refine zp 104 rfl ?_; refine zY rfl (by kernel_rfl) rfl (yH rfl (wh xs hl) (.cons (.same rfl) .nil) (fun q hq => by simp at hq; subst hq; exact zF _) rfl rfl) rfl ?_) | (refine zo 155 ?_; refine zb rfl (zS (K := []) (Rs' := [_]) [1] (by decide) rfl b1 (.cons rfl rfl rfl (zF _) (zF _) .nil) (.cons (.ptr rfl) .nil) (fun q hq => by cases hq) rfl) rfl ?_) | (refine zp 155 rfl ?_; refine zY rfl (by kernel_rfl) rfl (zS (K := []) (Rs' := [_]) [1] (by decide) rfl b1 (.cons rfl rfl rfl (zF _) (zF _) .nil) (.cons (.ptr rfl) .nil) (fun q hq => by cases hq) rfl) rfl ?_) | exact tq (yJ rfl rfl rfl rfl rfl) (.same rfl) | refine zC ?_ | refine zD _ rfl (by kernel_rfl) ?_ | refine zW rfl ?_ | refine zX rfl ?_ | refine zE ?_ | with_reducible refine zM ?_ | refine zJ ?_ | refine zK ?_ | (with_reducible first | refine zO ?_ | refine zP ?_ | refine zG ?_ | refine zI ?_ | refine zH ?_) | refine zQ ?_
theorem mQ (xs : List Int) (hl : xs.length ≤ 1000000000) : zi Go.Proofs.Try.prog 95 [yW u8T xs] [] (.tup [.agg (gE (wK (y0 xs)).1), .agg (gE (wK (wK (y0 xs)).2).1)]) [] true := by
  have b1 := tF (y0 xs) hl
  have k1 : (wK (y0 xs)).2.code.length ≤ 1000000000 := by rw [qx]; exact hl
  generalize wK (y0 xs) = p at b1 k1
  have b2 := tF p.2 k1
  generalize wK p.2 = q at b2
  refine sO 2 3 95 95 Go.Proofs.Try.func95 rfl rfl ?_
  simp only [Go.Proofs.Try.ntmps95, List.length_cons, List.length_nil, Nat.reduceAdd, Nat.reduceSub, List.replicate_succ, List.replicate_zero, List.cons_append, List.nil_append]
  repeat' first | refine zN ?_ | refine zA ?_ | (refine isA ?_; refine zd rfl ?_) | (refine isL ?_; refine zV rfl (by kernel_rfl) rfl rfl ?_) | (refine zc rfl ?_; refine zU rfl (by kernel_rfl) rfl rfl ?_) | (refine zo 104 ?_; refine zb rfl (yH rfl (wh xs hl) (.cons (.same rfl) .nil) (fun q hq => by simp at hq; subst hq; exact zF _) rfl rfl) rfl ?_) | (refine zp 104 rfl ?_; refine zY rfl (by kernel_rfl) rfl (yH rfl (wh xs hl) (.cons (.same rfl) .nil) (fun q hq => by simp at hq; subst hq; exact zF _) rfl rfl) rfl ?_) | (refine zo 153 ?_; refine zb rfl (zS (K := []) (Rs' := [_]) [2] (by decide) rfl b1 (.cons rfl rfl rfl (zF _) (zF _) .nil) (.cons (.ptr rfl) .nil) (fun q hq => by cases hq) rfl) rfl ?_) | (refine zp 153 rfl ?_; refine zY rfl (by kernel_rfl) rfl (zS (K := []) (Rs' := [_]) [2] (by decide) rfl b1 (.cons rfl rfl rfl (zF _) (zF _) .nil) (.cons (.ptr rfl) .nil) (fun q hq => by cases hq) rfl) rfl ?_) | refine zC ?_ | refine zD _ rfl (by kernel_rfl) ?_ | refine zW rfl ?_ | refine zX rfl ?_ | refine zE ?_ | with_reducible refine zM ?_ | refine zJ ?_ | refine zK ?_ | (with_reducible first | refine zO ?_ | refine zP ?_ | refine zG ?_ | refine zI ?_ | refine zH ?_) | refine zQ ?_
  refine vj 3 (fun H => H[3]? = some (bxG p.1)) 5 rfl ?_
  refine nB 0 rfl (by kernel_rfl) rfl (by kernel_rfl) rfl (fun _ hG => ww rfl rfl hG rfl rfl rfl) rfl ?_
  refine yN 1 (Or.inr rfl) rfl rfl (by kernel_rfl) rfl (fun _ => rfl) rfl ?_
  refine vu 2 (by kernel_rfl) rfl rfl (zS (K := []) (Rs' := [_]) [2] (by decide) rfl b2 (.cons rfl rfl rfl (zF _) (zF _) .nil) (.cons (.ptr rfl) .nil) (fun q hq => by cases hq) rfl) (Or.inr rfl) rfl ?_
  refine wW 3 (by kernel_rfl) rfl rfl rfl (Or.inl (by kernel_rfl)) rfl ?_
  refine wW 4 (by kernel_rfl) rfl rfl rfl (Or.inl (by kernel_rfl)) rfl ?_
  refine wV (by kernel_rfl) ?_
  repeat' first | refine zN ?_ | refine zA ?_ | refine zR [] ?_ | (refine isA ?_; refine zd rfl ?_) | (refine isL ?_; refine zV rfl (by kernel_rfl) rfl rfl ?_) | (refine zc rfl ?_; refine zU rfl (by kernel_rfl) rfl rfl ?_) | exact fin2C (yJ rfl rfl rfl rfl rfl) (yJ rfl rfl rfl rfl rfl) (.tup (.cons (.same rfl) (.cons (.same rfl) .nil))) | refine zC ?_ | refine zD _ rfl (by kernel_rfl) ?_ | refine zW rfl ?_ | refine zX rfl ?_ | refine zE ?_ | with_reducible refine zM ?_ | refine zJ ?_ | refine zK ?_ | (with_reducible first | refine zO ?_ | refine zP ?_ | refine zG ?_ | refine zI ?_ | refine zH ?_) | refine zQ ?_
theorem sn (zs : List Int) (c : Cur) : pkV zs c = 0 ∨ pkV zs c ∈ zs := by
  unfold pkV
  cases h : zs[(beV zs.length c).toNat]? with
  | none => exact Or.inl rfl
  | some z => exact Or.inr (List.mem_of_getElem? h)
theorem mU {n : Int} (h : n ≤ 1000) (c : Cur) : wB (beV n c) := by
  by_cases h0 : 0 < n
  · have := yv h0 c
    unfold wB
    omega
  · have : beV n c = 0 := by
      unfold beV
      rw [show decide (n ≤ 0) = true from decide_eq_true (by omega)]
      rfl
    rw [this]
    exact ⟨by decide, by decide⟩
theorem si {keys : Int} (h : keys ≤ 1000) (c : Cur) : pM (zu keys c).1 := ⟨mU (n := keys) h c, mU (n := 100) (by decide) (beC keys c)⟩
theorem tY {keys : Int} (h : keys ≤ 1000) (c : Cur) : ∀ i, ∀ r ∈ (yp keys c i).1, pM r
  | 0, r, hr => by cases hr
  | i + 1, r, hr => by
    rcases List.mem_append.1 (show r ∈ (yp keys c i).1 ++ [(zu keys (yp keys c i).2).1] from hr) with hr | hr
    · exact tY h c i r hr
    · simp only [List.mem_cons, List.not_mem_nil, or_false] at hr
      rw [hr]
      exact si h _
theorem tZ (most : Int) (c : Cur) : ∀ r ∈ (zq most c).1, pM r := by
  unfold zq
  refine tY ?_ _ _
  rcases sn [1, 2, 4, 10] c with h | h
  · omega
  · simp only [List.mem_cons, List.not_mem_nil, or_false] at h
    omega
theorem kG {zs : List Int} (c : Cur) (h : ∀ z ∈ zs, wB z) : wB (pkV zs c) := by
  rcases sn zs c with e | e
  · rw [e]; exact ⟨by decide, by decide⟩
  · exact h _ e
theorem lL (c : Cur) : pM (xn c).1 := by
  have h := si (keys := 10) (by decide) c
  unfold xn
  cases decide (beV 8 (zu 10 c).2 = 0)
  · cases decide (beV 8 (zu 10 c).2 = 1)
    · cases decide (beV 8 (zu 10 c).2 = 2)
      · exact h
      · exact h
    · refine ⟨h.1, kG _ fun z hz => ?_⟩
      simp only [List.mem_cons, List.not_mem_nil, or_false] at hz
      unfold wB
      omega
  · refine ⟨kG _ fun z hz => ?_, h.2⟩
    simp only [List.mem_cons, List.not_mem_nil, or_false] at hz
    unfold wB
    omega
theorem mT (most : Int) (c : Cur) : ∀ r ∈ (y6 most c).1, pM r := by
  unfold y6
  cases decide (beV 14 (zq most c).2 = 0)
  · exact tZ most c
  · intro r hr
    rcases List.mem_append.1 (show r ∈ (zq most c).1 ++ [(xn (beC 14 (zq most c).2)).1] from hr) with hr | hr
    · exact tZ most c r hr
    · simp only [List.mem_cons, List.not_mem_nil, or_false] at hr
      rw [hr]
      exact lL _
end Go.Proofs.Ytkcicbigpbdjpaa.Ab.Gq
namespace Go.Proofs.Ytkcicbigpbdjpaa.Ab
open Go.RowKit
def kdD (c : Cur) : Int × Cur := cond (decide (beV 14 c = 0)) (pkV [0, 5] (beC 14 c), beC 2 (beC 14 c)) (IntKind.i64.wrap (1 + beV 4 (beC 14 c)), beC 4 (beC 14 c))
structure RJ where
  k : Int
  a : List Rw
  b : List Rw
def drjV (xs : List Int) : RJ := ⟨(kdD (y0 xs)).1, (y6 7 (kdD (y0 xs)).2).1, (y6 7 (y6 7 (kdD (y0 xs)).2).2).1⟩
theorem mR (xs : List Int) : zi Go.Proofs.Try.prog 15 [yW u8T xs] [] (B (decide ((1048576 : Int) < xs.length))) [] false := by
  refine zj [2] Go.Proofs.Try.func15 rfl rfl ?_
  simp only [Go.Proofs.Try.ntmps15, List.length_cons, List.length_nil, Nat.reduceAdd, Nat.reduceSub, List.replicate_succ, List.replicate_zero, List.cons_append, List.nil_append]
  repeat' first | refine zN ?_ | refine zA ?_ | refine zR [] ?_ | (refine isA ?_; refine zd rfl ?_) | (refine isL ?_; refine zV rfl (by kernel_rfl) rfl rfl ?_) | (refine zc rfl ?_; refine zU rfl (by kernel_rfl) rfl rfl ?_) | exact xN rfl rfl rfl | refine zC ?_ | refine zD _ rfl (by kernel_rfl) ?_ | refine zW rfl ?_ | refine zX rfl ?_ | refine zE ?_ | with_reducible refine zM ?_ | refine zJ ?_ | refine zK ?_ | (with_reducible first | refine zO ?_ | refine zP ?_ | refine zG ?_ | refine zI ?_ | refine zH ?_) | refine zQ ?_
end Go.Proofs.Ytkcicbigpbdjpaa.Ab
namespace Go.Proofs.Ytkcicbigpbdjpaa.Ab.Gq
open Go.RowKit
def atV (xs : List Int) (i : Nat) : Int := match xs[i]? with
  | some z => IntKind.i64.wrap z
  | none => (IntKind.i64.wrap (IntKind.i64.wrap ((i : Int) * 37) + IntKind.i64.wrap ((xs.length : Int) * 11))).tmod 256
theorem c_atc (xs : List Int) (i : Nat) (hl : xs.length ≤ 1000000000) : zi Go.Proofs.Try.prog 149 [yW u8T xs, I i] [] (I (atV xs i)) [] false := by
  refine zj [4] Go.Proofs.Try.func149 rfl rfl ?_
  simp only [Go.Proofs.Try.ntmps149, List.length_cons, List.length_nil, Nat.reduceAdd, Nat.reduceSub, List.replicate_succ, List.replicate_zero, List.cons_append, List.nil_append]
  repeat' first | refine zN ?_ | refine zA ?_ | refine zR [] ?_ | (refine isA ?_; refine zd rfl ?_) | (refine isL ?_; refine zV rfl (by kernel_rfl) rfl rfl ?_) | (refine zc rfl ?_; refine zU rfl (by kernel_rfl) rfl rfl ?_) | refine zC ?_ | refine zD _ rfl (by kernel_rfl) ?_ | refine zW rfl ?_ | refine zX rfl ?_ | refine zE ?_ | with_reducible refine zM ?_ | refine zJ ?_ | refine zK ?_ | (with_reducible first | refine zO ?_ | refine zP ?_ | refine zG ?_ | refine zI ?_ | refine zH ?_) | refine zQ ?_
  refine zm rfl (fun h => ?_) (fun h => ?_)
  · have hlt : i < xs.length := by simpa using h
    obtain ⟨z, hz⟩ : ∃ z, xs[i]? = some z := ⟨_, List.getElem?_eq_getElem hlt⟩
    have e : atV xs i = IntKind.i64.wrap z := by rw [atV, hz]
    repeat' first | refine zN ?_ | refine zA ?_ | refine zR [] ?_ | (refine isA ?_; refine zd rfl ?_) | (refine isL ?_; refine zV rfl (by kernel_rfl) rfl rfl ?_) | (refine zc rfl ?_; refine zU rfl (by kernel_rfl) rfl rfl ?_) | (refine xH ?_; refine zb rfl (yR (t := u8T) (z := z) rfl rfl rfl rfl (Int.natCast_nonneg i) hz) rfl ?_) | (refine xG rfl ?_; refine zY rfl (by kernel_rfl) rfl (yR (t := u8T) (z := z) rfl rfl rfl rfl (Int.natCast_nonneg i) hz) rfl ?_) | exact xN rfl rfl (by rw [e]) | refine zC ?_ | refine zD _ rfl (by kernel_rfl) ?_ | refine zW rfl ?_ | refine zX rfl ?_ | refine zE ?_ | with_reducible refine zM ?_ | refine zJ ?_ | refine zK ?_ | (with_reducible first | refine zO ?_ | refine zP ?_ | refine zG ?_ | refine zI ?_ | refine zH ?_) | refine zQ ?_
  · have hge : xs.length ≤ i := by
      have : ¬ ((i : Int) < xs.length) := by simpa using h
      omega
    have e : atV xs i = (IntKind.i64.wrap (IntKind.i64.wrap ((i : Int) * 37) + IntKind.i64.wrap ((xs.length : Int) * 11))).tmod 256 := by rw [atV, List.getElem?_eq_none hge]
    repeat' first | refine zN ?_ | refine zA ?_ | refine zR [] ?_ | (refine isA ?_; refine zd rfl ?_) | (refine isL ?_; refine zV rfl (by kernel_rfl) rfl rfl ?_) | (refine zc rfl ?_; refine zU rfl (by kernel_rfl) rfl rfl ?_) | exact xN rfl rfl (by rw [e]) | refine zC ?_ | refine zD _ rfl (by kernel_rfl) ?_ | refine zW rfl ?_ | refine zX rfl ?_ | refine zE ?_ | with_reducible refine zM ?_ | refine zJ ?_ | refine zK ?_ | (with_reducible first | refine zO ?_ | refine zP ?_ | refine zG ?_ | refine zI ?_ | refine zH ?_) | refine zQ ?_
theorem kv {xs : List Int} {i : Nat} (hl : xs.length ≤ 1000000000) (hi : i ≤ 1000000000) (hb : ∀ x ∈ xs, 0 ≤ x ∧ x ≤ 255) : 0 ≤ atV xs i ∧ atV xs i ≤ 255 := by
  cases hz : xs[i]? with
  | some z =>
    rw [atV, hz]
    have := hb z (List.mem_of_getElem? hz)
    show 0 ≤ IntKind.i64.wrap z ∧ IntKind.i64.wrap z ≤ 255
    rw [IntKind.wrap_i64]; omega
  | none =>
    rw [atV, hz]
    show 0 ≤ (IntKind.i64.wrap (IntKind.i64.wrap ((i : Int) * 37) + IntKind.i64.wrap ((xs.length : Int) * 11))).tmod 256 ∧ (IntKind.i64.wrap (IntKind.i64.wrap ((i : Int) * 37) + IntKind.i64.wrap ((xs.length : Int) * 11))).tmod 256 ≤ 255
    have e1 : IntKind.i64.wrap ((i : Int) * 37) = (i : Int) * 37 := by rw [IntKind.wrap_i64]; omega
    have e2 : IntKind.i64.wrap ((xs.length : Int) * 11) = (xs.length : Int) * 11 := by rw [IntKind.wrap_i64]; omega
    rw [e1, e2]
    have e3 : IntKind.i64.wrap ((i : Int) * 37 + (xs.length : Int) * 11) = (i : Int) * 37 + (xs.length : Int) * 11 := by rw [IntKind.wrap_i64]; omega
    rw [e3]
    have h0 := Int.tmod_nonneg 256 (show 0 ≤ (i : Int) * 37 + (xs.length : Int) * 11 by omega)
    have h1 := Int.tmod_lt_of_pos ((i : Int) * 37 + (xs.length : Int) * 11) (show (0 : Int) < 256 by decide)
    omega
theorem c_cut (xs : List Int) (n : Nat) (hl : xs.length ≤ 1000000000) (hb : ∀ x ∈ xs, 0 ≤ x ∧ x ≤ 255) (hn : n ≤ 1000) : ∃ k : Nat, k ≤ n ∧ zi Go.Proofs.Try.prog 89 [yW u8T xs, I 3, I n] [] (I k) [] false := by
  have ha := c_atc xs 3 hl
  obtain ⟨r0, r1⟩ := kv (i := 3) hl (by decide) hb
  generalize atV xs 3 = v at ha r0 r1
  have e1 : IntKind.i64.wrap ((n : Int) + 1) = (n : Int) + 1 := by rw [IntKind.wrap_i64]; omega
  have p0 : 0 ≤ v * ((n : Int) + 1) := Int.mul_nonneg r0 (by omega)
  have p1 : v * ((n : Int) + 1) ≤ 255 * ((n : Int) + 1) := Int.mul_le_mul_of_nonneg_right r1 (by omega)
  have e2 : IntKind.i64.wrap (v * ((n : Int) + 1)) = v * ((n : Int) + 1) := by rw [IntKind.wrap_i64]; omega
  have t0 : 0 ≤ (v * ((n : Int) + 1)).tdiv 256 := Int.tdiv_nonneg p0 (by decide)
  have t1 : (v * ((n : Int) + 1)).tdiv 256 ≤ n := by
    rw [Int.tdiv_eq_ediv_of_nonneg p0]
    omega
  have e3 : IntKind.i64.wrap ((v * ((n : Int) + 1)).tdiv 256) = (v * ((n : Int) + 1)).tdiv 256 := by rw [IntKind.wrap_i64]; omega
  obtain ⟨k, hk⟩ : ∃ k : Nat, (v * ((n : Int) + 1)).tdiv 256 = k := ⟨((v * ((n : Int) + 1)).tdiv 256).toNat, by omega⟩
  refine ⟨k, by omega, ?_⟩
  refine zj [6] Go.Proofs.Try.func89 rfl rfl ?_
  simp only [Go.Proofs.Try.ntmps89, List.length_cons, List.length_nil, Nat.reduceAdd, Nat.reduceSub, List.replicate_succ, List.replicate_zero, List.cons_append, List.nil_append]
  repeat' first | refine zN ?_ | refine zA ?_ | refine zR [] ?_ | (refine isA ?_; refine zd rfl ?_) | (refine isL ?_; refine zV rfl (by kernel_rfl) rfl rfl ?_) | (refine zc rfl ?_; refine zU rfl (by kernel_rfl) rfl rfl ?_) | (refine zo 149 ?_; refine zb rfl (zT rfl ha (.cons (.same rfl) (.cons (.same rfl) .nil)) rfl) rfl ?_) | (refine zp 149 rfl ?_; refine zY rfl (by kernel_rfl) rfl (zT rfl ha (.cons (.same rfl) (.cons (.same rfl) .nil)) rfl) rfl ?_) | exact xN rfl rfl (by rw [e1, e2, e3, hk]) | refine zC ?_ | refine zD _ rfl (by kernel_rfl) ?_ | refine zW rfl ?_ | refine zX rfl ?_ | refine zE ?_ | with_reducible refine zM ?_ | refine zJ ?_ | refine zK ?_ | (with_reducible first | refine zO ?_ | refine zP ?_ | refine zG ?_ | refine zI ?_ | refine zH ?_) | refine zQ ?_
end Go.Proofs.Ytkcicbigpbdjpaa.Ab.Gq
namespace Go.Proofs.Ytkcicbigpbdjpaa.Ab.Gq
open Go.RowKit
theorem sH {P : Program} {o : Oper} {ρ : Operand → V} {H : List Reg} {t t' : TypeId} {x y : Operand} {a : Bool} (ho : o.op = .binOp .eql t x y t') (hx : ρ x = .k (.bool a)) (hy : ρ y = .k (.bool a)) (ht : P.underlying t = some .bool) : zh P o ρ H (B true) H := by
  have := uZ (P := P) (H := H) ho hx hy ht
  rwa [beq_self_eq_true] at this
theorem kH {α : Type} [BEq α] [ReflBEq α] {x : α} {p : Prop} (h : (!(x == x)) = true) : p := by simp at h
theorem tK {g : List Gr} (h : ∀ x ∈ g, 0 ≤ x.n) : ∀ i, 0 ≤ yX (g.take i) ∧ yX (g.take i) ≤ yX g := by
  induction g with
  | nil => intro i; simp [yX]
  | cons x xs ih =>
    intro i
    have hx := h x (List.mem_cons_self ..)
    have hr := ih (fun y hy => h y (List.mem_cons_of_mem _ hy))
    have h0 := hr 0
    have hc : yX (x :: xs) = x.n + yX xs := by simp [yX]
    cases i with
    | zero =>
      have : yX ([] : List Gr) = 0 := rfl
      rw [List.take_zero, this, hc]
      have := (hr xs.length).1
      rw [List.take_length] at this
      omega
    | succ i =>
      have := hr i
      rw [List.take_succ_cons, hc, show yX (x :: xs.take i) = x.n + yX (xs.take i) by simp [yX]]
      omega
theorem pR {g : List Gr} {i : Nat} {z : Gr} (hz : g[i]? = some z) : yX (g.take (i + 1)) = yX (g.take i) + z.n := by
  rw [List.take_add_one, hz]
  simp [yX]
theorem kw {g : List Gr} (h : Asc g) {i : Nat} {y z : Gr} (hi : 0 < i) (hy : g[i - 1]? = some y) (hz : g[i]? = some z) : y.k < z.k := by
  obtain ⟨a1, rfl⟩ := List.getElem?_eq_some_iff.1 hy
  obtain ⟨a2, rfl⟩ := List.getElem?_eq_some_iff.1 hz
  exact List.pairwise_iff_getElem.1 h (i - 1) i a1 a2 (by omega)
theorem law_GroupAlgebra (xs : List Int) (hl0 : xs.length ≤ 9223372036854775807) (hb : ∀ x ∈ xs, 0 ≤ x ∧ x ≤ 255) : zi Go.Proofs.Try.prog 14 [yW u8T xs] [] (B true) [] false := by
  refine zj [2] Go.Proofs.Try.func14 rfl rfl ?_
  simp only [Go.Proofs.Try.ntmps14, List.length_cons, List.length_nil, Nat.reduceAdd, Nat.reduceSub, List.replicate_succ, List.replicate_zero, List.cons_append, List.nil_append]
  repeat' first | refine zN ?_ | refine zA ?_ | refine zR [] ?_ | (refine isA ?_; refine zd rfl ?_) | (refine isL ?_; refine zV rfl (by kernel_rfl) rfl rfl ?_) | (refine zc rfl ?_; refine zU rfl (by kernel_rfl) rfl rfl ?_) | (refine zo 15 ?_; refine zb rfl (zT rfl (mR xs) (.cons (.same rfl) .nil) rfl) rfl ?_) | (refine zp 15 rfl ?_; refine zY rfl (by kernel_rfl) rfl (zT rfl (mR xs) (.cons (.same rfl) .nil) rfl) rfl ?_) | refine zC ?_ | refine zD _ rfl (by kernel_rfl) ?_ | refine zW rfl ?_ | refine zX rfl ?_ | refine zE ?_ | with_reducible refine zM ?_ | refine zJ ?_ | refine zK ?_ | (with_reducible first | refine zO ?_ | refine zP ?_ | refine zG ?_ | refine zI ?_ | refine zH ?_) | refine zQ ?_
  refine zm rfl (fun h => ?_) (fun h => ?_)
  · repeat' first | refine zN ?_ | refine zA ?_ | refine zR [] ?_ | (refine isA ?_; refine zd rfl ?_) | (refine isL ?_; refine zV rfl (by kernel_rfl) rfl rfl ?_) | (refine zc rfl ?_; refine zU rfl (by kernel_rfl) rfl rfl ?_) | exact xN rfl rfl rfl | refine zC ?_ | refine zD _ rfl (by kernel_rfl) ?_ | refine zW rfl ?_ | refine zX rfl ?_ | refine zE ?_ | with_reducible refine zM ?_ | refine zJ ?_ | refine zK ?_ | (with_reducible first | refine zO ?_ | refine zP ?_ | refine zG ?_ | refine zI ?_ | refine zH ?_) | refine zQ ?_
  have hl : xs.length ≤ 1000000000 := by have := of_decide_eq_false h; omega
  have d1 := mM xs hl
  have hll := pH (most := 12) (by decide) (by decide) (y0 xs)
  have hok := mT 12 (y0 xs)
  generalize (y6 12 (y0 xs)).1 = l at d1 hll hok
  have hln : l.length ≤ 13 := by omega
  obtain ⟨k, hk, ck⟩ := c_cut xs l.length hl hb (by omega)
  have g1 := (sV l (by omega)).frozen (xP (n := 0) rfl)
  have g2 := (mD l (by omega)).frozen (xP (n := 0) rfl)
  have ra := (sV (l.take k) (by rw [List.length_take]; omega)).frozen (xP (n := 0) rfl)
  have rb := (sV (l.drop k) (by rw [List.length_drop]; omega)).frozen (xP (n := 0) rfl)
  have la := wv (l.take k)
  have lb := wv (l.drop k)
  rw [List.length_take] at la
  rw [List.length_drop] at lb
  have hsp := qt (l.take k) (l.drop k)
  rw [List.take_append_drop] at hsp
  repeat' first | refine zN ?_ | refine zA ?_ | (refine isA ?_; refine zd rfl ?_) | (refine isL ?_; refine zV rfl (by kernel_rfl) rfl rfl ?_) | (refine zc rfl ?_; refine zU rfl (by kernel_rfl) rfl rfl ?_) | (refine zo 88 ?_; refine zb rfl (zT rfl d1 (.cons (.same rfl) .nil) rfl) rfl ?_) | (refine zp 88 rfl ?_; refine zY rfl (by kernel_rfl) rfl (zT rfl d1 (.cons (.same rfl) .nil) rfl) rfl ?_) | (refine zo 87 (x := #[.tmp 18]) ?_; refine zb rfl (zT rfl g1 (.cons (.same rfl) .nil) rfl) rfl ?_) | (refine zp 87 (x := #[.tmp 18]) rfl ?_; refine zY rfl (by kernel_rfl) rfl (zT rfl g1 (.cons (.same rfl) .nil) rfl) rfl ?_) | (refine zo 89 ?_; refine zb rfl (zT rfl ck (.cons (.same rfl) (.cons (.same rfl) (.cons (.same rfl) .nil))) rfl) rfl ?_) | (refine zp 89 rfl ?_; refine zY rfl (by kernel_rfl) rfl (zT rfl ck (.cons (.same rfl) (.cons (.same rfl) (.cons (.same rfl) .nil))) rfl) rfl ?_) | refine zC ?_ | refine zD _ rfl (by kernel_rfl) ?_ | refine zW rfl ?_ | refine zX rfl ?_ | refine zE ?_ | with_reducible refine zM ?_ | refine zJ ?_ | refine zK ?_ | (with_reducible first | refine zO ?_ | refine zP ?_ | refine zG ?_ | refine zI ?_ | refine zH ?_) | refine zQ ?_
  refine vj 11 (fun _ => True) 12 rfl ?_
  refine yN 1 (Or.inr trivial) rfl rfl (by kernel_rfl) rfl (fun _ => rfl) rfl ?_
  refine yN 2 (Or.inr trivial) rfl rfl (by kernel_rfl) rfl (fun _ => rfl) rfl ?_
  refine yg 3 (Or.inr trivial) rfl rfl (by kernel_rfl) rfl (fun _ => po rfl rfl rfl hk) rfl ?_
  refine yg 4 (Or.inr trivial) rfl rfl (by kernel_rfl) rfl (fun _ => zT rfl (ra) (.cons (.same rfl) .nil) rfl) rfl ?_
  refine yN 6 (Or.inr trivial) rfl rfl (by kernel_rfl) rfl (fun _ => rfl) rfl ?_
  refine yN 7 (Or.inr trivial) rfl rfl (by kernel_rfl) rfl (fun _ => rfl) rfl ?_
  refine yg 8 (Or.inr trivial) rfl rfl (by kernel_rfl) rfl (fun _ => pp rfl rfl rfl rfl hk) rfl ?_
  refine wW 0 (by kernel_rfl) rfl rfl rfl (Or.inr trivial) rfl ?_
  refine vu 5 (by kernel_rfl) rfl rfl (xJ (t := gT) (xs := []) (ys := yr (l.take k)) rfl rfl rfl rfl (.lst _ _) (by simp; omega) rfl) (Or.inr trivial) rfl ?_
  refine yg 9 (Or.inr trivial) rfl rfl (by kernel_rfl) rfl (fun _ => zT rfl (rb) (.cons (.same rfl) .nil) rfl) rfl ?_
  refine vu 10 (by kernel_rfl) rfl rfl (xJ (t := gT) (xs := [] ++ yr (l.take k)) (ys := yr (l.drop k)) rfl rfl rfl rfl (.lst _ _) (by simp; omega) rfl) (Or.inr trivial) rfl ?_
  refine wW 11 (by kernel_rfl) rfl rfl rfl (Or.inl (by kernel_rfl)) rfl ?_
  refine wV (by kernel_rfl) ?_
  have mp := uK ([] ++ yr (l.take k) ++ yr (l.drop k)) (by simp; omega)
  rw [List.nil_append, hsp, ← List.nil_append (yr (l.take k))] at mp
  have hgn := ml (rs := l) (by omega)
  have hga := vf l
  have hgl := wv l
  have hgr := mn hok
  have hgv : avR l = true → ∀ z ∈ yr l, vG z = true := fun hv => by
    simp only [avR, Bool.and_eq_true, List.all_eq_true, decide_eq_true_eq] at hv
    exact qs (by omega) hv.1
  generalize yr l = g at g1 g2 mp hgn hga hgl hgr hgv
  have sm := mE g (by omega)
  have f1 := lF g (by omega) hgr
  have f2 := lC g (by omega) hgr
  generalize nQ g = fs at f1 f2
  repeat' first | refine zN ?_ | refine zA ?_ | refine zR [] ?_ | (refine isA ?_; refine zd rfl ?_) | (refine isL ?_; refine zV rfl (by kernel_rfl) rfl rfl ?_) | (refine zc rfl ?_; refine zU rfl (by kernel_rfl) rfl rfl ?_) | (refine zo 86 ?_; refine zb rfl (zT rfl g2 (.cons (.same rfl) .nil) rfl) rfl ?_) | (refine zp 86 rfl ?_; refine zY rfl (by kernel_rfl) rfl (zT rfl g2 (.cons (.same rfl) .nil) rfl) rfl ?_) | (refine zo 90 ?_; refine zb rfl (zT rfl sm (.cons (.same rfl) (.cons (.same rfl) .nil)) rfl) rfl ?_) | (refine zp 90 rfl ?_; refine zY rfl (by kernel_rfl) rfl (zT rfl sm (.cons (.same rfl) (.cons (.same rfl) .nil)) rfl) rfl ?_) | (refine zo 90 ?_; refine zb rfl (zT rfl sm (.cons (xP (n := 0) rfl) (.cons (.same rfl) .nil)) rfl) rfl ?_) | (refine zp 90 rfl ?_; refine zY rfl (by kernel_rfl) rfl (zT rfl sm (.cons (xP (n := 0) rfl) (.cons (.same rfl) .nil)) rfl) rfl ?_) | (refine zo 82 ?_; refine zb rfl (yH rfl mp (.cons (xP (n := 0) rfl) .nil) (fun q hq => by simp at hq; subst hq; exact zg _ _) rfl rfl) rfl ?_) | (refine zp 82 rfl ?_; refine zY rfl (by kernel_rfl) rfl (yH rfl mp (.cons (xP (n := 0) rfl) .nil) (fun q hq => by simp at hq; subst hq; exact zg _ _) rfl rfl) rfl ?_) | (refine zo 91 ?_; refine zb rfl (zT rfl f1 (.cons (.same rfl) .nil) rfl) rfl ?_) | (refine zp 91 rfl ?_; refine zY rfl (by kernel_rfl) rfl (zT rfl f1 (.cons (.same rfl) .nil) rfl) rfl ?_) | (refine zo 92 ?_; refine zb rfl (zT rfl f2 (.cons (.same rfl) .nil) rfl) rfl ?_) | (refine zp 92 rfl ?_; refine zY rfl (by kernel_rfl) rfl (zT rfl f2 (.cons (.same rfl) .nil) rfl) rfl ?_) | exact kH hbr | refine zC ?_ | refine zD _ rfl (by kernel_rfl) ?_ | refine zW rfl ?_ | refine zX rfl ?_ | refine zE ?_ | with_reducible refine zM ?_ | refine zJ ?_ | refine zK ?_ | (with_reducible first | refine zO ?_ | refine zP ?_ | refine zG ?_ | refine zI ?_ | refine zH ?_) | refine zQ ?_ | (refine pA ?_; refine uF rfl rfl (fun hbr => ?_) (fun hbr => ?_) <;> (fail_if_success (with_reducible (have hx : true = true := hbr))) <;> (fail_if_success (with_reducible (have hx : false = false := hbr)))) | (refine zc rfl ?_; refine xa rfl rfl rfl rfl (fun hbr => ?_) (fun hbr => ?_) <;> (fail_if_success (with_reducible (have hx : true = true := hbr))) <;> (fail_if_success (with_reducible (have hx : false = false := hbr))))
  refine zm rfl (fun g0 => ?_) (fun g0 => ?_)
  · exact kH g0
  repeat' first | refine zN ?_ | refine zA ?_ | refine zR [] ?_ | (refine isA ?_; refine zd rfl ?_) | (refine isL ?_; refine zV rfl (by kernel_rfl) rfl rfl ?_) | (refine zc rfl ?_; refine zU rfl (by kernel_rfl) rfl rfl ?_) | refine zC ?_ | refine zD _ rfl (by kernel_rfl) ?_ | refine zW rfl ?_ | refine zX rfl ?_ | refine zE ?_ | with_reducible refine zM ?_ | refine zJ ?_ | refine zK ?_ | (with_reducible first | refine zO ?_ | refine zP ?_ | refine zG ?_ | refine zI ?_ | refine zH ?_) | refine zQ ?_
  refine yV (α := { i : Nat // i ≤ g.length }) (fun i => ⟨((yW u8T xs) :: .any :: .any :: (rwL l) :: (gL g) :: .any :: .any :: (I (yX (g.take i.1))) :: (I i.1) :: .any :: .any :: .any :: .any :: .any :: .any :: .any :: .any :: .any :: .any :: .any :: .any :: .any :: .any :: .any :: .any :: .any :: .any :: .any :: .any :: .any :: .any :: .any :: .any :: .any :: .any :: .any :: .any :: .any :: .any :: .any :: .any :: .any :: .any :: .any :: .any :: .any :: .any :: .any :: .any :: .any :: .any :: .any :: .any :: .any :: .any :: .any :: .any :: .any :: .any :: .any :: .any :: .any :: .any :: .any :: .any :: .any :: .any :: .any :: .any :: .any :: .any :: .any :: .any :: .any :: .any :: .any :: .any :: .any :: .any :: .any :: .any :: .any :: .any :: .any :: .any :: .any :: .any :: .any :: .any :: .any :: .any :: .any :: .any :: .any :: .any :: .any :: .any :: .any :: .any :: .any :: .any :: .any :: .any :: .any :: .any :: .any :: .any :: .any :: .any :: .any :: .any :: .any :: .any :: .any :: .any :: .any :: .any :: .any :: .any :: .any :: .any :: .any :: .any :: .any :: .any :: .any :: .any :: .any :: .any :: .any :: .any :: .any :: .any :: .any :: .any :: .any :: .any :: .any :: .any :: .any :: []), [], 0⟩) (fun i => g.length - i.1) ⟨0, Nat.zero_le _⟩ ?_ ?_
  · exact xX [] rfl rfl (by decide) .nil (by repeat' first | exact zn | refine zk ?_ ?_ | exact zy | exact le_refl rfl | exact z8 rfl rfl | exact yB rfl)
  rintro ⟨i, hi⟩
  obtain ⟨u0, u1⟩ := tK hgn.2 i
  repeat' first | refine zN ?_ | refine zA ?_ | refine zR [] ?_ | (refine isA ?_; refine zd rfl ?_) | (refine isL ?_; refine zV rfl (by kernel_rfl) rfl rfl ?_) | (refine zc rfl ?_; refine zU rfl (by kernel_rfl) rfl rfl ?_) | refine zC ?_ | refine zD _ rfl (by kernel_rfl) ?_ | refine zW rfl ?_ | refine zX rfl ?_ | refine zE ?_ | with_reducible refine zM ?_ | refine zJ ?_ | refine zK ?_ | (with_reducible first | refine zO ?_ | refine zP ?_ | refine zG ?_ | refine zI ?_ | refine zH ?_) | refine zQ ?_
  refine zm rfl (fun h1 => ?_) (fun h1 => ?_)
  · have hlt : i < g.length := by simpa using h1
    obtain ⟨z, hz⟩ : ∃ z, g[i]? = some z := ⟨_, List.getElem?_eq_getElem hlt⟩
    obtain ⟨v0, v1⟩ := tK hgn.2 (i + 1)
    have hss := pR hz
    rw [hgn.1] at u1 v1
    have hw : IntKind.i64.wrap (yX (g.take i) + z.n) = yX (g.take (i + 1)) := by rw [IntKind.wrap_i64]; omega
    have ca := kn l (by omega)
    have hvz : avR l = true → vG z = true := fun h => hgv h z (List.mem_of_getElem? hz)
    have cv := kP z
    have hpos : ∀ y, 0 < i → g[i - 1]? = some y → y.k < z.k := fun y h0 hy => kw hga h0 hy hz
    cases hav : avR l with
    | true =>
      rw [hav] at ca
      rw [hvz hav] at cv
      repeat' first | refine zN ?_ | refine zA ?_ | refine zR [] ?_ | (refine isA ?_; refine zd rfl ?_) | (refine isL ?_; refine zV rfl (by kernel_rfl) rfl rfl ?_) | (refine zc rfl ?_; refine zU rfl (by kernel_rfl) rfl rfl ?_) | (refine xH (x := .tmp 61) ?_; refine zb rfl (yR (t := gT) (z := z) rfl rfl rfl rfl (Int.natCast_nonneg i) hz) rfl ?_) | (refine xG (x := .tmp 61) rfl ?_; refine zY rfl (by kernel_rfl) rfl (yR (t := gT) (z := z) rfl rfl rfl rfl (Int.natCast_nonneg i) hz) rfl ?_) | (refine xH (x := .tmp 70) ?_; refine zb rfl (yR (t := gT) (z := z) rfl rfl rfl rfl (Int.natCast_nonneg i) hz) rfl ?_) | (refine xG (x := .tmp 70) rfl ?_; refine zY rfl (by kernel_rfl) rfl (yR (t := gT) (z := z) rfl rfl rfl rfl (Int.natCast_nonneg i) hz) rfl ?_) | (refine zo 93 ?_; refine zb rfl (zT rfl ca (.cons (.same rfl) .nil) rfl) rfl ?_) | (refine zp 93 rfl ?_; refine zY rfl (by kernel_rfl) rfl (zT rfl ca (.cons (.same rfl) .nil) rfl) rfl ?_) | (refine zo 94 ?_; refine zb rfl (zT rfl cv (.cons (.same rfl) .nil) rfl) rfl ?_) | (refine zp 94 rfl ?_; refine zY rfl (by kernel_rfl) rfl (zT rfl cv (.cons (.same rfl) .nil) rfl) rfl ?_) | refine zC ?_ | refine zD _ rfl (by kernel_rfl) ?_ | refine zW rfl ?_ | refine zX rfl ?_ | refine zE ?_ | with_reducible refine zM ?_ | refine zJ ?_ | refine zK ?_ | (with_reducible first | refine zO ?_ | refine zP ?_ | refine zG ?_ | refine zI ?_ | refine zH ?_) | refine zQ ?_
      refine xa rfl rfl rfl rfl (fun p1 => ?_) (fun p1 => ?_)
      · have q1 : 0 < i := by have := of_decide_eq_true p1; simp only at this; omega
        obtain ⟨y, hy⟩ : ∃ y, g[i - 1]? = some y := ⟨_, List.getElem?_eq_getElem (by omega)⟩
        have hyz := hpos y q1 hy
        have ew : IntKind.i64.wrap ((i : Int) - 1) = ((i - 1 : Nat) : Int) := by rw [IntKind.wrap_i64]; omega
        repeat' first | refine zN ?_ | refine zA ?_ | refine zR [] ?_ | (refine isA ?_; refine zd rfl ?_) | (refine isL ?_; refine zV rfl (by kernel_rfl) rfl rfl ?_) | (refine zc rfl ?_; refine zU rfl (by kernel_rfl) rfl rfl ?_) | (refine xH (x := .tmp 87) ?_; refine zb rfl (yR (t := gT) (z := z) rfl rfl rfl rfl (Int.natCast_nonneg i) hz) rfl ?_) | (refine xG (x := .tmp 87) rfl ?_; refine zY rfl (by kernel_rfl) rfl (yR (t := gT) (z := z) rfl rfl rfl rfl (Int.natCast_nonneg i) hz) rfl ?_) | (refine xH (x := .tmp 81) ?_; refine zb rfl (yR (t := gT) (z := y) (j := ((i - 1 : Nat) : Int)) rfl rfl rfl (congrArg (fun n => V.k (.int .i64 n)) ew) (Int.natCast_nonneg _) hy) rfl ?_) | (refine xG (x := .tmp 81) rfl ?_; refine zY rfl (by kernel_rfl) rfl (yR (t := gT) (z := y) (j := ((i - 1 : Nat) : Int)) rfl rfl rfl (congrArg (fun n => V.k (.int .i64 n)) ew) (Int.natCast_nonneg _) hy) rfl ?_) | refine zC ?_ | refine zD _ rfl (by kernel_rfl) ?_ | refine zW rfl ?_ | refine zX rfl ?_ | refine zE ?_ | with_reducible refine zM ?_ | refine zJ ?_ | refine zK ?_ | (with_reducible first | refine zO ?_ | refine zP ?_ | refine zG ?_ | refine zI ?_ | refine zH ?_) | refine zQ ?_
        refine zm rfl (fun p2 => absurd (of_decide_eq_true p2) (by omega)) (fun p2 => ?_)
        repeat' first | refine zN ?_ | refine zA ?_ | refine zR [] ?_ | (refine isA ?_; refine zd rfl ?_) | (refine isL ?_; refine zV rfl (by kernel_rfl) rfl rfl ?_) | (refine zc rfl ?_; refine zU rfl (by kernel_rfl) rfl rfl ?_) | refine zC ?_ | refine zD _ rfl (by kernel_rfl) ?_ | refine zW rfl ?_ | refine zX rfl ?_ | refine zE ?_ | with_reducible refine zM ?_ | refine zJ ?_ | refine zK ?_ | (with_reducible first | refine zO ?_ | refine zP ?_ | refine zG ?_ | refine zI ?_ | refine zH ?_) | refine zQ ?_
        refine ⟨⟨i + 1, hlt⟩, by simp only; omega, ?_⟩
        exact xX [] rfl rfl (by decide) .nil (by repeat' first | exact zn | refine zk ?_ ?_ | exact zy | exact le_refl rfl | exact vc (congrArg _ hw.symm) | exact wL (by omega) (by omega))
      · repeat' first | refine zN ?_ | refine zA ?_ | refine zR [] ?_ | (refine isA ?_; refine zd rfl ?_) | (refine isL ?_; refine zV rfl (by kernel_rfl) rfl rfl ?_) | (refine zc rfl ?_; refine zU rfl (by kernel_rfl) rfl rfl ?_) | refine zC ?_ | refine zD _ rfl (by kernel_rfl) ?_ | refine zW rfl ?_ | refine zX rfl ?_ | refine zE ?_ | with_reducible refine zM ?_ | refine zJ ?_ | refine zK ?_ | (with_reducible first | refine zO ?_ | refine zP ?_ | refine zG ?_ | refine zI ?_ | refine zH ?_) | refine zQ ?_
        refine ⟨⟨i + 1, hlt⟩, by simp only; omega, ?_⟩
        exact xX [] rfl rfl (by decide) .nil (by repeat' first | exact zn | refine zk ?_ ?_ | exact zy | exact le_refl rfl | exact vc (congrArg _ hw.symm) | exact wL (by omega) (by omega))
    | false =>
      rw [hav] at ca
      repeat' first | refine zN ?_ | refine zA ?_ | refine zR [] ?_ | (refine isA ?_; refine zd rfl ?_) | (refine isL ?_; refine zV rfl (by kernel_rfl) rfl rfl ?_) | (refine zc rfl ?_; refine zU rfl (by kernel_rfl) rfl rfl ?_) | (refine xH (x := .tmp 61) ?_; refine zb rfl (yR (t := gT) (z := z) rfl rfl rfl rfl (Int.natCast_nonneg i) hz) rfl ?_) | (refine xG (x := .tmp 61) rfl ?_; refine zY rfl (by kernel_rfl) rfl (yR (t := gT) (z := z) rfl rfl rfl rfl (Int.natCast_nonneg i) hz) rfl ?_) | (refine zo 93 ?_; refine zb rfl (zT rfl ca (.cons (.same rfl) .nil) rfl) rfl ?_) | (refine zp 93 rfl ?_; refine zY rfl (by kernel_rfl) rfl (zT rfl ca (.cons (.same rfl) .nil) rfl) rfl ?_) | refine zC ?_ | refine zD _ rfl (by kernel_rfl) ?_ | refine zW rfl ?_ | refine zX rfl ?_ | refine zE ?_ | with_reducible refine zM ?_ | refine zJ ?_ | refine zK ?_ | (with_reducible first | refine zO ?_ | refine zP ?_ | refine zG ?_ | refine zI ?_ | refine zH ?_) | refine zQ ?_
      refine xa rfl rfl rfl rfl (fun p1 => ?_) (fun p1 => ?_)
      · have q1 : 0 < i := by have := of_decide_eq_true p1; simp only at this; omega
        obtain ⟨y, hy⟩ : ∃ y, g[i - 1]? = some y := ⟨_, List.getElem?_eq_getElem (by omega)⟩
        have hyz := hpos y q1 hy
        have ew : IntKind.i64.wrap ((i : Int) - 1) = ((i - 1 : Nat) : Int) := by rw [IntKind.wrap_i64]; omega
        repeat' first | refine zN ?_ | refine zA ?_ | refine zR [] ?_ | (refine isA ?_; refine zd rfl ?_) | (refine isL ?_; refine zV rfl (by kernel_rfl) rfl rfl ?_) | (refine zc rfl ?_; refine zU rfl (by kernel_rfl) rfl rfl ?_) | (refine xH (x := .tmp 87) ?_; refine zb rfl (yR (t := gT) (z := z) rfl rfl rfl rfl (Int.natCast_nonneg i) hz) rfl ?_) | (refine xG (x := .tmp 87) rfl ?_; refine zY rfl (by kernel_rfl) rfl (yR (t := gT) (z := z) rfl rfl rfl rfl (Int.natCast_nonneg i) hz) rfl ?_) | (refine xH (x := .tmp 81) ?_; refine zb rfl (yR (t := gT) (z := y) (j := ((i - 1 : Nat) : Int)) rfl rfl rfl (congrArg (fun n => V.k (.int .i64 n)) ew) (Int.natCast_nonneg _) hy) rfl ?_) | (refine xG (x := .tmp 81) rfl ?_; refine zY rfl (by kernel_rfl) rfl (yR (t := gT) (z := y) (j := ((i - 1 : Nat) : Int)) rfl rfl rfl (congrArg (fun n => V.k (.int .i64 n)) ew) (Int.natCast_nonneg _) hy) rfl ?_) | refine zC ?_ | refine zD _ rfl (by kernel_rfl) ?_ | refine zW rfl ?_ | refine zX rfl ?_ | refine zE ?_ | with_reducible refine zM ?_ | refine zJ ?_ | refine zK ?_ | (with_reducible first | refine zO ?_ | refine zP ?_ | refine zG ?_ | refine zI ?_ | refine zH ?_) | refine zQ ?_
        refine zm rfl (fun p2 => absurd (of_decide_eq_true p2) (by omega)) (fun p2 => ?_)
        repeat' first | refine zN ?_ | refine zA ?_ | refine zR [] ?_ | (refine isA ?_; refine zd rfl ?_) | (refine isL ?_; refine zV rfl (by kernel_rfl) rfl rfl ?_) | (refine zc rfl ?_; refine zU rfl (by kernel_rfl) rfl rfl ?_) | refine zC ?_ | refine zD _ rfl (by kernel_rfl) ?_ | refine zW rfl ?_ | refine zX rfl ?_ | refine zE ?_ | with_reducible refine zM ?_ | refine zJ ?_ | refine zK ?_ | (with_reducible first | refine zO ?_ | refine zP ?_ | refine zG ?_ | refine zI ?_ | refine zH ?_) | refine zQ ?_
        refine ⟨⟨i + 1, hlt⟩, by simp only; omega, ?_⟩
        exact xX [] rfl rfl (by decide) .nil (by repeat' first | exact zn | refine zk ?_ ?_ | exact zy | exact le_refl rfl | exact vc (congrArg _ hw.symm) | exact wL (by omega) (by omega))
      · repeat' first | refine zN ?_ | refine zA ?_ | refine zR [] ?_ | (refine isA ?_; refine zd rfl ?_) | (refine isL ?_; refine zV rfl (by kernel_rfl) rfl rfl ?_) | (refine zc rfl ?_; refine zU rfl (by kernel_rfl) rfl rfl ?_) | refine zC ?_ | refine zD _ rfl (by kernel_rfl) ?_ | refine zW rfl ?_ | refine zX rfl ?_ | refine zE ?_ | with_reducible refine zM ?_ | refine zJ ?_ | refine zK ?_ | (with_reducible first | refine zO ?_ | refine zP ?_ | refine zG ?_ | refine zI ?_ | refine zH ?_) | refine zQ ?_
        refine ⟨⟨i + 1, hlt⟩, by simp only; omega, ?_⟩
        exact xX [] rfl rfl (by decide) .nil (by repeat' first | exact zn | refine zk ?_ ?_ | exact zy | exact le_refl rfl | exact vc (congrArg _ hw.symm) | exact wL (by omega) (by omega))
  have hge : i = g.length := by
    have : ¬ ((i : Int) < g.length) := by simpa using h1
    omega
  subst hge
  have d2 := mQ xs hl
  generalize (wK (y0 xs)).1 = x at d2
  generalize (wK (wK (y0 xs)).2).1 = y at d2
  have d3 := mO xs hl
  generalize (wK (y0 xs)).1 = o at d3
  have d4 := mN xs hl
  have hml := pC (y0 xs)
  generalize (wM (y0 xs)).1 = mg at d4 hml
  have d5 := mP xs hl
  generalize (xn (y0 xs)).1 = r at d5
  have m1 := (uK mg (by omega)).frozen (xP (n := 0) rfl)
  have m2 := (tx mg (by omega)).frozen (xP (n := 0) rfl)
  have hm1 := sq mg
  rw [← xR] at m2
  have m3 := mE (ux mg) (by omega)
  generalize ux mg = mm at m1 m2 m3
  have hn : decide (yX (g.take g.length) = (l.length : Int)) = true := decide_eq_true (by rw [List.take_length]; exact hgn.1)
  repeat' first | refine zN ?_ | refine zA ?_ | (refine isA ?_; refine zd rfl ?_) | (refine isL ?_; refine zV rfl (by kernel_rfl) rfl rfl ?_) | (refine zc rfl ?_; refine zU rfl (by kernel_rfl) rfl rfl ?_) | (refine zo 95 ?_; refine zb rfl (zT rfl d2 (.cons (.same rfl) .nil) rfl) rfl ?_) | (refine zp 95 rfl ?_; refine zY rfl (by kernel_rfl) rfl (zT rfl d2 (.cons (.same rfl) .nil) rfl) rfl ?_) | (refine zo 96 ?_; refine zb rfl (zT rfl d3 (.cons (.same rfl) .nil) rfl) rfl ?_) | (refine zp 96 rfl ?_; refine zY rfl (by kernel_rfl) rfl (zT rfl d3 (.cons (.same rfl) .nil) rfl) rfl ?_) | (refine zo 97 ?_; refine zb rfl (zT rfl d4 (.cons (.same rfl) .nil) rfl) rfl ?_) | (refine zp 97 rfl ?_; refine zY rfl (by kernel_rfl) rfl (zT rfl d4 (.cons (.same rfl) .nil) rfl) rfl ?_) | (refine zo 98 ?_; refine zb rfl (zT rfl d5 (.cons (.same rfl) .nil) rfl) rfl ?_) | (refine zp 98 rfl ?_; refine zY rfl (by kernel_rfl) rfl (zT rfl d5 (.cons (.same rfl) .nil) rfl) rfl ?_) | refine zC ?_ | refine zD _ rfl (by kernel_rfl) ?_ | refine zW rfl ?_ | refine zX rfl ?_ | refine zE ?_ | with_reducible refine zM ?_ | refine zJ ?_ | refine zK ?_ | (with_reducible first | refine zO ?_ | refine zP ?_ | refine zG ?_ | refine zI ?_ | refine zH ?_) | refine zQ ?_
  refine vj 34 (fun H => H[0]? = some (bxG x) ∧ H[1]? = some (bxG y) ∧ H[2]? = some (bxG o) ∧ H[3]? = some (bxW r)) 35 rfl ?_
  refine yN 0 (Or.inr ⟨rfl, rfl, rfl, rfl⟩) rfl rfl (by kernel_rfl) rfl (fun _ => rfl) rfl ?_
  refine yN 1 (Or.inr ⟨rfl, rfl, rfl, rfl⟩) rfl rfl (by kernel_rfl) rfl (fun _ => rfl) rfl ?_
  refine yN 2 (Or.inr ⟨rfl, rfl, rfl, rfl⟩) rfl rfl (by kernel_rfl) rfl (fun _ => rfl) rfl ?_
  refine yN 3 (v := B true) (Or.inr ⟨rfl, rfl, rfl, rfl⟩) rfl rfl (by kernel_rfl) rfl (fun H => congrArg (fun b => some (B b, H)) hn) rfl ?_
  refine yN 4 (Or.inr ⟨rfl, rfl, rfl, rfl⟩) rfl rfl (by kernel_rfl) rfl (fun _ => rfl) rfl ?_
  refine wJ 5 ⟨rfl, rfl, rfl, rfl⟩ (by kernel_rfl) rfl (by kernel_rfl) rfl (fun _ hG => ww rfl rfl hG.1 rfl rfl rfl) rfl ?_
  refine wJ 6 ⟨rfl, rfl, rfl, rfl⟩ (by kernel_rfl) rfl (by kernel_rfl) rfl (fun _ hG => ww rfl rfl hG.2.1 rfl rfl rfl) rfl ?_
  refine yg 7 (Or.inr ⟨rfl, rfl, rfl, rfl⟩) rfl rfl (by kernel_rfl) rfl (fun _ => zT rfl (tH x y) (.cons (.same rfl) (.cons (.same rfl) .nil)) rfl) rfl ?_
  refine wJ 8 ⟨rfl, rfl, rfl, rfl⟩ (by kernel_rfl) rfl (by kernel_rfl) rfl (fun _ hG => ww rfl rfl hG.1 rfl rfl rfl) rfl ?_
  refine wJ 9 ⟨rfl, rfl, rfl, rfl⟩ (by kernel_rfl) rfl (by kernel_rfl) rfl (fun _ hG => ww rfl rfl hG.2.1 rfl rfl rfl) rfl ?_
  refine yg 10 (Or.inr ⟨rfl, rfl, rfl, rfl⟩) rfl rfl (by kernel_rfl) rfl (fun _ => zT rfl (w5 x y) (.cons (.same rfl) (.cons (.same rfl) .nil)) rfl) rfl ?_
  refine yg 11 (Or.inr ⟨rfl, rfl, rfl, rfl⟩) rfl rfl (by kernel_rfl) rfl (fun _ => eqlG (z6 x y) rfl rfl rfl) rfl ?_
  refine yN 12 (Or.inr ⟨rfl, rfl, rfl, rfl⟩) rfl rfl (by kernel_rfl) rfl (fun _ => rfl) rfl ?_
  refine yN 13 (Or.inr ⟨rfl, rfl, rfl, rfl⟩) rfl rfl (by kernel_rfl) rfl (fun _ => rfl) rfl ?_
  refine wJ 14 ⟨rfl, rfl, rfl, rfl⟩ (by kernel_rfl) rfl (by kernel_rfl) rfl (fun _ hG => ww rfl rfl hG.2.2.1 rfl rfl rfl) rfl ?_
  refine yg 15 (Or.inr ⟨rfl, rfl, rfl, rfl⟩) rfl rfl (by kernel_rfl) rfl (fun _ => zT rfl (kP o) (.cons (.same rfl) .nil) rfl) rfl ?_
  refine wJ 16 ⟨rfl, rfl, rfl, rfl⟩ (by kernel_rfl) rfl (by kernel_rfl) rfl (fun _ hG => ww rfl rfl hG.2.2.1 rfl rfl rfl) rfl ?_
  refine yg 17 (Or.inr ⟨rfl, rfl, rfl, rfl⟩) rfl rfl (by kernel_rfl) rfl (fun _ => zT rfl (c_svG o) (.cons (.same rfl) .nil) rfl) rfl ?_
  refine yg 18 (Or.inr ⟨rfl, rfl, rfl, rfl⟩) rfl rfl (by kernel_rfl) rfl (fun _ => sH rfl rfl rfl (by kernel_rfl)) rfl ?_
  refine yN 19 (Or.inr ⟨rfl, rfl, rfl, rfl⟩) rfl rfl (by kernel_rfl) rfl (fun _ => rfl) rfl ?_
  refine yN 20 (Or.inr ⟨rfl, rfl, rfl, rfl⟩) rfl rfl (by kernel_rfl) rfl (fun _ => rfl) rfl ?_
  refine yN 21 (Or.inr ⟨rfl, rfl, rfl, rfl⟩) rfl rfl (by kernel_rfl) rfl (fun _ => rfl) rfl ?_
  refine yg 22 (Or.inr ⟨rfl, rfl, rfl, rfl⟩) rfl rfl (by kernel_rfl) rfl (fun _ => zT rfl (m1) (.cons (.same rfl) .nil) rfl) rfl ?_
  refine yN 23 (Or.inr ⟨rfl, rfl, rfl, rfl⟩) rfl rfl (by kernel_rfl) rfl (fun _ => rfl) rfl ?_
  refine yg 24 (Or.inr ⟨rfl, rfl, rfl, rfl⟩) rfl rfl (by kernel_rfl) rfl (fun _ => zT rfl (m2) (.cons (.same rfl) .nil) rfl) rfl ?_
  refine yg 25 (Or.inr ⟨rfl, rfl, rfl, rfl⟩) rfl rfl (by kernel_rfl) rfl (fun _ => zT rfl (m3) (.cons (.same rfl) (.cons (.same rfl) .nil)) rfl) rfl ?_
  refine yN 26 (Or.inr ⟨rfl, rfl, rfl, rfl⟩) rfl rfl (by kernel_rfl) rfl (fun _ => rfl) rfl ?_
  refine yN 27 (Or.inr ⟨rfl, rfl, rfl, rfl⟩) rfl rfl (by kernel_rfl) rfl (fun _ => rfl) rfl ?_
  refine wJ 28 ⟨rfl, rfl, rfl, rfl⟩ (by kernel_rfl) rfl (by kernel_rfl) rfl (fun _ hG => ww rfl rfl hG.2.2.2 rfl rfl rfl) rfl ?_
  refine yg 29 (Or.inr ⟨rfl, rfl, rfl, rfl⟩) rfl rfl (by kernel_rfl) rfl (fun _ => zT rfl (tG r) (.cons (.same rfl) .nil) rfl) rfl ?_
  refine wJ 30 ⟨rfl, rfl, rfl, rfl⟩ (by kernel_rfl) rfl (by kernel_rfl) rfl (fun _ hG => ww rfl rfl hG.2.2.2 rfl rfl rfl) rfl ?_
  refine yg 31 (Or.inr ⟨rfl, rfl, rfl, rfl⟩) rfl rfl (by kernel_rfl) rfl (fun _ => zT rfl (x4 r) (.cons (.same rfl) .nil) rfl) rfl ?_
  refine yg 32 (Or.inr ⟨rfl, rfl, rfl, rfl⟩) rfl rfl (by kernel_rfl) rfl (fun _ => eqlG (ofR r) rfl rfl rfl) rfl ?_
  refine yN 33 (Or.inr ⟨rfl, rfl, rfl, rfl⟩) rfl rfl (by kernel_rfl) rfl (fun _ => rfl) rfl ?_
  refine wW 34 (by kernel_rfl) rfl rfl rfl (Or.inl (by kernel_rfl)) rfl ?_
  refine wV (by kernel_rfl) ?_
  repeat' first | refine zN ?_ | refine zA ?_ | refine zR [] ?_ | (refine isA ?_; refine zd rfl ?_) | (refine isL ?_; refine zV rfl (by kernel_rfl) rfl rfl ?_) | (refine zc rfl ?_; refine zU rfl (by kernel_rfl) rfl rfl ?_) | exact xN rfl rfl rfl | refine zC ?_ | refine zD _ rfl (by kernel_rfl) ?_ | refine zW rfl ?_ | refine zX rfl ?_ | refine zE ?_ | with_reducible refine zM ?_ | refine zJ ?_ | refine zK ?_ | (with_reducible first | refine zO ?_ | refine zP ?_ | refine zG ?_ | refine zI ?_ | refine zH ?_) | refine zQ ?_
end Go.Proofs.Ytkcicbigpbdjpaa.Ab.Gq
namespace Go.Proofs.Ytkcicbigpbdjpaa.Ab
open Go.RowKit
section
variable {A : Nat → Prop} {W : World}
theorem pJ {a : Option Addr} {len cap : Nat} {e : V} (h2 : zZ A W [] [e] (fun i => (Value.slice a len cap).cells.toList[i]?)) : Rel A W [] e (.slice a len cap) := by
  obtain ⟨y, h3, h4⟩ := zz h2 (i := 0) (c := e) rfl
  have : y = .slice a len cap := by simpa [Value.cells] using h3.symm
  subst this
  exact h4
end
section
variable {P : Program} {β : Type} {off tot : Nat} {f : Field} {fs : List Field} {eb : β → List V} {okb : β → Prop}
end
section
variable {A : Nat → Prop} {W : World}
end
end Go.Proofs.Ytkcicbigpbdjpaa.Ab
namespace Go.Proofs.Ytkcicbigpbdjpaa.Ab
open Go.RowKit
theorem o_u8 : qd Go.Proofs.Try.prog 22 (fun l : List Int => [yW u8T l]) (okL (okI .u8)) := tb Go.Proofs.Try.underlying22 (by kernel_rfl) (qw Go.Proofs.Try.underlying5)
end Go.Proofs.Ytkcicbigpbdjpaa.Ab
namespace Go.Proofs.Ytkcicbigpbdjpaa.Ab
open Go.RowKit
theorem okU8 {x : Int} (h : okI .u8 x) : 0 ≤ x ∧ x ≤ 255 := by
  simp [okI, Lit.wf] at h
  exact ⟨h.1, h.2⟩
end Go.Proofs.Ytkcicbigpbdjpaa.Ab
