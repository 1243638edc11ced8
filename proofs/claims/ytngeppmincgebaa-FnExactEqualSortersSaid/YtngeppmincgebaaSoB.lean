/-
  EqualSorters: both sides; the law.
-/
import Derived.Test.YtngeppmincgebaaSoA
namespace Go.Proofs.Ytngeppmincgebaa.Ab
open Go.RowKit
set_option linter.unusedVariables false
set_option linter.unusedSimpArgs false
set_option maxRecDepth 20000
set_option maxHeartbeats 2000000

def rwI (x : Rw) : List Int := [x.a, x.b, x.c]
def rwD (x y : Rw) : Bool := decide (rwI x = rwI y)
theorem neqRw {o : Oper} {ρ : Operand → V} {H : List Reg} {t' : TypeId} {x y : Operand} {a b : Rw} (ho : o.op = .binOp .neq 75 x y t') (hx : ρ x = .agg (rwE a)) (hy : ρ y = .agg (rwE b)) : Step Go.Proofs.Try.prog o ρ H (B (!rwD a b)) H :=
  step_neqA (us := rwI a) (bs := rwI b) _ (intFs_of Go.Proofs.Try.underlying75 (by kernel_rfl) (by kernel_rfl) (by kernel_rfl)) ho hx hy rfl rfl
theorem rwD_iff {x y : Rw} : rwD x y = true ↔ x = y := by
  cases x; cases y
  simp [rwD, rwI]

def eqLd : List Rw → List Rw → Bool
  | [], [] => true
  | x :: xs, y :: ys => rwD x y && eqLd xs ys
  | _, _ => false
theorem eqLd_iff : ∀ {xs ys : List Rw}, eqLd xs ys = true ↔ xs = ys
  | [], [] => by simp [eqLd]
  | x :: xs, y :: ys => by simp only [eqLd, Bool.and_eq_true, rwD_iff, eqLd_iff, List.cons.injEq]
  | [], y :: ys => by simp [eqLd]
  | x :: xs, [] => by simp [eqLd]
theorem eqLd_len {xs ys : List Rw} (h : xs.length ≠ ys.length) : eqLd xs ys = false := by
  cases he : eqLd xs ys with
  | false => rfl
  | true => exact absurd (congrArg List.length (eqLd_iff.1 he)) h
theorem eqLd_at {xs ys : List Rw} {i : Nat} {x y : Rw} (hx : xs[i]? = some x) (hy : ys[i]? = some y) : eqLd (xs.drop i) (ys.drop i) = (rwD x y && eqLd (xs.drop (i + 1)) (ys.drop (i + 1))) := by
  rw [take_drop1 hx, take_drop1 hy, eqLd]

theorem c_iequal (xs ys : List Rw) (hl : xs.length ≤ 1000000000) : Meets Go.Proofs.Try.prog 92 [rwL xs, rwL ys] [] (B (eqLd xs ys)) [] false := by
  refine meets_of [4] Go.Proofs.Try.func92 rfl rfl ?_
  simp only [Go.Proofs.Try.ntmps92, List.length_cons, List.length_nil, Nat.reduceAdd, Nat.reduceSub, List.replicate_succ, List.replicate_zero, List.cons_append, List.nil_append]
  repeat' first
    | refine aw_seq ?_
    | refine aw_region ?_
    | refine aw_lex [] ?_
    | (refine isA ?_; refine do_F rfl ?_)
    | (refine isL ?_; refine lex_F rfl (by kernel_rfl) rfl rfl ?_)
    | (refine isLg rfl ?_; refine lex_S rfl (by kernel_rfl) rfl rfl ?_)
    | refine aops_nil ?_
    | refine lex_done _ rfl (by kernel_rfl) ?_
    | refine aw_ct rfl ?_
    | refine aw_cf rfl ?_
    | refine aw_block ?_
    | refine then_n ?_
    | refine aw_skip ?_
    | refine aw_exit ?_
    | refine then_x ?_
    | refine then_r ?_
    | refine block_x ?_
    | refine block_n ?_
    | refine block_r ?_
    | refine aw_ret ?_
  refine aw_cond rfl (fun h => ?_) (fun h => ?_)
  · have hne : xs.length ≠ ys.length := by have : ¬ ((xs.length : Int) = ys.length) := (by simpa using h); omega
    repeat' first
      | refine aw_seq ?_
      | refine aw_region ?_
      | refine aw_lex [] ?_
      | (refine isA ?_; refine do_F rfl ?_)
      | (refine isL ?_; refine lex_F rfl (by kernel_rfl) rfl rfl ?_)
      | (refine isLg rfl ?_; refine lex_S rfl (by kernel_rfl) rfl rfl ?_)
      | exact fin1 rfl rfl (by rw [eqLd_len hne])
      | refine aops_nil ?_
      | refine lex_done _ rfl (by kernel_rfl) ?_
      | refine aw_ct rfl ?_
      | refine aw_cf rfl ?_
      | refine aw_block ?_
      | refine then_n ?_
      | refine aw_skip ?_
      | refine aw_exit ?_
      | refine then_x ?_
      | refine then_r ?_
      | refine block_x ?_
      | refine block_n ?_
      | refine block_r ?_
      | refine aw_ret ?_
  have he : xs.length = ys.length := by have : ((xs.length : Int) = ys.length) := (by simpa using h); omega
  repeat' first
    | refine aw_seq ?_
    | refine aw_region ?_
    | refine aw_lex [] ?_
    | (refine isA ?_; refine do_F rfl ?_)
    | (refine isL ?_; refine lex_F rfl (by kernel_rfl) rfl rfl ?_)
    | (refine isLg rfl ?_; refine lex_S rfl (by kernel_rfl) rfl rfl ?_)
    | refine aops_nil ?_
    | refine lex_done _ rfl (by kernel_rfl) ?_
    | refine aw_ct rfl ?_
    | refine aw_cf rfl ?_
    | refine aw_block ?_
    | refine then_n ?_
    | refine aw_skip ?_
    | refine aw_exit ?_
    | refine then_x ?_
    | refine then_r ?_
    | refine block_x ?_
    | refine block_n ?_
    | refine block_r ?_
    | refine aw_ret ?_
  refine aw_loop (α := { i : Nat // i ≤ xs.length ∧ eqLd (xs.drop i) (ys.drop i) = eqLd xs ys }) (fun i => ⟨[rwL xs, rwL ys, .any, .any, .any, .any, .any, .any, .any, .any, .any, .any, I xs.length, I i.1, .any, .any, .any, .any, .any, .any, .any, .any, .any, .any, .any, .any], [], 0⟩) (fun i => xs.length - i.1) ⟨0, Nat.zero_le _, rfl⟩ ?_ ?_
  · exact sub_id rfl (by repeat' first | exact EqS.nil | refine EqS.any ?_ | refine EqS.same rfl ?_)
  · rintro ⟨i, hi, hq⟩
    repeat' first
      | refine aw_seq ?_
      | refine aw_region ?_
      | refine aw_lex [] ?_
      | (refine isA ?_; refine do_F rfl ?_)
      | (refine isL ?_; refine lex_F rfl (by kernel_rfl) rfl rfl ?_)
      | (refine isLg rfl ?_; refine lex_S rfl (by kernel_rfl) rfl rfl ?_)
      | refine aops_nil ?_
      | refine lex_done _ rfl (by kernel_rfl) ?_
      | refine aw_ct rfl ?_
      | refine aw_cf rfl ?_
      | refine aw_block ?_
      | refine then_n ?_
      | refine aw_skip ?_
      | refine aw_exit ?_
      | refine then_x ?_
      | refine then_r ?_
      | refine block_x ?_
      | refine block_n ?_
      | refine block_r ?_
      | refine aw_ret ?_
    refine aw_cond rfl (fun h => ?_) (fun h => ?_)
    · have hlt : i < xs.length := by simpa using h
      obtain ⟨x, hx⟩ : ∃ z, xs[i]? = some z := ⟨_, List.getElem?_eq_getElem hlt⟩
      obtain ⟨y, hy⟩ : ∃ z, ys[i]? = some z := ⟨_, List.getElem?_eq_getElem (by omega)⟩
      rw [eqLd_at hx hy] at hq
      repeat' first
        | refine aw_seq ?_
        | refine aw_region ?_
        | refine aw_lex [] ?_
        | (refine isA ?_; refine do_F rfl ?_)
        | (refine isL ?_; refine lex_F rfl (by kernel_rfl) rfl rfl ?_)
        | (refine isLg rfl ?_; refine lex_S rfl (by kernel_rfl) rfl rfl ?_)
        | (refine isAi (x := .tmp 16) ?_; refine do_R rfl (ia_l (t := rwT) (z := x) rfl rfl rfl rfl (Int.natCast_nonneg i) hx) rfl ?_)
        | (refine isLi (x := .tmp 16) rfl ?_; refine lex_R rfl (by kernel_rfl) rfl (ia_l (t := rwT) (z := x) rfl rfl rfl rfl (Int.natCast_nonneg i) hx) rfl ?_)
        | (refine isAi (x := .tmp 20) ?_; refine do_R rfl (ia_l (t := rwT) (z := y) rfl rfl rfl rfl (Int.natCast_nonneg i) hy) rfl ?_)
        | (refine isLi (x := .tmp 20) rfl ?_; refine lex_R rfl (by kernel_rfl) rfl (ia_l (t := rwT) (z := y) rfl rfl rfl rfl (Int.natCast_nonneg i) hy) rfl ?_)
        | refine do_R rfl (neqRw rfl rfl rfl) rfl ?_
        | refine lex_R rfl (by kernel_rfl) rfl (neqRw rfl rfl rfl) rfl ?_
        | refine aops_nil ?_
        | refine lex_done _ rfl (by kernel_rfl) ?_
        | refine aw_ct rfl ?_
        | refine aw_cf rfl ?_
        | refine aw_block ?_
        | refine then_n ?_
        | refine aw_skip ?_
        | refine aw_exit ?_
        | refine then_x ?_
        | refine then_r ?_
        | refine block_x ?_
        | refine block_n ?_
        | refine block_r ?_
        | refine aw_ret ?_
      refine aw_cond rfl (fun h1 => ?_) (fun h1 => ?_)
      · have h2 : rwD x y = false := by simpa using h1
        rw [h2, Bool.false_and] at hq
        repeat' first
          | refine aw_seq ?_
          | refine aw_region ?_
          | refine aw_lex [] ?_
          | (refine isA ?_; refine do_F rfl ?_)
          | (refine isL ?_; refine lex_F rfl (by kernel_rfl) rfl rfl ?_)
          | (refine isLg rfl ?_; refine lex_S rfl (by kernel_rfl) rfl rfl ?_)
          | exact fin1 rfl rfl (congrArg B hq)
          | refine aops_nil ?_
          | refine lex_done _ rfl (by kernel_rfl) ?_
          | refine aw_ct rfl ?_
          | refine aw_cf rfl ?_
          | refine aw_block ?_
          | refine then_n ?_
          | refine aw_skip ?_
          | refine aw_exit ?_
          | refine then_x ?_
          | refine then_r ?_
          | refine block_x ?_
          | refine block_n ?_
          | refine block_r ?_
          | refine aw_ret ?_
      · have h2 : rwD x y = true := by simpa using h1
        rw [h2, Bool.true_and] at hq
        repeat' first
          | refine aw_seq ?_
          | refine aw_region ?_
          | refine aw_lex [] ?_
          | (refine isA ?_; refine do_F rfl ?_)
          | (refine isL ?_; refine lex_F rfl (by kernel_rfl) rfl rfl ?_)
          | (refine isLg rfl ?_; refine lex_S rfl (by kernel_rfl) rfl rfl ?_)
          | refine aops_nil ?_
          | refine lex_done _ rfl (by kernel_rfl) ?_
          | refine aw_ct rfl ?_
          | refine aw_cf rfl ?_
          | refine aw_block ?_
          | refine then_n ?_
          | refine aw_skip ?_
          | refine aw_exit ?_
          | refine then_x ?_
          | refine then_r ?_
          | refine block_x ?_
          | refine block_n ?_
          | refine block_r ?_
          | refine aw_ret ?_
        refine ⟨⟨i + 1, hlt, hq⟩, by simp only; omega, ?_⟩
        exact sub_id rfl (by repeat' first | exact EqS.nil | refine EqS.any ?_ | refine EqS.same rfl ?_ | refine EqS.same (i_succ (by assumption) (by omega)) ?_)
    · have hge : i = xs.length := by
        have : ¬ ((i : Int) < xs.length) := by simpa using h
        omega
      subst hge
      have hq' : eqLd xs ys = true := by rw [← hq, List.drop_length, he, List.drop_length]; rfl
      repeat' first
        | refine aw_seq ?_
        | refine aw_region ?_
        | refine aw_lex [] ?_
        | (refine isA ?_; refine do_F rfl ?_)
        | (refine isL ?_; refine lex_F rfl (by kernel_rfl) rfl rfl ?_)
        | (refine isLg rfl ?_; refine lex_S rfl (by kernel_rfl) rfl rfl ?_)
        | exact fin1 rfl rfl (by rw [hq'])
        | refine aops_nil ?_
        | refine lex_done _ rfl (by kernel_rfl) ?_
        | refine aw_ct rfl ?_
        | refine aw_cf rfl ?_
        | refine aw_block ?_
        | refine then_n ?_
        | refine aw_skip ?_
        | refine aw_exit ?_
        | refine then_x ?_
        | refine then_r ?_
        | refine block_x ?_
        | refine block_n ?_
        | refine block_r ?_
        | refine aw_ret ?_
theorem c_l6Rows (xs ys : List Rw) (hl : xs.length ≤ 1000000000) : Meets Go.Proofs.Try.prog 90 [rwL xs, rwL ys] [] (B (eqLd xs ys)) [] false := by
  refine meets_of [4] Go.Proofs.Try.func90 rfl rfl ?_
  simp only [Go.Proofs.Try.ntmps90, List.length_cons, List.length_nil, Nat.reduceAdd, Nat.reduceSub, List.replicate_succ, List.replicate_zero, List.cons_append, List.nil_append]
  repeat' first
    | refine aw_seq ?_
    | refine aw_region ?_
    | refine aw_lex [] ?_
    | (refine isA ?_; refine do_F rfl ?_)
    | (refine isL ?_; refine lex_F rfl (by kernel_rfl) rfl rfl ?_)
    | (refine isLg rfl ?_; refine lex_S rfl (by kernel_rfl) rfl rfl ?_)
    | refine aops_nil ?_
    | refine lex_done _ rfl (by kernel_rfl) ?_
    | refine aw_ct rfl ?_
    | refine aw_cf rfl ?_
    | refine aw_block ?_
    | refine then_n ?_
    | refine aw_skip ?_
    | refine aw_exit ?_
    | refine then_x ?_
    | refine then_r ?_
    | refine block_x ?_
    | refine block_n ?_
    | refine block_r ?_
    | refine aw_ret ?_
  refine aw_cond rfl (fun h => ?_) (fun h => ?_)
  · have hne : xs.length ≠ ys.length := by have : ¬ ((xs.length : Int) = ys.length) := (by simpa using h); omega
    repeat' first
      | refine aw_seq ?_
      | refine aw_region ?_
      | refine aw_lex [] ?_
      | (refine isA ?_; refine do_F rfl ?_)
      | (refine isL ?_; refine lex_F rfl (by kernel_rfl) rfl rfl ?_)
      | (refine isLg rfl ?_; refine lex_S rfl (by kernel_rfl) rfl rfl ?_)
      | exact fin1 rfl rfl (by rw [eqLd_len hne])
      | refine aops_nil ?_
      | refine lex_done _ rfl (by kernel_rfl) ?_
      | refine aw_ct rfl ?_
      | refine aw_cf rfl ?_
      | refine aw_block ?_
      | refine then_n ?_
      | refine aw_skip ?_
      | refine aw_exit ?_
      | refine then_x ?_
      | refine then_r ?_
      | refine block_x ?_
      | refine block_n ?_
      | refine block_r ?_
      | refine aw_ret ?_
  have he : xs.length = ys.length := by have : ((xs.length : Int) = ys.length) := (by simpa using h); omega
  repeat' first
    | refine aw_seq ?_
    | refine aw_region ?_
    | refine aw_lex [] ?_
    | (refine isA ?_; refine do_F rfl ?_)
    | (refine isL ?_; refine lex_F rfl (by kernel_rfl) rfl rfl ?_)
    | (refine isLg rfl ?_; refine lex_S rfl (by kernel_rfl) rfl rfl ?_)
    | refine aops_nil ?_
    | refine lex_done _ rfl (by kernel_rfl) ?_
    | refine aw_ct rfl ?_
    | refine aw_cf rfl ?_
    | refine aw_block ?_
    | refine then_n ?_
    | refine aw_skip ?_
    | refine aw_exit ?_
    | refine then_x ?_
    | refine then_r ?_
    | refine block_x ?_
    | refine block_n ?_
    | refine block_r ?_
    | refine aw_ret ?_
  refine aw_loop (α := { i : Nat // i ≤ xs.length ∧ eqLd (xs.drop i) (ys.drop i) = eqLd xs ys }) (fun i => ⟨[rwL xs, rwL ys, .any, .any, .any, I i.1, .any, .any, .any, .any, .any, .any, .any, .any, .any, .any, .any, .any, .any, .any, .any, .any, .any, .any, .any, .any], [], 0⟩) (fun i => xs.length - i.1) ⟨0, Nat.zero_le _, rfl⟩ ?_ ?_
  · exact sub_id rfl (by repeat' first | exact EqS.nil | refine EqS.any ?_ | refine EqS.same rfl ?_)
  · rintro ⟨i, hi, hq⟩
    repeat' first
      | refine aw_seq ?_
      | refine aw_region ?_
      | refine aw_lex [] ?_
      | (refine isA ?_; refine do_F rfl ?_)
      | (refine isL ?_; refine lex_F rfl (by kernel_rfl) rfl rfl ?_)
      | (refine isLg rfl ?_; refine lex_S rfl (by kernel_rfl) rfl rfl ?_)
      | refine aops_nil ?_
      | refine lex_done _ rfl (by kernel_rfl) ?_
      | refine aw_ct rfl ?_
      | refine aw_cf rfl ?_
      | refine aw_block ?_
      | refine then_n ?_
      | refine aw_skip ?_
      | refine aw_exit ?_
      | refine then_x ?_
      | refine then_r ?_
      | refine block_x ?_
      | refine block_n ?_
      | refine block_r ?_
      | refine aw_ret ?_
    refine aw_cond rfl (fun h => ?_) (fun h => ?_)
    · have hlt : i < xs.length := by simpa using h
      obtain ⟨x, hx⟩ : ∃ z, xs[i]? = some z := ⟨_, List.getElem?_eq_getElem hlt⟩
      obtain ⟨y, hy⟩ : ∃ z, ys[i]? = some z := ⟨_, List.getElem?_eq_getElem (by omega)⟩
      rw [eqLd_at hx hy] at hq
      repeat' first
        | refine aw_seq ?_
        | refine aw_region ?_
        | refine aw_lex [] ?_
        | (refine isA ?_; refine do_F rfl ?_)
        | (refine isL ?_; refine lex_F rfl (by kernel_rfl) rfl rfl ?_)
        | (refine isLg rfl ?_; refine lex_S rfl (by kernel_rfl) rfl rfl ?_)
        | (refine isAi (x := .tmp 17) ?_; refine do_R rfl (ia_l (t := rwT) (z := x) rfl rfl rfl rfl (Int.natCast_nonneg i) hx) rfl ?_)
        | (refine isLi (x := .tmp 17) rfl ?_; refine lex_R rfl (by kernel_rfl) rfl (ia_l (t := rwT) (z := x) rfl rfl rfl rfl (Int.natCast_nonneg i) hx) rfl ?_)
        | (refine isAi (x := .tmp 21) ?_; refine do_R rfl (ia_l (t := rwT) (z := y) rfl rfl rfl rfl (Int.natCast_nonneg i) hy) rfl ?_)
        | (refine isLi (x := .tmp 21) rfl ?_; refine lex_R rfl (by kernel_rfl) rfl (ia_l (t := rwT) (z := y) rfl rfl rfl rfl (Int.natCast_nonneg i) hy) rfl ?_)
        | refine do_R rfl (neqRw rfl rfl rfl) rfl ?_
        | refine lex_R rfl (by kernel_rfl) rfl (neqRw rfl rfl rfl) rfl ?_
        | refine aops_nil ?_
        | refine lex_done _ rfl (by kernel_rfl) ?_
        | refine aw_ct rfl ?_
        | refine aw_cf rfl ?_
        | refine aw_block ?_
        | refine then_n ?_
        | refine aw_skip ?_
        | refine aw_exit ?_
        | refine then_x ?_
        | refine then_r ?_
        | refine block_x ?_
        | refine block_n ?_
        | refine block_r ?_
        | refine aw_ret ?_
      refine aw_cond rfl (fun h1 => ?_) (fun h1 => ?_)
      · have h2 : rwD x y = false := by simpa using h1
        rw [h2, Bool.false_and] at hq
        repeat' first
          | refine aw_seq ?_
          | refine aw_region ?_
          | refine aw_lex [] ?_
          | (refine isA ?_; refine do_F rfl ?_)
          | (refine isL ?_; refine lex_F rfl (by kernel_rfl) rfl rfl ?_)
          | (refine isLg rfl ?_; refine lex_S rfl (by kernel_rfl) rfl rfl ?_)
          | exact fin1 rfl rfl (congrArg B hq)
          | refine aops_nil ?_
          | refine lex_done _ rfl (by kernel_rfl) ?_
          | refine aw_ct rfl ?_
          | refine aw_cf rfl ?_
          | refine aw_block ?_
          | refine then_n ?_
          | refine aw_skip ?_
          | refine aw_exit ?_
          | refine then_x ?_
          | refine then_r ?_
          | refine block_x ?_
          | refine block_n ?_
          | refine block_r ?_
          | refine aw_ret ?_
      · have h2 : rwD x y = true := by simpa using h1
        rw [h2, Bool.true_and] at hq
        repeat' first
          | refine aw_seq ?_
          | refine aw_region ?_
          | refine aw_lex [] ?_
          | (refine isA ?_; refine do_F rfl ?_)
          | (refine isL ?_; refine lex_F rfl (by kernel_rfl) rfl rfl ?_)
          | (refine isLg rfl ?_; refine lex_S rfl (by kernel_rfl) rfl rfl ?_)
          | refine aops_nil ?_
          | refine lex_done _ rfl (by kernel_rfl) ?_
          | refine aw_ct rfl ?_
          | refine aw_cf rfl ?_
          | refine aw_block ?_
          | refine then_n ?_
          | refine aw_skip ?_
          | refine aw_exit ?_
          | refine then_x ?_
          | refine then_r ?_
          | refine block_x ?_
          | refine block_n ?_
          | refine block_r ?_
          | refine aw_ret ?_
        refine ⟨⟨i + 1, hlt, hq⟩, by simp only; omega, ?_⟩
        exact sub_id rfl (by repeat' first | exact EqS.nil | refine EqS.any ?_ | refine EqS.same rfl ?_ | refine EqS.same (i_succ (by assumption) (by omega)) ?_)
    · have hge : i = xs.length := by
        have : ¬ ((i : Int) < xs.length) := by simpa using h
        omega
      subst hge
      have hq' : eqLd xs ys = true := by rw [← hq, List.drop_length, he, List.drop_length]; rfl
      repeat' first
        | refine aw_seq ?_
        | refine aw_region ?_
        | refine aw_lex [] ?_
        | (refine isA ?_; refine do_F rfl ?_)
        | (refine isL ?_; refine lex_F rfl (by kernel_rfl) rfl rfl ?_)
        | (refine isLg rfl ?_; refine lex_S rfl (by kernel_rfl) rfl rfl ?_)
        | exact fin1 rfl rfl (by rw [hq'])
        | refine aops_nil ?_
        | refine lex_done _ rfl (by kernel_rfl) ?_
        | refine aw_ct rfl ?_
        | refine aw_cf rfl ?_
        | refine aw_block ?_
        | refine then_n ?_
        | refine aw_skip ?_
        | refine aw_exit ?_
        | refine then_x ?_
        | refine then_r ?_
        | refine block_x ?_
        | refine block_n ?_
        | refine block_r ?_
        | refine aw_ret ?_

def eqRs : List Rn → List Rn → Bool
  | [], [] => true
  | x :: xs, y :: ys => eqLd x y && eqRs xs ys
  | _, _ => false
theorem eqRs_len : ∀ {xs ys : List Rn}, xs.length ≠ ys.length → eqRs xs ys = false
  | [], [], h => absurd rfl h
  | x :: xs, y :: ys, h => by rw [eqRs, eqRs_len (by simpa using h), Bool.and_false]
  | [], y :: ys, _ => rfl
  | x :: xs, [], _ => rfl
theorem eqRs_at {xs ys : List Rn} {i : Nat} {x y : Rn} (hx : xs[i]? = some x) (hy : ys[i]? = some y) : eqRs (xs.drop i) (ys.drop i) = (eqLd x y && eqRs (xs.drop (i + 1)) (ys.drop (i + 1))) := by
  rw [take_drop1 hx, take_drop1 hy, eqRs]
theorem c_sameRuns (xs ys : List Rn) (hok : okRn xs) : Meets Go.Proofs.Try.prog 91 [rnL xs, rnL ys] [] (B (eqRs xs ys)) [] false := by
  have hl := hok.1
  refine meets_of [4] Go.Proofs.Try.func91 rfl rfl ?_
  simp only [Go.Proofs.Try.ntmps91, List.length_cons, List.length_nil, Nat.reduceAdd, Nat.reduceSub, List.replicate_succ, List.replicate_zero, List.cons_append, List.nil_append]
  repeat' first
    | refine aw_seq ?_
    | refine aw_region ?_
    | refine aw_lex [] ?_
    | (refine isA ?_; refine do_F rfl ?_)
    | (refine isL ?_; refine lex_F rfl (by kernel_rfl) rfl rfl ?_)
    | (refine isLg rfl ?_; refine lex_S rfl (by kernel_rfl) rfl rfl ?_)
    | refine aops_nil ?_
    | refine lex_done _ rfl (by kernel_rfl) ?_
    | refine aw_ct rfl ?_
    | refine aw_cf rfl ?_
    | refine aw_block ?_
    | refine then_n ?_
    | refine aw_skip ?_
    | refine aw_exit ?_
    | refine then_x ?_
    | refine then_r ?_
    | refine block_x ?_
    | refine block_n ?_
    | refine block_r ?_
    | refine aw_ret ?_
  refine aw_cond rfl (fun h => ?_) (fun h => ?_)
  · have hne : xs.length ≠ ys.length := by have : ¬ ((xs.length : Int) = ys.length) := (by simpa using h); omega
    repeat' first
      | refine aw_seq ?_
      | refine aw_region ?_
      | refine aw_lex [] ?_
      | (refine isA ?_; refine do_F rfl ?_)
      | (refine isL ?_; refine lex_F rfl (by kernel_rfl) rfl rfl ?_)
      | (refine isLg rfl ?_; refine lex_S rfl (by kernel_rfl) rfl rfl ?_)
      | exact fin1 rfl rfl (by rw [eqRs_len hne])
      | refine aops_nil ?_
      | refine lex_done _ rfl (by kernel_rfl) ?_
      | refine aw_ct rfl ?_
      | refine aw_cf rfl ?_
      | refine aw_block ?_
      | refine then_n ?_
      | refine aw_skip ?_
      | refine aw_exit ?_
      | refine then_x ?_
      | refine then_r ?_
      | refine block_x ?_
      | refine block_n ?_
      | refine block_r ?_
      | refine aw_ret ?_
  have he : xs.length = ys.length := by have : ((xs.length : Int) = ys.length) := (by simpa using h); omega
  repeat' first
    | refine aw_seq ?_
    | refine aw_region ?_
    | refine aw_lex [] ?_
    | (refine isA ?_; refine do_F rfl ?_)
    | (refine isL ?_; refine lex_F rfl (by kernel_rfl) rfl rfl ?_)
    | (refine isLg rfl ?_; refine lex_S rfl (by kernel_rfl) rfl rfl ?_)
    | refine aops_nil ?_
    | refine lex_done _ rfl (by kernel_rfl) ?_
    | refine aw_ct rfl ?_
    | refine aw_cf rfl ?_
    | refine aw_block ?_
    | refine then_n ?_
    | refine aw_skip ?_
    | refine aw_exit ?_
    | refine then_x ?_
    | refine then_r ?_
    | refine block_x ?_
    | refine block_n ?_
    | refine block_r ?_
    | refine aw_ret ?_
  refine aw_loop (α := { i : Nat // i ≤ xs.length ∧ eqRs (xs.drop i) (ys.drop i) = eqRs xs ys }) (fun i => ⟨[rnL xs, rnL ys, .any, .any, .any, I i.1, .any, .any, .any, .any, .any, .any, .any, .any, .any, .any, .any, .any, .any, .any, .any, .any, .any, .any, .any, .any, .any, .any, .any], [], 0⟩) (fun i => xs.length - i.1) ⟨0, Nat.zero_le _, rfl⟩ ?_ ?_
  · exact sub_id rfl (by repeat' first | exact EqS.nil | refine EqS.any ?_ | refine EqS.same rfl ?_)
  · rintro ⟨i, hi, hq⟩
    repeat' first
      | refine aw_seq ?_
      | refine aw_region ?_
      | refine aw_lex [] ?_
      | (refine isA ?_; refine do_F rfl ?_)
      | (refine isL ?_; refine lex_F rfl (by kernel_rfl) rfl rfl ?_)
      | (refine isLg rfl ?_; refine lex_S rfl (by kernel_rfl) rfl rfl ?_)
      | refine aops_nil ?_
      | refine lex_done _ rfl (by kernel_rfl) ?_
      | refine aw_ct rfl ?_
      | refine aw_cf rfl ?_
      | refine aw_block ?_
      | refine then_n ?_
      | refine aw_skip ?_
      | refine aw_exit ?_
      | refine then_x ?_
      | refine then_r ?_
      | refine block_x ?_
      | refine block_n ?_
      | refine block_r ?_
      | refine aw_ret ?_
    refine aw_cond rfl (fun h => ?_) (fun h => ?_)
    · have hlt : i < xs.length := by simpa using h
      obtain ⟨x, hx⟩ : ∃ z, xs[i]? = some z := ⟨_, List.getElem?_eq_getElem hlt⟩
      obtain ⟨y, hy⟩ : ∃ z, ys[i]? = some z := ⟨_, List.getElem?_eq_getElem (by omega)⟩
      rw [eqRs_at hx hy] at hq
      repeat' first
        | refine aw_seq ?_
        | refine aw_region ?_
        | refine aw_lex [] ?_
        | (refine isA ?_; refine do_F rfl ?_)
        | (refine isL ?_; refine lex_F rfl (by kernel_rfl) rfl rfl ?_)
        | (refine isLg rfl ?_; refine lex_S rfl (by kernel_rfl) rfl rfl ?_)
        | (refine isAi (x := .tmp 17) ?_; refine do_R rfl (ia_l (t := rnT) (z := x) rfl rfl rfl rfl (Int.natCast_nonneg i) hx) rfl ?_)
        | (refine isLi (x := .tmp 17) rfl ?_; refine lex_R rfl (by kernel_rfl) rfl (ia_l (t := rnT) (z := x) rfl rfl rfl rfl (Int.natCast_nonneg i) hx) rfl ?_)
        | (refine isAi (x := .tmp 22) ?_; refine do_R rfl (ia_l (t := rnT) (z := y) rfl rfl rfl rfl (Int.natCast_nonneg i) hy) rfl ?_)
        | (refine isLi (x := .tmp 22) rfl ?_; refine lex_R rfl (by kernel_rfl) rfl (ia_l (t := rnT) (z := y) rfl rfl rfl rfl (Int.natCast_nonneg i) hy) rfl ?_)
        | (refine isAc 90 ?_; refine do_R rfl (st_call rfl (c_l6Rows x y (hok.at hx)) (.cons (.same rfl) (.cons (.same rfl) .nil)) rfl) rfl ?_)
        | (refine isLc 90 rfl ?_; refine lex_R rfl (by kernel_rfl) rfl (st_call rfl (c_l6Rows x y (hok.at hx)) (.cons (.same rfl) (.cons (.same rfl) .nil)) rfl) rfl ?_)
        | refine aops_nil ?_
        | refine lex_done _ rfl (by kernel_rfl) ?_
        | refine aw_ct rfl ?_
        | refine aw_cf rfl ?_
        | refine aw_block ?_
        | refine then_n ?_
        | refine aw_skip ?_
        | refine aw_exit ?_
        | refine then_x ?_
        | refine then_r ?_
        | refine block_x ?_
        | refine block_n ?_
        | refine block_r ?_
        | refine aw_ret ?_
      refine aw_cond rfl (fun h1 => ?_) (fun h1 => ?_)
      · have h2 : eqLd x y = false := by simpa using h1
        rw [h2, Bool.false_and] at hq
        repeat' first
          | refine aw_seq ?_
          | refine aw_region ?_
          | refine aw_lex [] ?_
          | (refine isA ?_; refine do_F rfl ?_)
          | (refine isL ?_; refine lex_F rfl (by kernel_rfl) rfl rfl ?_)
          | (refine isLg rfl ?_; refine lex_S rfl (by kernel_rfl) rfl rfl ?_)
          | exact fin1 rfl rfl (congrArg B hq)
          | refine aops_nil ?_
          | refine lex_done _ rfl (by kernel_rfl) ?_
          | refine aw_ct rfl ?_
          | refine aw_cf rfl ?_
          | refine aw_block ?_
          | refine then_n ?_
          | refine aw_skip ?_
          | refine aw_exit ?_
          | refine then_x ?_
          | refine then_r ?_
          | refine block_x ?_
          | refine block_n ?_
          | refine block_r ?_
          | refine aw_ret ?_
      · have h2 : eqLd x y = true := by simpa using h1
        rw [h2, Bool.true_and] at hq
        repeat' first
          | refine aw_seq ?_
          | refine aw_region ?_
          | refine aw_lex [] ?_
          | (refine isA ?_; refine do_F rfl ?_)
          | (refine isL ?_; refine lex_F rfl (by kernel_rfl) rfl rfl ?_)
          | (refine isLg rfl ?_; refine lex_S rfl (by kernel_rfl) rfl rfl ?_)
          | refine aops_nil ?_
          | refine lex_done _ rfl (by kernel_rfl) ?_
          | refine aw_ct rfl ?_
          | refine aw_cf rfl ?_
          | refine aw_block ?_
          | refine then_n ?_
          | refine aw_skip ?_
          | refine aw_exit ?_
          | refine then_x ?_
          | refine then_r ?_
          | refine block_x ?_
          | refine block_n ?_
          | refine block_r ?_
          | refine aw_ret ?_
        refine ⟨⟨i + 1, hlt, hq⟩, by simp only; omega, ?_⟩
        exact sub_id rfl (by repeat' first | exact EqS.nil | refine EqS.any ?_ | refine EqS.same rfl ?_ | refine EqS.same (i_succ (by assumption) (by omega)) ?_)
    · have hge : i = xs.length := by
        have : ¬ ((i : Int) < xs.length) := by simpa using h
        omega
      subst hge
      have hq' : eqRs xs ys = true := by rw [← hq, List.drop_length, he, List.drop_length]; rfl
      repeat' first
        | refine aw_seq ?_
        | refine aw_region ?_
        | refine aw_lex [] ?_
        | (refine isA ?_; refine do_F rfl ?_)
        | (refine isL ?_; refine lex_F rfl (by kernel_rfl) rfl rfl ?_)
        | (refine isLg rfl ?_; refine lex_S rfl (by kernel_rfl) rfl rfl ?_)
        | exact fin1 rfl rfl (by rw [hq'])
        | refine aops_nil ?_
        | refine lex_done _ rfl (by kernel_rfl) ?_
        | refine aw_ct rfl ?_
        | refine aw_cf rfl ?_
        | refine aw_block ?_
        | refine then_n ?_
        | refine aw_skip ?_
        | refine aw_exit ?_
        | refine then_x ?_
        | refine then_r ?_
        | refine block_x ?_
        | refine block_n ?_
        | refine block_r ?_
        | refine aw_ret ?_

def eqSo (s t : So) : Bool := eqLd s.input t.input && (decide (s.pos = t.pos) && (eqLd s.heap t.heap && (eqLd s.dfr t.dfr && (eqLd s.out t.out && (eqRs s.runs t.runs && (decide (s.lp = t.lp) && (decide (s.rp = t.rp) && (decide (s.ph = t.ph) && decide (s.wr = t.wr)))))))))
theorem c_seqS (s t : So) (hs : okSo s) : Meets Go.Proofs.Try.prog 52 [.agg (soE s), .agg (soE t)] [] (B (eqSo s t)) [] false := by
  have g1 := hs.input
  have g2 := hs.heap
  have g3 := hs.dfr
  have g4 := hs.out
  refine meets_of [4] Go.Proofs.Try.func52 rfl rfl ?_
  simp only [Go.Proofs.Try.ntmps52, List.length_cons, List.length_nil, Nat.reduceAdd, Nat.reduceSub, List.replicate_succ, List.replicate_zero, List.cons_append, List.nil_append]
  repeat' first
    | refine aw_seq ?_
    | refine aw_region ?_
    | refine aw_lex [] ?_
    | (refine isA ?_; refine do_F rfl ?_)
    | (refine isL ?_; refine lex_F rfl (by kernel_rfl) rfl rfl ?_)
    | (refine isLg rfl ?_; refine lex_S rfl (by kernel_rfl) rfl rfl ?_)
    | (refine isAc 90 ?_; refine do_R rfl (st_call rfl (c_l6Rows _ _ (by omega)) (.cons (.same rfl) (.cons (.same rfl) .nil)) rfl) rfl ?_)
    | (refine isLc 90 rfl ?_; refine lex_R rfl (by kernel_rfl) rfl (st_call rfl (c_l6Rows _ _ (by omega)) (.cons (.same rfl) (.cons (.same rfl) .nil)) rfl) rfl ?_)
    | (refine isAc 91 ?_; refine do_R rfl (st_call rfl (c_sameRuns _ _ hs.rn) (.cons (.same rfl) (.cons (.same rfl) .nil)) rfl) rfl ?_)
    | (refine isLc 91 rfl ?_; refine lex_R rfl (by kernel_rfl) rfl (st_call rfl (c_sameRuns _ _ hs.rn) (.cons (.same rfl) (.cons (.same rfl) .nil)) rfl) rfl ?_)
    | exact fin1 rfl rfl (by first | ((try simp only [Bool.not_eq_true', Bool.not_eq_false'] at *); simp only [eqSo, *, Bool.true_and, Bool.false_and, Bool.and_true, Bool.and_false, Bool.true_or, Bool.false_or, Bool.or_true, Bool.or_false, Bool.not_true, Bool.not_false, cond_true, cond_false]; done) | (simp_all [eqSo]; done) | (simp_all [eqSo]; intros; omega))
    | refine aops_nil ?_
    | refine lex_done _ rfl (by kernel_rfl) ?_
    | refine aw_ct rfl ?_
    | refine aw_cf rfl ?_
    | refine aw_block ?_
    | refine then_n ?_
    | refine aw_skip ?_
    | refine aw_exit ?_
    | refine then_x ?_
    | refine then_r ?_
    | refine block_x ?_
    | refine block_n ?_
    | refine block_r ?_
    | refine aw_ret ?_
    | (refine isAg ?_; refine do_br rfl rfl (fun hbr => ?_) (fun hbr => ?_) <;> (fail_if_success (with_reducible (have hx : true = true := hbr))) <;> (fail_if_success (with_reducible (have hx : false = false := hbr))))
    | (refine isLg rfl ?_; refine lex_br rfl rfl rfl rfl (fun hbr => ?_) (fun hbr => ?_) <;> (fail_if_success (with_reducible (have hx : true = true := hbr))) <;> (fail_if_success (with_reducible (have hx : false = false := hbr))))
theorem c_ieqS (s t : So) (hs : okSo s) : Meets Go.Proofs.Try.prog 54 [.agg (soE s), .agg (soE t)] [] (B (eqSo s t)) [] false := by
  have g1 := hs.input
  have g2 := hs.heap
  have g3 := hs.dfr
  have g4 := hs.out
  have g5 := hs.runs
  have gr := hs.rn
  refine meets_of [4] Go.Proofs.Try.func54 rfl rfl ?_
  simp only [Go.Proofs.Try.ntmps54, List.length_cons, List.length_nil, Nat.reduceAdd, Nat.reduceSub, List.replicate_succ, List.replicate_zero, List.cons_append, List.nil_append]
  repeat' first
    | refine aw_seq ?_
    | refine aw_region ?_
    | refine aw_lex [] ?_
    | (refine isA ?_; refine do_F rfl ?_)
    | (refine isL ?_; refine lex_F rfl (by kernel_rfl) rfl rfl ?_)
    | (refine isLg rfl ?_; refine lex_S rfl (by kernel_rfl) rfl rfl ?_)
    | refine aops_nil ?_
    | refine lex_done _ rfl (by kernel_rfl) ?_
    | refine aw_ct rfl ?_
    | refine aw_cf rfl ?_
    | refine aw_block ?_
    | refine then_n ?_
    | refine aw_skip ?_
    | refine aw_exit ?_
    | refine then_x ?_
    | refine then_r ?_
    | refine block_x ?_
    | refine block_n ?_
    | refine block_r ?_
    | refine aw_ret ?_
  refine aw_cond rfl (fun h => ?_) (fun h => ?_)
  · have hne : s.runs.length ≠ t.runs.length := by have : ¬ ((s.runs.length : Int) = t.runs.length) := (by simpa using h); omega
    have hf : eqSo s t = false := by simp [eqSo, eqRs_len hne]
    repeat' first
      | refine aw_seq ?_
      | refine aw_region ?_
      | refine aw_lex [] ?_
      | (refine isA ?_; refine do_F rfl ?_)
      | (refine isL ?_; refine lex_F rfl (by kernel_rfl) rfl rfl ?_)
      | (refine isLg rfl ?_; refine lex_S rfl (by kernel_rfl) rfl rfl ?_)
      | exact fin1 rfl rfl (by rw [hf])
      | refine aops_nil ?_
      | refine lex_done _ rfl (by kernel_rfl) ?_
      | refine aw_ct rfl ?_
      | refine aw_cf rfl ?_
      | refine aw_block ?_
      | refine then_n ?_
      | refine aw_skip ?_
      | refine aw_exit ?_
      | refine then_x ?_
      | refine then_r ?_
      | refine block_x ?_
      | refine block_n ?_
      | refine block_r ?_
      | refine aw_ret ?_
  have he : s.runs.length = t.runs.length := by have : ((s.runs.length : Int) = t.runs.length) := (by simpa using h); omega
  repeat' first
    | refine aw_seq ?_
    | refine aw_region ?_
    | refine aw_lex [] ?_
    | (refine isA ?_; refine do_F rfl ?_)
    | (refine isL ?_; refine lex_F rfl (by kernel_rfl) rfl rfl ?_)
    | (refine isLg rfl ?_; refine lex_S rfl (by kernel_rfl) rfl rfl ?_)
    | refine aops_nil ?_
    | refine lex_done _ rfl (by kernel_rfl) ?_
    | refine aw_ct rfl ?_
    | refine aw_cf rfl ?_
    | refine aw_block ?_
    | refine then_n ?_
    | refine aw_skip ?_
    | refine aw_exit ?_
    | refine then_x ?_
    | refine then_r ?_
    | refine block_x ?_
    | refine block_n ?_
    | refine block_r ?_
    | refine aw_ret ?_
  refine aw_loop (α := { i : Nat // i ≤ s.runs.length ∧ eqRs (s.runs.drop i) (t.runs.drop i) = eqRs s.runs t.runs }) (fun i => ⟨(.any :: .any :: (.ptr 0 0) :: (.ptr 1 0) :: .any :: .any :: .any :: .any :: .any :: .any :: .any :: .any :: .any :: .any :: .any :: (I s.runs.length) :: (I i.1) :: .any :: .any :: .any :: .any :: .any :: .any :: .any :: .any :: .any :: .any :: .any :: .any :: .any :: .any :: .any :: .any :: .any :: .any :: .any :: .any :: .any :: .any :: .any :: .any :: .any :: .any :: .any :: .any :: .any :: .any :: .any :: .any :: .any :: .any :: .any :: .any :: .any :: .any :: .any :: .any :: .any :: .any :: .any :: .any :: .any :: .any :: .any :: .any :: .any :: .any :: .any :: .any :: .any :: .any :: .any :: .any :: .any :: .any :: .any :: .any :: .any :: .any :: .any :: .any :: .any :: .any :: .any :: .any :: .any :: .any :: .any :: .any :: .any :: .any :: .any :: .any :: .any :: .any :: []), [⟨59, 10, soE s, 0⟩, ⟨59, 10, soE t, 0⟩], 0⟩) (fun i => s.runs.length - i.1) ⟨0, Nat.zero_le _, rfl⟩ ?_ ?_
  · exact sub_id rfl (by repeat' first | exact EqS.nil | refine EqS.any ?_ | refine EqS.same rfl ?_)
  · rintro ⟨i, hi, hq⟩
    repeat' first
      | refine aw_seq ?_
      | refine aw_region ?_
      | refine aw_lex [] ?_
      | (refine isA ?_; refine do_F rfl ?_)
      | (refine isL ?_; refine lex_F rfl (by kernel_rfl) rfl rfl ?_)
      | (refine isLg rfl ?_; refine lex_S rfl (by kernel_rfl) rfl rfl ?_)
      | refine aops_nil ?_
      | refine lex_done _ rfl (by kernel_rfl) ?_
      | refine aw_ct rfl ?_
      | refine aw_cf rfl ?_
      | refine aw_block ?_
      | refine then_n ?_
      | refine aw_skip ?_
      | refine aw_exit ?_
      | refine then_x ?_
      | refine then_r ?_
      | refine block_x ?_
      | refine block_n ?_
      | refine block_r ?_
      | refine aw_ret ?_
    refine aw_cond rfl (fun h => ?_) (fun h => ?_)
    · have hlt : i < s.runs.length := by simpa using h
      obtain ⟨x, hx⟩ : ∃ z, s.runs[i]? = some z := ⟨_, List.getElem?_eq_getElem hlt⟩
      obtain ⟨y, hy⟩ : ∃ z, t.runs[i]? = some z := ⟨_, List.getElem?_eq_getElem (by omega)⟩
      rw [eqRs_at hx hy] at hq
      repeat' first
        | refine aw_seq ?_
        | refine aw_region ?_
        | refine aw_lex [] ?_
        | (refine isA ?_; refine do_F rfl ?_)
        | (refine isL ?_; refine lex_F rfl (by kernel_rfl) rfl rfl ?_)
        | (refine isLg rfl ?_; refine lex_S rfl (by kernel_rfl) rfl rfl ?_)
        | (refine isAi (x := .tmp 20) ?_; refine do_R rfl (ia_l (t := rnT) (z := x) rfl rfl rfl rfl (Int.natCast_nonneg i) hx) rfl ?_)
        | (refine isLi (x := .tmp 20) rfl ?_; refine lex_R rfl (by kernel_rfl) rfl (ia_l (t := rnT) (z := x) rfl rfl rfl rfl (Int.natCast_nonneg i) hx) rfl ?_)
        | (refine isAi (x := .tmp 26) ?_; refine do_R rfl (ia_l (t := rnT) (z := y) rfl rfl rfl rfl (Int.natCast_nonneg i) hy) rfl ?_)
        | (refine isLi (x := .tmp 26) rfl ?_; refine lex_R rfl (by kernel_rfl) rfl (ia_l (t := rnT) (z := y) rfl rfl rfl rfl (Int.natCast_nonneg i) hy) rfl ?_)
        | (refine isAc 92 ?_; refine do_R rfl (st_call rfl (c_iequal x y (gr.at hx)) (.cons (.same rfl) (.cons (.same rfl) .nil)) rfl) rfl ?_)
        | (refine isLc 92 rfl ?_; refine lex_R rfl (by kernel_rfl) rfl (st_call rfl (c_iequal x y (gr.at hx)) (.cons (.same rfl) (.cons (.same rfl) .nil)) rfl) rfl ?_)
        | refine aops_nil ?_
        | refine lex_done _ rfl (by kernel_rfl) ?_
        | refine aw_ct rfl ?_
        | refine aw_cf rfl ?_
        | refine aw_block ?_
        | refine then_n ?_
        | refine aw_skip ?_
        | refine aw_exit ?_
        | refine then_x ?_
        | refine then_r ?_
        | refine block_x ?_
        | refine block_n ?_
        | refine block_r ?_
        | refine aw_ret ?_
      refine aw_cond rfl (fun h1 => ?_) (fun h1 => ?_)
      · have h2 : eqLd x y = false := by simpa using h1
        rw [h2, Bool.false_and] at hq
        have hf : eqSo s t = false := by simp [eqSo, ← hq]
        repeat' first
          | refine aw_seq ?_
          | refine aw_region ?_
          | refine aw_lex [] ?_
          | (refine isA ?_; refine do_F rfl ?_)
          | (refine isL ?_; refine lex_F rfl (by kernel_rfl) rfl rfl ?_)
          | (refine isLg rfl ?_; refine lex_S rfl (by kernel_rfl) rfl rfl ?_)
          | exact fin1 rfl rfl (by rw [hf])
          | refine aops_nil ?_
          | refine lex_done _ rfl (by kernel_rfl) ?_
          | refine aw_ct rfl ?_
          | refine aw_cf rfl ?_
          | refine aw_block ?_
          | refine then_n ?_
          | refine aw_skip ?_
          | refine aw_exit ?_
          | refine then_x ?_
          | refine then_r ?_
          | refine block_x ?_
          | refine block_n ?_
          | refine block_r ?_
          | refine aw_ret ?_
      · have h2 : eqLd x y = true := by simpa using h1
        rw [h2, Bool.true_and] at hq
        repeat' first
          | refine aw_seq ?_
          | refine aw_region ?_
          | refine aw_lex [] ?_
          | (refine isA ?_; refine do_F rfl ?_)
          | (refine isL ?_; refine lex_F rfl (by kernel_rfl) rfl rfl ?_)
          | (refine isLg rfl ?_; refine lex_S rfl (by kernel_rfl) rfl rfl ?_)
          | refine aops_nil ?_
          | refine lex_done _ rfl (by kernel_rfl) ?_
          | refine aw_ct rfl ?_
          | refine aw_cf rfl ?_
          | refine aw_block ?_
          | refine then_n ?_
          | refine aw_skip ?_
          | refine aw_exit ?_
          | refine then_x ?_
          | refine then_r ?_
          | refine block_x ?_
          | refine block_n ?_
          | refine block_r ?_
          | refine aw_ret ?_
        refine ⟨⟨i + 1, hlt, hq⟩, by simp only; omega, ?_⟩
        exact sub_id rfl (by repeat' first | exact EqS.nil | refine EqS.any ?_ | refine EqS.same rfl ?_ | refine EqS.same (i_succ (by assumption) (by omega)) ?_)
    · have hge : i = s.runs.length := by
        have : ¬ ((i : Int) < s.runs.length) := by simpa using h
        omega
      subst hge
      have hq' : eqRs s.runs t.runs = true := by rw [← hq, List.drop_length, he, List.drop_length]; rfl
      repeat' first
        | refine aw_seq ?_
        | refine aw_region ?_
        | refine aw_lex [] ?_
        | (refine isA ?_; refine do_F rfl ?_)
        | (refine isL ?_; refine lex_F rfl (by kernel_rfl) rfl rfl ?_)
        | (refine isLg rfl ?_; refine lex_S rfl (by kernel_rfl) rfl rfl ?_)
        | (refine isAc 92 ?_; refine do_R rfl (st_call rfl (c_iequal _ _ (by omega)) (.cons (.same rfl) (.cons (.same rfl) .nil)) rfl) rfl ?_)
        | (refine isLc 92 rfl ?_; refine lex_R rfl (by kernel_rfl) rfl (st_call rfl (c_iequal _ _ (by omega)) (.cons (.same rfl) (.cons (.same rfl) .nil)) rfl) rfl ?_)
        | exact fin1 rfl rfl (by first | ((try simp only [Bool.not_eq_true', Bool.not_eq_false'] at *); simp only [eqSo, *, Bool.true_and, Bool.false_and, Bool.and_true, Bool.and_false, Bool.true_or, Bool.false_or, Bool.or_true, Bool.or_false, Bool.not_true, Bool.not_false, cond_true, cond_false]; done) | (simp_all [eqSo]; done) | (simp_all [eqSo]; intros; omega))
        | refine aops_nil ?_
        | refine lex_done _ rfl (by kernel_rfl) ?_
        | refine aw_ct rfl ?_
        | refine aw_cf rfl ?_
        | refine aw_block ?_
        | refine then_n ?_
        | refine aw_skip ?_
        | refine aw_exit ?_
        | refine then_x ?_
        | refine then_r ?_
        | refine block_x ?_
        | refine block_n ?_
        | refine block_r ?_
        | refine aw_ret ?_
        | (refine isAg ?_; refine do_br rfl rfl (fun hbr => ?_) (fun hbr => ?_) <;> (fail_if_success (with_reducible (have hx : true = true := hbr))) <;> (fail_if_success (with_reducible (have hx : false = false := hbr))))
        | (refine isLg rfl ?_; refine lex_br rfl rfl rfl rfl (fun hbr => ?_) (fun hbr => ?_) <;> (fail_if_success (with_reducible (have hx : true = true := hbr))) <;> (fail_if_success (with_reducible (have hx : false = false := hbr))))

theorem law_EqualSorters (s t : So) (hs : rdSo s) (ht : rdSo t) : Meets Go.Proofs.Try.prog 11 [.agg (soE s), .agg (soE t)] [] (B true) [] false := by
  refine meets_of [4] Go.Proofs.Try.func11 rfl rfl ?_
  simp only [Go.Proofs.Try.ntmps11, List.length_cons, List.length_nil, Nat.reduceAdd, Nat.reduceSub, List.replicate_succ, List.replicate_zero, List.cons_append, List.nil_append]
  repeat' first
    | refine aw_seq ?_
    | refine aw_region ?_
    | refine aw_lex [] ?_
    | (refine isA ?_; refine do_F rfl ?_)
    | (refine isL ?_; refine lex_F rfl (by kernel_rfl) rfl rfl ?_)
    | (refine isLg rfl ?_; refine lex_S rfl (by kernel_rfl) rfl rfl ?_)
    | (refine isAc 51 ?_; refine do_R rfl (st_call rfl (c_szSorter s _ hs.runs) (.cons (.same rfl) (.cons (.same rfl) .nil)) rfl) rfl ?_)
    | (refine isLc 51 rfl ?_; refine lex_R rfl (by kernel_rfl) rfl (st_call rfl (c_szSorter s _ hs.runs) (.cons (.same rfl) (.cons (.same rfl) .nil)) rfl) rfl ?_)
    | refine aops_nil ?_
    | refine lex_done _ rfl (by kernel_rfl) ?_
    | refine aw_ct rfl ?_
    | refine aw_cf rfl ?_
    | refine aw_block ?_
    | refine then_n ?_
    | refine aw_skip ?_
    | refine aw_exit ?_
    | refine then_x ?_
    | refine then_r ?_
    | refine block_x ?_
    | refine block_n ?_
    | refine block_r ?_
    | refine aw_ret ?_
  refine aw_cond rfl (fun h => ?_) (fun h => ?_)
  · repeat' first
      | refine aw_seq ?_
      | refine aw_region ?_
      | refine aw_lex [] ?_
      | (refine isA ?_; refine do_F rfl ?_)
      | (refine isL ?_; refine lex_F rfl (by kernel_rfl) rfl rfl ?_)
      | (refine isLg rfl ?_; refine lex_S rfl (by kernel_rfl) rfl rfl ?_)
      | exact fin1 rfl rfl rfl
      | refine aops_nil ?_
      | refine lex_done _ rfl (by kernel_rfl) ?_
      | refine aw_ct rfl ?_
      | refine aw_cf rfl ?_
      | refine aw_block ?_
      | refine then_n ?_
      | refine aw_skip ?_
      | refine aw_exit ?_
      | refine then_x ?_
      | refine then_r ?_
      | refine block_x ?_
      | refine block_n ?_
      | refine block_r ?_
      | refine aw_ret ?_
  obtain ⟨g1, _, h0, h1⟩ := szS_ok hs (by omega) (by omega) h
  repeat' first
    | refine aw_seq ?_
    | refine aw_region ?_
    | refine aw_lex [] ?_
    | (refine isA ?_; refine do_F rfl ?_)
    | (refine isL ?_; refine lex_F rfl (by kernel_rfl) rfl rfl ?_)
    | (refine isLg rfl ?_; refine lex_S rfl (by kernel_rfl) rfl rfl ?_)
    | (refine isAc 51 ?_; refine do_R rfl (st_call rfl (c_szSorter t _ ht.runs) (.cons (.same rfl) (.cons (.same rfl) .nil)) rfl) rfl ?_)
    | (refine isLc 51 rfl ?_; refine lex_R rfl (by kernel_rfl) rfl (st_call rfl (c_szSorter t _ ht.runs) (.cons (.same rfl) (.cons (.same rfl) .nil)) rfl) rfl ?_)
    | refine aops_nil ?_
    | refine lex_done _ rfl (by kernel_rfl) ?_
    | refine aw_ct rfl ?_
    | refine aw_cf rfl ?_
    | refine aw_block ?_
    | refine then_n ?_
    | refine aw_skip ?_
    | refine aw_exit ?_
    | refine then_x ?_
    | refine then_r ?_
    | refine block_x ?_
    | refine block_n ?_
    | refine block_r ?_
    | refine aw_ret ?_
  refine aw_cond rfl (fun h => ?_) (fun h => ?_)
  · repeat' first
      | refine aw_seq ?_
      | refine aw_region ?_
      | refine aw_lex [] ?_
      | (refine isA ?_; refine do_F rfl ?_)
      | (refine isL ?_; refine lex_F rfl (by kernel_rfl) rfl rfl ?_)
      | (refine isLg rfl ?_; refine lex_S rfl (by kernel_rfl) rfl rfl ?_)
      | exact fin1 rfl rfl rfl
      | refine aops_nil ?_
      | refine lex_done _ rfl (by kernel_rfl) ?_
      | refine aw_ct rfl ?_
      | refine aw_cf rfl ?_
      | refine aw_block ?_
      | refine then_n ?_
      | refine aw_skip ?_
      | refine aw_exit ?_
      | refine then_x ?_
      | refine then_r ?_
      | refine block_x ?_
      | refine block_n ?_
      | refine block_r ?_
      | refine aw_ret ?_
  obtain ⟨g2, _, _, _⟩ := szS_ok ht h0 h1 h
  repeat' first
    | (refine isA ?_; refine do_R rfl (neqB_same rfl rfl rfl (by kernel_rfl)) rfl ?_)
    | refine aw_seq ?_
    | refine aw_region ?_
    | refine aw_lex [] ?_
    | (refine isA ?_; refine do_F rfl ?_)
    | (refine isL ?_; refine lex_F rfl (by kernel_rfl) rfl rfl ?_)
    | (refine isLg rfl ?_; refine lex_S rfl (by kernel_rfl) rfl rfl ?_)
    | (refine isAc 53 (x := #[.tmp 20]) ?_; refine do_R rfl (st_call rfl (c_toSorter s g1) (.cons (.same rfl) .nil) rfl) rfl ?_)
    | (refine isLc 53 (x := #[.tmp 20]) rfl ?_; refine lex_R rfl (by kernel_rfl) rfl (st_call rfl (c_toSorter s g1) (.cons (.same rfl) .nil) rfl) rfl ?_)
    | (refine isAc 53 (x := #[.tmp 22]) ?_; refine do_R rfl (st_call rfl (c_toSorter t g2) (.cons (.same rfl) .nil) rfl) rfl ?_)
    | (refine isLc 53 (x := #[.tmp 22]) rfl ?_; refine lex_R rfl (by kernel_rfl) rfl (st_call rfl (c_toSorter t g2) (.cons (.same rfl) .nil) rfl) rfl ?_)
    | (refine isAc 53 (x := #[.tmp 25]) ?_; refine do_R rfl (st_call rfl (c_toSorter s g1) (.cons (.same rfl) .nil) rfl) rfl ?_)
    | (refine isLc 53 (x := #[.tmp 25]) rfl ?_; refine lex_R rfl (by kernel_rfl) rfl (st_call rfl (c_toSorter s g1) (.cons (.same rfl) .nil) rfl) rfl ?_)
    | (refine isAc 53 (x := #[.tmp 27]) ?_; refine do_R rfl (st_call rfl (c_toSorter t g2) (.cons (.same rfl) .nil) rfl) rfl ?_)
    | (refine isLc 53 (x := #[.tmp 27]) rfl ?_; refine lex_R rfl (by kernel_rfl) rfl (st_call rfl (c_toSorter t g2) (.cons (.same rfl) .nil) rfl) rfl ?_)
    | (refine isAc 53 (x := #[.tmp 36]) ?_; refine do_R rfl (st_call rfl (c_toSorter s g1) (.cons (.same rfl) .nil) rfl) rfl ?_)
    | (refine isLc 53 (x := #[.tmp 36]) rfl ?_; refine lex_R rfl (by kernel_rfl) rfl (st_call rfl (c_toSorter s g1) (.cons (.same rfl) .nil) rfl) rfl ?_)
    | (refine isAc 53 ?_; refine do_R rfl (st_call rfl (c_toSorter t g2) (.cons (.same rfl) .nil) rfl) rfl ?_)
    | (refine isLc 53 rfl ?_; refine lex_R rfl (by kernel_rfl) rfl (st_call rfl (c_toSorter t g2) (.cons (.same rfl) .nil) rfl) rfl ?_)
    | (refine isAc 52 ?_; refine do_R rfl (st_call rfl (c_seqS s t g1) (.cons (.same rfl) (.cons (.same rfl) .nil)) rfl) rfl ?_)
    | (refine isLc 52 rfl ?_; refine lex_R rfl (by kernel_rfl) rfl (st_call rfl (c_seqS s t g1) (.cons (.same rfl) (.cons (.same rfl) .nil)) rfl) rfl ?_)
    | (refine isAc 54 ?_; refine do_R rfl (st_call rfl (c_ieqS s t g1) (.cons (.same rfl) (.cons (.same rfl) .nil)) rfl) rfl ?_)
    | (refine isLc 54 rfl ?_; refine lex_R rfl (by kernel_rfl) rfl (st_call rfl (c_ieqS s t g1) (.cons (.same rfl) (.cons (.same rfl) .nil)) rfl) rfl ?_)
    | (refine isLc 48 rfl ?_; refine lex_R rfl (by kernel_rfl) rfl (st_call rfl (c_eqSorter s g1) (.cons (.same rfl) (.cons (.same rfl) .nil)) rfl) rfl ?_)
    | (refine isLc 48 rfl ?_; refine lex_R rfl (by kernel_rfl) rfl (st_call rfl (c_eqSorter t g2) (.cons (.same rfl) (.cons (.same rfl) .nil)) rfl) rfl ?_)
    | exact fin1 rfl rfl rfl
    | refine aops_nil ?_
    | refine lex_done _ rfl (by kernel_rfl) ?_
    | refine aw_ct rfl ?_
    | refine aw_cf rfl ?_
    | refine aw_block ?_
    | refine then_n ?_
    | refine aw_skip ?_
    | refine aw_exit ?_
    | refine then_x ?_
    | refine then_r ?_
    | refine block_x ?_
    | refine block_n ?_
    | refine block_r ?_
    | refine aw_ret ?_
end Go.Proofs.Ytngeppmincgebaa.Ab
