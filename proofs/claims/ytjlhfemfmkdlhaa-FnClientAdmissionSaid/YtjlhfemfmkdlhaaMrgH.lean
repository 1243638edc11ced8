/- Texts EqB, LvB in one. -/
import Derived.Test.YtjlhfemfmkdlhaaMrgF
import Derived.Test.YtjlhfemfmkdlhaaAb2
import Derived.Test.YtjlhfemfmkdlhaaMrgD
import Derived.Test.YtjlhfemfmkdlhaaMrgE
set_option linter.unusedVariables false
set_option linter.unusedSimpArgs false
set_option maxRecDepth 20000
set_option maxHeartbeats 4000000
/- EqB -/
namespace Go.Proofs.Ytjlhfemfmkdlhaa.Ab
open Go.RowKit

theorem drop_at {α : Type} {xs : List α} {i : Nat} {z : α} (hz : xs[i]? = some z) : xs.drop i = z :: xs.drop (i + 1) := by
  obtain ⟨h, rfl⟩ := List.getElem?_eq_some_iff.1 hz
  exact List.drop_eq_getElem_cons h
def clI (x : Cl) : List Int := [x.a, x.b, x.c]
def clD (x y : Cl) : Bool := decide (clI x = clI y)
theorem neqCl {o : Oper} {ρ : Operand → V} {H : List Reg} {t' : TypeId} {x y : Operand} {a b : Cl} (ho : o.op = .binOp .neq 53 x y t') (hx : ρ x = .agg (clE a)) (hy : ρ y = .agg (clE b)) : Step Go.Proofs.Try.prog o ρ H (B (!clD a b)) H :=
  step_neqA (us := clI a) (bs := clI b) _ (intFs_of Go.Proofs.Try.underlying53 (by kernel_rfl) (by kernel_rfl) (by kernel_rfl)) ho hx hy rfl rfl
theorem clD_iff {x y : Cl} : clD x y = true ↔ x = y := by
  cases x; cases y
  simp [clD, clI]
def eqLc : List Cl → List Cl → Bool
  | [], [] => true
  | x :: xs, y :: ys => clD x y && eqLc xs ys
  | _, _ => false
theorem eqLc_iff : ∀ {xs ys : List Cl}, eqLc xs ys = true ↔ xs = ys
  | [], [] => by simp [eqLc]
  | x :: xs, y :: ys => by simp only [eqLc, Bool.and_eq_true, clD_iff, eqLc_iff, List.cons.injEq]
  | [], y :: ys => by simp [eqLc]
  | x :: xs, [] => by simp [eqLc]
theorem eqLc_len {xs ys : List Cl} (h : xs.length ≠ ys.length) : eqLc xs ys = false := by
  cases he : eqLc xs ys with
  | false => rfl
  | true => exact absurd (congrArg List.length (eqLc_iff.1 he)) h
theorem eqLc_at {xs ys : List Cl} {i : Nat} {x y : Cl} (hx : xs[i]? = some x) (hy : ys[i]? = some y) : eqLc (xs.drop i) (ys.drop i) = (clD x y && eqLc (xs.drop (i + 1)) (ys.drop (i + 1))) := by
  rw [drop_at hx, drop_at hy, eqLc]

theorem c_same (xs ys : List Cl) (hl : xs.length ≤ 1000000000) : Meets Go.Proofs.Try.prog 71 [clL xs, clL ys] [] (B (eqLc xs ys)) [] false := by
  refine meets_of [4] Go.Proofs.Try.func71 rfl rfl ?_
  simp only [Go.Proofs.Try.ntmps71, List.length_cons, List.length_nil, Nat.reduceAdd, Nat.reduceSub, List.replicate_succ, List.replicate_zero, List.cons_append, List.nil_append]
  repeat' first
    | refine aw_seq ?_
    | refine aw_region ?_
    | refine aw_lex [] ?_
    | (refine isA ?_; refine do_F rfl ?_)
    | (refine isL ?_; refine lex_F rfl (by kernel_rfl) rfl rfl ?_)
    | (refine isLg rfl ?_; refine lex_S rfl (by kernel_rfl) rfl rfl ?_)
    | refine aops_nil ?_
    | refine lex_done _ rfl (by kernel_rfl) ?_
    | refine aw_ct rfl ?_
    | refine aw_cf rfl ?_
    | refine aw_block ?_
    | refine then_n ?_
    | refine aw_skip ?_
    | refine aw_exit ?_
    | refine then_x ?_
    | refine then_r ?_
    | refine block_x ?_
    | refine block_n ?_
    | refine block_r ?_
    | refine aw_ret ?_
  refine aw_cond rfl (fun h => ?_) (fun h => ?_)
  · have hne : xs.length ≠ ys.length := by have : ¬ ((xs.length : Int) = ys.length) := (by simpa using h); omega
    repeat' first
      | refine aw_seq ?_
      | refine aw_region ?_
      | refine aw_lex [] ?_
      | (refine isA ?_; refine do_F rfl ?_)
      | (refine isL ?_; refine lex_F rfl (by kernel_rfl) rfl rfl ?_)
      | (refine isLg rfl ?_; refine lex_S rfl (by kernel_rfl) rfl rfl ?_)
      | exact fin1 rfl rfl (by rw [eqLc_len hne])
      | refine aops_nil ?_
      | refine lex_done _ rfl (by kernel_rfl) ?_
      | refine aw_ct rfl ?_
      | refine aw_cf rfl ?_
      | refine aw_block ?_
      | refine then_n ?_
      | refine aw_skip ?_
      | refine aw_exit ?_
      | refine then_x ?_
      | refine then_r ?_
      | refine block_x ?_
      | refine block_n ?_
      | refine block_r ?_
      | refine aw_ret ?_
  have he : xs.length = ys.length := by have : ((xs.length : Int) = ys.length) := (by simpa using h); omega
  repeat' first
    | refine aw_seq ?_
    | refine aw_region ?_
    | refine aw_lex [] ?_
    | (refine isA ?_; refine do_F rfl ?_)
    | (refine isL ?_; refine lex_F rfl (by kernel_rfl) rfl rfl ?_)
    | (refine isLg rfl ?_; refine lex_S rfl (by kernel_rfl) rfl rfl ?_)
    | refine aops_nil ?_
    | refine lex_done _ rfl (by kernel_rfl) ?_
    | refine aw_ct rfl ?_
    | refine aw_cf rfl ?_
    | refine aw_block ?_
    | refine then_n ?_
    | refine aw_skip ?_
    | refine aw_exit ?_
    | refine then_x ?_
    | refine then_r ?_
    | refine block_x ?_
    | refine block_n ?_
    | refine block_r ?_
    | refine aw_ret ?_
  refine aw_loop (α := { i : Nat // i ≤ xs.length ∧ eqLc (xs.drop i) (ys.drop i) = eqLc xs ys }) (fun i => ⟨[clL xs, clL ys, .any, .any, .any, I i.1, .any, .any, .any, .any, .any, .any, .any, .any, .any, .any, .any, .any, .any, .any, .any, .any, .any, .any, .any, .any], [], 0⟩) (fun i => xs.length - i.1) ⟨0, Nat.zero_le _, rfl⟩ ?_ ?_
  · exact sub0 [] rfl rfl (by decide) .nil (by repeat' first | exact les_nil | refine les_cons ?_ ?_ | exact le_any | exact le_refl rfl | exact le_sl rfl rfl | exact le_ptr rfl)
  · rintro ⟨i, hi, hq⟩
    repeat' first
      | refine aw_seq ?_
      | refine aw_region ?_
      | refine aw_lex [] ?_
      | (refine isA ?_; refine do_F rfl ?_)
      | (refine isL ?_; refine lex_F rfl (by kernel_rfl) rfl rfl ?_)
      | (refine isLg rfl ?_; refine lex_S rfl (by kernel_rfl) rfl rfl ?_)
      | refine aops_nil ?_
      | refine lex_done _ rfl (by kernel_rfl) ?_
      | refine aw_ct rfl ?_
      | refine aw_cf rfl ?_
      | refine aw_block ?_
      | refine then_n ?_
      | refine aw_skip ?_
      | refine aw_exit ?_
      | refine then_x ?_
      | refine then_r ?_
      | refine block_x ?_
      | refine block_n ?_
      | refine block_r ?_
      | refine aw_ret ?_
    refine aw_cond rfl (fun h => ?_) (fun h => ?_)
    · have hlt : i < xs.length := by simpa using h
      obtain ⟨x, hx⟩ : ∃ z, xs[i]? = some z := ⟨_, List.getElem?_eq_getElem hlt⟩
      obtain ⟨y, hy⟩ : ∃ z, ys[i]? = some z := ⟨_, List.getElem?_eq_getElem (by omega)⟩
      rw [eqLc_at hx hy] at hq
      repeat' first
        | refine aw_seq ?_
        | refine aw_region ?_
        | refine aw_lex [] ?_
        | (refine isA ?_; refine do_F rfl ?_)
        | (refine isL ?_; refine lex_F rfl (by kernel_rfl) rfl rfl ?_)
        | (refine isLg rfl ?_; refine lex_S rfl (by kernel_rfl) rfl rfl ?_)
        | (refine isAi (x := .tmp 17) ?_; refine do_R rfl (ia_l (t := clT) (z := x) rfl rfl rfl rfl (Int.natCast_nonneg i) hx) rfl ?_)
        | (refine isLi (x := .tmp 17) rfl ?_; refine lex_R rfl (by kernel_rfl) rfl (ia_l (t := clT) (z := x) rfl rfl rfl rfl (Int.natCast_nonneg i) hx) rfl ?_)
        | (refine isAi (x := .tmp 21) ?_; refine do_R rfl (ia_l (t := clT) (z := y) rfl rfl rfl rfl (Int.natCast_nonneg i) hy) rfl ?_)
        | (refine isLi (x := .tmp 21) rfl ?_; refine lex_R rfl (by kernel_rfl) rfl (ia_l (t := clT) (z := y) rfl rfl rfl rfl (Int.natCast_nonneg i) hy) rfl ?_)
        | refine do_R rfl (neqCl rfl rfl rfl) rfl ?_
        | refine lex_R rfl (by kernel_rfl) rfl (neqCl rfl rfl rfl) rfl ?_
        | refine aops_nil ?_
        | refine lex_done _ rfl (by kernel_rfl) ?_
        | refine aw_ct rfl ?_
        | refine aw_cf rfl ?_
        | refine aw_block ?_
        | refine then_n ?_
        | refine aw_skip ?_
        | refine aw_exit ?_
        | refine then_x ?_
        | refine then_r ?_
        | refine block_x ?_
        | refine block_n ?_
        | refine block_r ?_
        | refine aw_ret ?_
      refine aw_cond rfl (fun h1 => ?_) (fun h1 => ?_)
      · have h2 : clD x y = false := by simpa using h1
        rw [h2, Bool.false_and] at hq
        repeat' first
          | refine aw_seq ?_
          | refine aw_region ?_
          | refine aw_lex [] ?_
          | (refine isA ?_; refine do_F rfl ?_)
          | (refine isL ?_; refine lex_F rfl (by kernel_rfl) rfl rfl ?_)
          | (refine isLg rfl ?_; refine lex_S rfl (by kernel_rfl) rfl rfl ?_)
          | exact fin1 rfl rfl (congrArg B hq)
          | refine aops_nil ?_
          | refine lex_done _ rfl (by kernel_rfl) ?_
          | refine aw_ct rfl ?_
          | refine aw_cf rfl ?_
          | refine aw_block ?_
          | refine then_n ?_
          | refine aw_skip ?_
          | refine aw_exit ?_
          | refine then_x ?_
          | refine then_r ?_
          | refine block_x ?_
          | refine block_n ?_
          | refine block_r ?_
          | refine aw_ret ?_
      · have h2 : clD x y = true := by simpa using h1
        rw [h2, Bool.true_and] at hq
        repeat' first
          | refine aw_seq ?_
          | refine aw_region ?_
          | refine aw_lex [] ?_
          | (refine isA ?_; refine do_F rfl ?_)
          | (refine isL ?_; refine lex_F rfl (by kernel_rfl) rfl rfl ?_)
          | (refine isLg rfl ?_; refine lex_S rfl (by kernel_rfl) rfl rfl ?_)
          | refine aops_nil ?_
          | refine lex_done _ rfl (by kernel_rfl) ?_
          | refine aw_ct rfl ?_
          | refine aw_cf rfl ?_
          | refine aw_block ?_
          | refine then_n ?_
          | refine aw_skip ?_
          | refine aw_exit ?_
          | refine then_x ?_
          | refine then_r ?_
          | refine block_x ?_
          | refine block_n ?_
          | refine block_r ?_
          | refine aw_ret ?_
        refine ⟨⟨i + 1, hlt, hq⟩, by simp only; omega, ?_⟩
        exact sub0 [] rfl rfl (by decide) .nil (by repeat' first | exact les_nil | refine les_cons ?_ ?_ | exact le_any | exact le_refl rfl | exact le_sl rfl rfl | exact le_ptr rfl | exact le_i (by assumption) (by omega))
    · have hge : i = xs.length := by
        have : ¬ ((i : Int) < xs.length) := by simpa using h
        omega
      subst hge
      have hq' : eqLc xs ys = true := by rw [← hq, List.drop_length, he, List.drop_length]; rfl
      repeat' first
        | refine aw_seq ?_
        | refine aw_region ?_
        | refine aw_lex [] ?_
        | (refine isA ?_; refine do_F rfl ?_)
        | (refine isL ?_; refine lex_F rfl (by kernel_rfl) rfl rfl ?_)
        | (refine isLg rfl ?_; refine lex_S rfl (by kernel_rfl) rfl rfl ?_)
        | exact fin1 rfl rfl (by rw [hq'])
        | refine aops_nil ?_
        | refine lex_done _ rfl (by kernel_rfl) ?_
        | refine aw_ct rfl ?_
        | refine aw_cf rfl ?_
        | refine aw_block ?_
        | refine then_n ?_
        | refine aw_skip ?_
        | refine aw_exit ?_
        | refine then_x ?_
        | refine then_r ?_
        | refine block_x ?_
        | refine block_n ?_
        | refine block_r ?_
        | refine aw_ret ?_
theorem c_slEqual (xs ys : List Cl) (hl : xs.length ≤ 1000000000) : Meets Go.Proofs.Try.prog 73 [clL xs, clL ys] [] (B (eqLc xs ys)) [] false := by
  refine meets_of [4] Go.Proofs.Try.func73 rfl rfl ?_
  simp only [Go.Proofs.Try.ntmps73, List.length_cons, List.length_nil, Nat.reduceAdd, Nat.reduceSub, List.replicate_succ, List.replicate_zero, List.cons_append, List.nil_append]
  repeat' first
    | refine aw_seq ?_
    | refine aw_region ?_
    | refine aw_lex [] ?_
    | (refine isA ?_; refine do_F rfl ?_)
    | (refine isL ?_; refine lex_F rfl (by kernel_rfl) rfl rfl ?_)
    | (refine isLg rfl ?_; refine lex_S rfl (by kernel_rfl) rfl rfl ?_)
    | refine aops_nil ?_
    | refine lex_done _ rfl (by kernel_rfl) ?_
    | refine aw_ct rfl ?_
    | refine aw_cf rfl ?_
    | refine aw_block ?_
    | refine then_n ?_
    | refine aw_skip ?_
    | refine aw_exit ?_
    | refine then_x ?_
    | refine then_r ?_
    | refine block_x ?_
    | refine block_n ?_
    | refine block_r ?_
    | refine aw_ret ?_
  refine aw_cond rfl (fun h => ?_) (fun h => ?_)
  · have hne : xs.length ≠ ys.length := by have : ¬ ((xs.length : Int) = ys.length) := (by simpa using h); omega
    repeat' first
      | refine aw_seq ?_
      | refine aw_region ?_
      | refine aw_lex [] ?_
      | (refine isA ?_; refine do_F rfl ?_)
      | (refine isL ?_; refine lex_F rfl (by kernel_rfl) rfl rfl ?_)
      | (refine isLg rfl ?_; refine lex_S rfl (by kernel_rfl) rfl rfl ?_)
      | exact fin1 rfl rfl (by rw [eqLc_len hne])
      | refine aops_nil ?_
      | refine lex_done _ rfl (by kernel_rfl) ?_
      | refine aw_ct rfl ?_
      | refine aw_cf rfl ?_
      | refine aw_block ?_
      | refine then_n ?_
      | refine aw_skip ?_
      | refine aw_exit ?_
      | refine then_x ?_
      | refine then_r ?_
      | refine block_x ?_
      | refine block_n ?_
      | refine block_r ?_
      | refine aw_ret ?_
  have he : xs.length = ys.length := by have : ((xs.length : Int) = ys.length) := (by simpa using h); omega
  repeat' first
    | refine aw_seq ?_
    | refine aw_region ?_
    | refine aw_lex [] ?_
    | (refine isA ?_; refine do_F rfl ?_)
    | (refine isL ?_; refine lex_F rfl (by kernel_rfl) rfl rfl ?_)
    | (refine isLg rfl ?_; refine lex_S rfl (by kernel_rfl) rfl rfl ?_)
    | refine aops_nil ?_
    | refine lex_done _ rfl (by kernel_rfl) ?_
    | refine aw_ct rfl ?_
    | refine aw_cf rfl ?_
    | refine aw_block ?_
    | refine then_n ?_
    | refine aw_skip ?_
    | refine aw_exit ?_
    | refine then_x ?_
    | refine then_r ?_
    | refine block_x ?_
    | refine block_n ?_
    | refine block_r ?_
    | refine aw_ret ?_
  refine aw_loop (α := { i : Nat // i ≤ xs.length ∧ eqLc (xs.drop i) (ys.drop i) = eqLc xs ys }) (fun i => ⟨[clL xs, clL ys, .any, .any, .any, .any, .any, .any, .any, .any, .any, .any, I xs.length, I i.1, .any, .any, .any, .any, .any, .any, .any, .any, .any, .any, .any, .any], [], 0⟩) (fun i => xs.length - i.1) ⟨0, Nat.zero_le _, rfl⟩ ?_ ?_
  · exact sub0 [] rfl rfl (by decide) .nil (by repeat' first | exact les_nil | refine les_cons ?_ ?_ | exact le_any | exact le_refl rfl | exact le_sl rfl rfl | exact le_ptr rfl)
  · rintro ⟨i, hi, hq⟩
    repeat' first
      | refine aw_seq ?_
      | refine aw_region ?_
      | refine aw_lex [] ?_
      | (refine isA ?_; refine do_F rfl ?_)
      | (refine isL ?_; refine lex_F rfl (by kernel_rfl) rfl rfl ?_)
      | (refine isLg rfl ?_; refine lex_S rfl (by kernel_rfl) rfl rfl ?_)
      | refine aops_nil ?_
      | refine lex_done _ rfl (by kernel_rfl) ?_
      | refine aw_ct rfl ?_
      | refine aw_cf rfl ?_
      | refine aw_block ?_
      | refine then_n ?_
      | refine aw_skip ?_
      | refine aw_exit ?_
      | refine then_x ?_
      | refine then_r ?_
      | refine block_x ?_
      | refine block_n ?_
      | refine block_r ?_
      | refine aw_ret ?_
    refine aw_cond rfl (fun h => ?_) (fun h => ?_)
    · have hlt : i < xs.length := by simpa using h
      obtain ⟨x, hx⟩ : ∃ z, xs[i]? = some z := ⟨_, List.getElem?_eq_getElem hlt⟩
      obtain ⟨y, hy⟩ : ∃ z, ys[i]? = some z := ⟨_, List.getElem?_eq_getElem (by omega)⟩
      rw [eqLc_at hx hy] at hq
      repeat' first
        | refine aw_seq ?_
        | refine aw_region ?_
        | refine aw_lex [] ?_
        | (refine isA ?_; refine do_F rfl ?_)
        | (refine isL ?_; refine lex_F rfl (by kernel_rfl) rfl rfl ?_)
        | (refine isLg rfl ?_; refine lex_S rfl (by kernel_rfl) rfl rfl ?_)
        | (refine isAi (x := .tmp 16) ?_; refine do_R rfl (ia_l (t := clT) (z := x) rfl rfl rfl rfl (Int.natCast_nonneg i) hx) rfl ?_)
        | (refine isLi (x := .tmp 16) rfl ?_; refine lex_R rfl (by kernel_rfl) rfl (ia_l (t := clT) (z := x) rfl rfl rfl rfl (Int.natCast_nonneg i) hx) rfl ?_)
        | (refine isAi (x := .tmp 20) ?_; refine do_R rfl (ia_l (t := clT) (z := y) rfl rfl rfl rfl (Int.natCast_nonneg i) hy) rfl ?_)
        | (refine isLi (x := .tmp 20) rfl ?_; refine lex_R rfl (by kernel_rfl) rfl (ia_l (t := clT) (z := y) rfl rfl rfl rfl (Int.natCast_nonneg i) hy) rfl ?_)
        | refine do_R rfl (neqCl rfl rfl rfl) rfl ?_
        | refine lex_R rfl (by kernel_rfl) rfl (neqCl rfl rfl rfl) rfl ?_
        | refine aops_nil ?_
        | refine lex_done _ rfl (by kernel_rfl) ?_
        | refine aw_ct rfl ?_
        | refine aw_cf rfl ?_
        | refine aw_block ?_
        | refine then_n ?_
        | refine aw_skip ?_
        | refine aw_exit ?_
        | refine then_x ?_
        | refine then_r ?_
        | refine block_x ?_
        | refine block_n ?_
        | refine block_r ?_
        | refine aw_ret ?_
      refine aw_cond rfl (fun h1 => ?_) (fun h1 => ?_)
      · have h2 : clD x y = false := by simpa using h1
        rw [h2, Bool.false_and] at hq
        repeat' first
          | refine aw_seq ?_
          | refine aw_region ?_
          | refine aw_lex [] ?_
          | (refine isA ?_; refine do_F rfl ?_)
          | (refine isL ?_; refine lex_F rfl (by kernel_rfl) rfl rfl ?_)
          | (refine isLg rfl ?_; refine lex_S rfl (by kernel_rfl) rfl rfl ?_)
          | exact fin1 rfl rfl (congrArg B hq)
          | refine aops_nil ?_
          | refine lex_done _ rfl (by kernel_rfl) ?_
          | refine aw_ct rfl ?_
          | refine aw_cf rfl ?_
          | refine aw_block ?_
          | refine then_n ?_
          | refine aw_skip ?_
          | refine aw_exit ?_
          | refine then_x ?_
          | refine then_r ?_
          | refine block_x ?_
          | refine block_n ?_
          | refine block_r ?_
          | refine aw_ret ?_
      · have h2 : clD x y = true := by simpa using h1
        rw [h2, Bool.true_and] at hq
        repeat' first
          | refine aw_seq ?_
          | refine aw_region ?_
          | refine aw_lex [] ?_
          | (refine isA ?_; refine do_F rfl ?_)
          | (refine isL ?_; refine lex_F rfl (by kernel_rfl) rfl rfl ?_)
          | (refine isLg rfl ?_; refine lex_S rfl (by kernel_rfl) rfl rfl ?_)
          | refine aops_nil ?_
          | refine lex_done _ rfl (by kernel_rfl) ?_
          | refine aw_ct rfl ?_
          | refine aw_cf rfl ?_
          | refine aw_block ?_
          | refine then_n ?_
          | refine aw_skip ?_
          | refine aw_exit ?_
          | refine then_x ?_
          | refine then_r ?_
          | refine block_x ?_
          | refine block_n ?_
          | refine block_r ?_
          | refine aw_ret ?_
        refine ⟨⟨i + 1, hlt, hq⟩, by simp only; omega, ?_⟩
        exact sub0 [] rfl rfl (by decide) .nil (by repeat' first | exact les_nil | refine les_cons ?_ ?_ | exact le_any | exact le_refl rfl | exact le_sl rfl rfl | exact le_ptr rfl | exact le_i (by assumption) (by omega))
    · have hge : i = xs.length := by
        have : ¬ ((i : Int) < xs.length) := by simpa using h
        omega
      subst hge
      have hq' : eqLc xs ys = true := by rw [← hq, List.drop_length, he, List.drop_length]; rfl
      repeat' first
        | refine aw_seq ?_
        | refine aw_region ?_
        | refine aw_lex [] ?_
        | (refine isA ?_; refine do_F rfl ?_)
        | (refine isL ?_; refine lex_F rfl (by kernel_rfl) rfl rfl ?_)
        | (refine isLg rfl ?_; refine lex_S rfl (by kernel_rfl) rfl rfl ?_)
        | exact fin1 rfl rfl (by rw [hq'])
        | refine aops_nil ?_
        | refine lex_done _ rfl (by kernel_rfl) ?_
        | refine aw_ct rfl ?_
        | refine aw_cf rfl ?_
        | refine aw_block ?_
        | refine then_n ?_
        | refine aw_skip ?_
        | refine aw_exit ?_
        | refine then_x ?_
        | refine then_r ?_
        | refine block_x ?_
        | refine block_n ?_
        | refine block_r ?_
        | refine aw_ret ?_

def eqBr (a b : Br) : Bool := decide (a.pool = b.pool) && (decide (a.next = b.next) && (eqLc a.act b.act && eqLc a.wait b.wait))
theorem eqBr_self (a : Br) : eqBr a a = true := by simp [eqBr, eqLc_iff]
theorem c_seqB (a b : Br) (h1 : a.act.length ≤ 1000000000) (h2 : a.wait.length ≤ 1000000000) : Meets Go.Proofs.Try.prog 21 [.agg (brE a), .agg (brE b)] [] (B (eqBr a b)) [] false := by
  refine meets_of [4] Go.Proofs.Try.func21 rfl rfl ?_
  simp only [Go.Proofs.Try.ntmps21, List.length_cons, List.length_nil, Nat.reduceAdd, Nat.reduceSub, List.replicate_succ, List.replicate_zero, List.cons_append, List.nil_append]
  repeat' first
    | refine aw_seq ?_
    | refine aw_region ?_
    | refine aw_lex [] ?_
    | (refine isA ?_; refine do_F rfl ?_)
    | (refine isL ?_; refine lex_F rfl (by kernel_rfl) rfl rfl ?_)
    | (refine isLg rfl ?_; refine lex_S rfl (by kernel_rfl) rfl rfl ?_)
    | (refine isAc 71 (x := #[.tmp 19, .tmp 21]) ?_; refine do_R rfl (st_call rfl (c_same a.act b.act h1) (.cons (.same rfl) (.cons (.same rfl) .nil)) rfl) rfl ?_)
    | (refine isLc 71 (x := #[.tmp 19, .tmp 21]) rfl ?_; refine lex_R rfl (by kernel_rfl) rfl (st_call rfl (c_same a.act b.act h1) (.cons (.same rfl) (.cons (.same rfl) .nil)) rfl) rfl ?_)
    | (refine isAc 71 (x := #[.tmp 26, .tmp 28]) ?_; refine do_R rfl (st_call rfl (c_same a.wait b.wait h2) (.cons (.same rfl) (.cons (.same rfl) .nil)) rfl) rfl ?_)
    | (refine isLc 71 (x := #[.tmp 26, .tmp 28]) rfl ?_; refine lex_R rfl (by kernel_rfl) rfl (st_call rfl (c_same a.wait b.wait h2) (.cons (.same rfl) (.cons (.same rfl) .nil)) rfl) rfl ?_)
    | exact fin1 rfl rfl (by first | ((try simp only [Bool.not_eq_true', Bool.not_eq_false'] at *); simp only [eqBr, *, Bool.true_and, Bool.false_and, Bool.and_true, Bool.and_false, Bool.true_or, Bool.false_or, Bool.or_true, Bool.or_false, Bool.not_true, Bool.not_false, cond_true, cond_false]; done) | (simp_all [eqBr]; done) | (simp_all [eqBr]; intros; omega))
    | refine aops_nil ?_
    | refine lex_done _ rfl (by kernel_rfl) ?_
    | refine aw_ct rfl ?_
    | refine aw_cf rfl ?_
    | refine aw_block ?_
    | refine then_n ?_
    | refine aw_skip ?_
    | refine aw_exit ?_
    | refine then_x ?_
    | refine then_r ?_
    | refine block_x ?_
    | refine block_n ?_
    | refine block_r ?_
    | refine aw_ret ?_
    | (refine isAg ?_; refine do_br rfl rfl (fun hbr => ?_) (fun hbr => ?_) <;> (fail_if_success (with_reducible (have hx : true = true := hbr))) <;> (fail_if_success (with_reducible (have hx : false = false := hbr))))
    | (refine isLg rfl ?_; refine lex_br rfl rfl rfl rfl (fun hbr => ?_) (fun hbr => ?_) <;> (fail_if_success (with_reducible (have hx : true = true := hbr))) <;> (fail_if_success (with_reducible (have hx : false = false := hbr))))
theorem c_ieqB (a b : Br) (h1 : a.act.length ≤ 1000000000) (h2 : a.wait.length ≤ 1000000000) : Meets Go.Proofs.Try.prog 23 [.agg (brE a), .agg (brE b)] [] (B (eqBr a b)) [] false := by
  refine meets_of [4] Go.Proofs.Try.func23 rfl rfl ?_
  simp only [Go.Proofs.Try.ntmps23, List.length_cons, List.length_nil, Nat.reduceAdd, Nat.reduceSub, List.replicate_succ, List.replicate_zero, List.cons_append, List.nil_append]
  repeat' first
    | refine aw_seq ?_
    | refine aw_region ?_
    | refine aw_lex [] ?_
    | (refine isA ?_; refine do_F rfl ?_)
    | (refine isL ?_; refine lex_F rfl (by kernel_rfl) rfl rfl ?_)
    | (refine isLg rfl ?_; refine lex_S rfl (by kernel_rfl) rfl rfl ?_)
    | (refine isAc 73 (x := #[.tmp 19, .tmp 21]) ?_; refine do_R rfl (st_call rfl (c_slEqual a.act b.act h1) (.cons (.same rfl) (.cons (.same rfl) .nil)) rfl) rfl ?_)
    | (refine isLc 73 (x := #[.tmp 19, .tmp 21]) rfl ?_; refine lex_R rfl (by kernel_rfl) rfl (st_call rfl (c_slEqual a.act b.act h1) (.cons (.same rfl) (.cons (.same rfl) .nil)) rfl) rfl ?_)
    | (refine isAc 73 (x := #[.tmp 26, .tmp 28]) ?_; refine do_R rfl (st_call rfl (c_slEqual a.wait b.wait h2) (.cons (.same rfl) (.cons (.same rfl) .nil)) rfl) rfl ?_)
    | (refine isLc 73 (x := #[.tmp 26, .tmp 28]) rfl ?_; refine lex_R rfl (by kernel_rfl) rfl (st_call rfl (c_slEqual a.wait b.wait h2) (.cons (.same rfl) (.cons (.same rfl) .nil)) rfl) rfl ?_)
    | exact fin1 rfl rfl (by first | ((try simp only [Bool.not_eq_true', Bool.not_eq_false'] at *); simp only [eqBr, *, Bool.true_and, Bool.false_and, Bool.and_true, Bool.and_false, Bool.true_or, Bool.false_or, Bool.or_true, Bool.or_false, Bool.not_true, Bool.not_false, cond_true, cond_false]; done) | (simp_all [eqBr]; done) | (simp_all [eqBr]; intros; omega))
    | refine aops_nil ?_
    | refine lex_done _ rfl (by kernel_rfl) ?_
    | refine aw_ct rfl ?_
    | refine aw_cf rfl ?_
    | refine aw_block ?_
    | refine then_n ?_
    | refine aw_skip ?_
    | refine aw_exit ?_
    | refine then_x ?_
    | refine then_r ?_
    | refine block_x ?_
    | refine block_n ?_
    | refine block_r ?_
    | refine aw_ret ?_
    | (refine isAg ?_; refine do_br rfl rfl (fun hbr => ?_) (fun hbr => ?_) <;> (fail_if_success (with_reducible (have hx : true = true := hbr))) <;> (fail_if_success (with_reducible (have hx : false = false := hbr))))
    | (refine isLg rfl ?_; refine lex_br rfl rfl rfl rfl (fun hbr => ?_) (fun hbr => ?_) <;> (fail_if_success (with_reducible (have hx : true = true := hbr))) <;> (fail_if_success (with_reducible (have hx : false = false := hbr))))
theorem c_inb (n : Int) : Meets Go.Proofs.Try.prog 16 [I n] [] (.tup [.agg (brE (nbV n).1), B (nbV n).2]) [] true := by
  refine meets_ofCT 2 24 [3] Go.Proofs.Try.func16 rfl rfl rfl ?_
  simp only [Go.Proofs.Try.ntmps16, List.length_cons, List.length_nil, Nat.reduceAdd, Nat.reduceSub, List.replicate_succ, List.replicate_zero, List.cons_append, List.nil_append]
  repeat' first
    | refine aw_seq ?_
    | refine aw_region ?_
    | refine aw_lex [] ?_
    | (refine isA ?_; refine do_F rfl ?_)
    | (refine isL ?_; refine lex_F rfl (by kernel_rfl) rfl rfl ?_)
    | (refine isLg rfl ?_; refine lex_S rfl (by kernel_rfl) rfl rfl ?_)
    | (refine isAc 66 ?_; refine do_R rfl (st_call rfl (c_within _ _ _) (.cons (.same rfl) (.cons (.same rfl) (.cons (.same rfl) .nil))) rfl) rfl ?_)
    | (refine isLc 66 rfl ?_; refine lex_R rfl (by kernel_rfl) rfl (st_call rfl (c_within _ _ _) (.cons (.same rfl) (.cons (.same rfl) (.cons (.same rfl) .nil))) rfl) rfl ?_)
    | refine aops_nil ?_
    | refine lex_done _ rfl (by kernel_rfl) ?_
    | refine aw_ct rfl ?_
    | refine aw_cf rfl ?_
    | refine aw_block ?_
    | refine then_n ?_
    | refine aw_skip ?_
    | refine aw_exit ?_
    | refine then_x ?_
    | refine then_r ?_
    | refine block_x ?_
    | refine block_n ?_
    | refine block_r ?_
    | refine aw_ret ?_
  refine aw_cond rfl (fun k1 => ?_) (fun k1 => ?_)
  · have k1 : inV n 8 120 = false := by simpa using k1
    repeat' first
      | refine aw_seq ?_
      | refine aw_region ?_
      | refine aw_lex [] ?_
      | (refine isA ?_; refine do_F rfl ?_)
      | (refine isL ?_; refine lex_F rfl (by kernel_rfl) rfl rfl ?_)
      | (refine isLg rfl ?_; refine lex_S rfl (by kernel_rfl) rfl rfl ?_)
      | exact (by rw [nbV, k1]; exact finCT (cell_is rfl rfl rfl rfl rfl) (.tup (.cons (.agg (.cons (.same rfl) (.cons (.same rfl) (.cons .nil (.cons .nil .nil))))) (.cons (.same rfl) .nil))))
      | refine aops_nil ?_
      | refine lex_done _ rfl (by kernel_rfl) ?_
      | refine aw_ct rfl ?_
      | refine aw_cf rfl ?_
      | refine aw_block ?_
      | refine then_n ?_
      | refine aw_skip ?_
      | refine aw_exit ?_
      | refine then_x ?_
      | refine then_r ?_
      | refine block_x ?_
      | refine block_n ?_
      | refine block_r ?_
      | refine aw_ret ?_
  · have k1 : inV n 8 120 = true := by simpa using k1
    repeat' first
      | refine aw_seq ?_
      | refine aw_region ?_
      | refine aw_lex [] ?_
      | (refine isA ?_; refine do_F rfl ?_)
      | (refine isL ?_; refine lex_F rfl (by kernel_rfl) rfl rfl ?_)
      | (refine isLg rfl ?_; refine lex_S rfl (by kernel_rfl) rfl rfl ?_)
      | exact (by rw [nbV, k1]; exact finCT (cell_is rfl rfl rfl rfl rfl) (.tup (.cons (.agg (.cons (.same rfl) (.cons (.same rfl) (.cons .nil (.cons .nil .nil))))) (.cons (.same rfl) .nil))))
      | refine aops_nil ?_
      | refine lex_done _ rfl (by kernel_rfl) ?_
      | refine aw_ct rfl ?_
      | refine aw_cf rfl ?_
      | refine aw_block ?_
      | refine then_n ?_
      | refine aw_skip ?_
      | refine aw_exit ?_
      | refine then_x ?_
      | refine then_r ?_
      | refine block_x ?_
      | refine block_n ?_
      | refine block_r ?_
      | refine aw_ret ?_
theorem c_snbL (n : Int) : Meets Go.Proofs.Try.prog 15 [I n] [] (.tup [.agg (brE (nbV n).1), B (nbV n).2]) [] true := by
  refine meets_ofCT 2 24 [3] Go.Proofs.Try.func15 rfl rfl rfl ?_
  simp only [Go.Proofs.Try.ntmps15, List.length_cons, List.length_nil, Nat.reduceAdd, Nat.reduceSub, List.replicate_succ, List.replicate_zero, List.cons_append, List.nil_append]
  repeat' first
    | refine aw_seq ?_
    | refine aw_region ?_
    | refine aw_lex [] ?_
    | (refine isA ?_; refine do_F rfl ?_)
    | (refine isL ?_; refine lex_F rfl (by kernel_rfl) rfl rfl ?_)
    | (refine isLg rfl ?_; refine lex_S rfl (by kernel_rfl) rfl rfl ?_)
    | (refine isAc 65 ?_; refine do_R rfl (st_call rfl (c_in _ _ _) (.cons (.same rfl) (.cons (.same rfl) (.cons (.same rfl) .nil))) rfl) rfl ?_)
    | (refine isLc 65 rfl ?_; refine lex_R rfl (by kernel_rfl) rfl (st_call rfl (c_in _ _ _) (.cons (.same rfl) (.cons (.same rfl) (.cons (.same rfl) .nil))) rfl) rfl ?_)
    | refine aops_nil ?_
    | refine lex_done _ rfl (by kernel_rfl) ?_
    | refine aw_ct rfl ?_
    | refine aw_cf rfl ?_
    | refine aw_block ?_
    | refine then_n ?_
    | refine aw_skip ?_
    | refine aw_exit ?_
    | refine then_x ?_
    | refine then_r ?_
    | refine block_x ?_
    | refine block_n ?_
    | refine block_r ?_
    | refine aw_ret ?_
  refine aw_cond rfl (fun k1 => ?_) (fun k1 => ?_)
  · have k1 : inV n 8 120 = false := by simpa using k1
    repeat' first
      | refine aw_seq ?_
      | refine aw_region ?_
      | refine aw_lex [] ?_
      | (refine isA ?_; refine do_F rfl ?_)
      | (refine isL ?_; refine lex_F rfl (by kernel_rfl) rfl rfl ?_)
      | (refine isLg rfl ?_; refine lex_S rfl (by kernel_rfl) rfl rfl ?_)
      | exact (by rw [nbV, k1]; exact finCT (cell_is rfl rfl rfl rfl rfl) (.tup (.cons (.agg (.cons (.same rfl) (.cons (.same rfl) (.cons .nil (.cons .nil .nil))))) (.cons (.same rfl) .nil))))
      | refine aops_nil ?_
      | refine lex_done _ rfl (by kernel_rfl) ?_
      | refine aw_ct rfl ?_
      | refine aw_cf rfl ?_
      | refine aw_block ?_
      | refine then_n ?_
      | refine aw_skip ?_
      | refine aw_exit ?_
      | refine then_x ?_
      | refine then_r ?_
      | refine block_x ?_
      | refine block_n ?_
      | refine block_r ?_
      | refine aw_ret ?_
  · have k1 : inV n 8 120 = true := by simpa using k1
    repeat' first
      | refine aw_seq ?_
      | refine aw_region ?_
      | refine aw_lex [] ?_
      | (refine isA ?_; refine do_F rfl ?_)
      | (refine isL ?_; refine lex_F rfl (by kernel_rfl) rfl rfl ?_)
      | (refine isLg rfl ?_; refine lex_S rfl (by kernel_rfl) rfl rfl ?_)
      | exact (by rw [nbV, k1]; exact finCT (cell_is rfl rfl rfl rfl rfl) (.tup (.cons (.agg (.cons (.same rfl) (.cons (.same rfl) (.cons .nil (.cons .nil .nil))))) (.cons (.same rfl) .nil))))
      | refine aops_nil ?_
      | refine lex_done _ rfl (by kernel_rfl) ?_
      | refine aw_ct rfl ?_
      | refine aw_cf rfl ?_
      | refine aw_block ?_
      | refine then_n ?_
      | refine aw_skip ?_
      | refine aw_exit ?_
      | refine then_x ?_
      | refine then_r ?_
      | refine block_x ?_
      | refine block_n ?_
      | refine block_r ?_
      | refine aw_ret ?_
/-- The contract of a function whose two results lie in cells. -/
theorem meets_of2C {P : Program} {f : FuncId} {fn : Func} {c : Code} {cargs : List V} {hs : List Reg} {r : V} {hs' : List Reg} {al : Bool} (t t2 : Tmp) (ty ty2 : TypeId) {n n2 : Nat} [ht : Ag P ty n] [ht2 : Ag P ty2 n2]
    (hf : P.funcs[f]? = some fn) (hb : fn.body = some c) (hr : fn.results = #[.cell t ty, .cell t2 ty2] := by rfl)
    (h : AW P c (fun e S => (e = .ret ∨ e = .normal) ∧ ∃ v v2, CellIs S.tmps S.H t n v ∧ CellIs S.tmps S.H t2 n2 v2 ∧ Out al r hs' (.tup [v, v2]) S) ⟨cargs ++ List.replicate (fn.ntmps - cargs.length) (.k undef), hs, hs.length⟩) : Meets P f cargs hs r hs' al := by
  intro A φ w xs hok hrel hsz
  refine calls_of_wp hf hb ?_
  have hI : Inv ⟨A, w, φ, hs⟩ φ ⟨cargs ++ List.replicate (fn.ntmps - cargs.length) (.k undef), hs, hs.length⟩ { tmps := xs ++ Array.replicate (fn.ntmps - xs.size) undef, defers := [] } w := by
    refine ⟨hok.len, ⟨A, ⟨hok, fun b hb => Or.inl hb, fun h b hl => Or.inr ⟨h, hl⟩, ⟨rfl, rfl, rfl, Nat.le_refl _, fun _ _ _ => rfl⟩, fun _ _ h => h⟩, ?_⟩, by simp [hsz], rfl⟩
    refine rels_append (rels_congr hrel fun i hi => ?_) (rels_iff.2 fun i c hc => ⟨undef, ?_, ?_⟩)
    · simp [Array.getElem?_append, hsz, hi]
    · have hlt := (List.getElem?_eq_some_iff.1 hc).1
      simp only [List.length_replicate] at hlt
      simp only [Array.getElem?_append, hsz, Nat.not_lt.2 (Nat.le_add_right _ _), if_false, Nat.add_sub_cancel_left]
      simp [hlt]
    · have := List.mem_of_getElem? hc
      obtain rfl := List.eq_of_mem_replicate this
      simp [Rel]
  refine wp_mono (h.out ⟨A, w, φ, hs⟩ φ _ w hI) ?_
  rintro e a' w' ⟨S', φ1, hI', he, v, v2, hc, hc2, ho⟩
  obtain ⟨hm, ⟨A1, hA1, hr1⟩, hs1, hd1⟩ := hI'
  have rd : ∀ {t n v}, CellIs S'.tmps S'.H t n v → ∃ (b off : Nat) (xs' : Array Value), a'.tmps.getD t undef = .pointer (some ⟨b, off, none⟩) ∧ (loadCells ⟨b, off, none⟩ n).run P w' = .ok xs' w' ∧ Rel A1 w' φ1 v (.agg xs') := by
    intro t n v hc
    obtain ⟨⟨h, off, r0, c1, c2, c3, c4, c5⟩⟩ := hc
    obtain ⟨y, y1, y2⟩ := rels_get hr1 c1
    rw [Rel] at y2
    obtain ⟨hd, b, e1, e2, e3⟩ := y2
    obtain ⟨xs', h2, h3, h4⟩ := run_loadCells_rels (P := P) (rels_take (rels_drop (row_cells hA1.ok e1 c2 c3 e2) off) n)
    have hl : ((r0.cells.drop off).take n).length = n := by simp; omega
    rw [hl] at h2
    refine ⟨b, off, xs', ?_, h2, ?_⟩
    · rw [Array.getD_eq_getD_getElem?, show a'.tmps[t]? = some y from y1, e3]
      rfl
    · subst c5; rw [Rel]; exact ⟨xs', rfl, h3, h4⟩
  obtain ⟨b, off, x1, g1, h1, r1⟩ := rd hc
  obtain ⟨b2, off2, x2, g2, h2, r2⟩ := rd hc2
  have hrun : (results fn a'.tmps).run P w' = .ok (.tuple #[Value.agg x1, Value.agg x2]) w' := by
    unfold results
    rw [hr]
    simp only [List.mapM_toArray, List.mapM_cons, List.mapM_nil, g1, g2, Sem.run_bind, Sem.run_map, Sem.run_pure, Result.andThen_ok, asAddr, loadVar, ht.a, ht.s, ht2.a, ht2.s, h1, h2, if_true]
    rfl
  have hxt : Rel A1 w' φ1 (.tup [v, v2]) (.tuple #[Value.agg x1, Value.agg x2]) := by
    rw [Rel]
    refine ⟨_, rfl, by simp, ?_⟩
    rw [Rels]
    refine ⟨⟨.agg x1, rfl, r1⟩, ?_⟩
    rw [Rels]
    refine ⟨⟨.agg x2, rfl, r2⟩, ?_⟩
    rw [Rels]
    trivial
  obtain ⟨φ', A', k1, k2, k3, k4, k5⟩ := ho ⟨A, w, φ, hs⟩ A1 φ1 w' _ hm hA1 hxt
  have key : a'.defers = [] ∧ ∃ v, (results fn a'.tmps).run P w' = .ok v w' ∧ ∃ x φ' A', (Ending.returned v) = .returned x ∧ HeapOk A' w' φ' hs' ∧ Rel A' w' φ' r x ∧ (∀ b, A' b → (al = true ∧ A b) ∨ w.heap.size ≤ b) ∧
      (∀ h b, LiveAt φ' hs' h b → w.heap.size ≤ b ∨ ∃ h0, LiveAt φ hs h0 b) ∧ Framed ⟨A, w, φ, hs⟩ w' ∧ (∀ (h : Nat) (hd : Hd), φ[h]? = some hd → φ'[h]? = some hd) :=
    ⟨hd1, _, hrun, _, φ', A', rfl, k1, k2, k3, k4, hA1.frame, k5⟩
  rcases he with rfl | rfl
  · exact key
  · exact key
theorem fin2C {l : List V} {H : List Reg} {t t2 : Tmp} {n n2 : Nat} {v v2 r : V} (hv : CellIs l H t n v) (hv2 : CellIs l H t2 n2 v2) (hp : Pur true H (.tup [v, v2]) r) : (Exit.ret = .ret ∨ Exit.ret = .normal) ∧ ∃ v v2, CellIs l H t n v ∧ CellIs l H t2 n2 v2 ∧ Out true r [] (.tup [v, v2]) ⟨l, H, 0⟩ := ⟨Or.inl rfl, v, v2, hv, hv2, out_pur rfl hp⟩

theorem finMCf {l : List V} {H : List Reg} {t : Tmp} {n : Nat} {v r : V} {K : List Reg} (ψ : List Nat) (hnd : ψ.Nodup) (hv : CellIs l H t n v) (hr : Le ψ r v) (hH : HLes ψ H ψ K) (hf : flatV r = true) (hK : ∀ q ∈ K, q.mode ≠ 1 ∧ (q.mode = 0 → FlatL q.cells)) :
    (Exit.ret = .ret ∨ Exit.ret = .normal) ∧ ∃ v, CellIs l H t n v ∧ Out false r K v ⟨l, H, 0⟩ := ⟨Or.inl rfl, v, hv, out_of (S := ⟨l, H, 0⟩) ψ (fun i hi => absurd hi (Nat.not_lt_zero _)) (hle_of hnd hH) hr (Or.inr ⟨hf, hK⟩)⟩
/-- As c_copy, al = false. -/
theorem c_copyF (b : Br) (h1 : b.act.length ≤ 1000000000) (h2 : b.wait.length ≤ 1000000000) : Meets Go.Proofs.Try.prog 79 [.agg (brE b)] [] (.agg (brO b)) (brK b.act b.wait) false := by
  refine meets_ofC 2 24 Go.Proofs.Try.func79 rfl rfl ?_
  simp only [Go.Proofs.Try.ntmps79, List.length_cons, List.length_nil, Nat.reduceAdd, Nat.reduceSub, List.replicate_succ, List.replicate_zero, List.cons_append, List.nil_append]
  refine aw_seq ?_
  refine aw_region ?_
  refine do_F rfl ?_
  refine do_F rfl ?_
  refine aops_nil ?_
  refine then_n ?_
  refine aw_seq ?_
  refine aw_perG (fun H => H[0]? = some ⟨24, 4, brE b, 0⟩) 14 rfl ?_
  refine perG_P 0 rfl rfl (by kernel_rfl) rfl (fun _ => rfl) rfl ?_
  refine perG_R 1 rfl rfl (by kernel_rfl) rfl (fun H hG => step_load_ptr rfl rfl hG (Nat.zero_le _) rfl) rfl ?_
  refine perG_P 2 rfl rfl (by kernel_rfl) rfl (fun _ => rfl) rfl ?_
  refine perG_R 3 rfl rfl (by kernel_rfl) rfl (fun H hG => step_load_ptr rfl rfl hG (Nat.zero_le _) rfl) rfl ?_
  refine perG_P 5 rfl rfl (by kernel_rfl) rfl (fun _ => rfl) rfl ?_
  refine perG_R 6 rfl rfl (by kernel_rfl) rfl (fun H hG => step_load_ptr rfl rfl hG (Nat.zero_le _) rfl) rfl ?_
  refine perG_P 9 rfl rfl (by kernel_rfl) rfl (fun _ => rfl) rfl ?_
  refine perG_R 10 rfl rfl (by kernel_rfl) rfl (fun H hG => step_load_ptr rfl rfl hG (Nat.zero_le _) rfl) rfl ?_
  refine perG_2 4 8 (by kernel_rfl) ?_ ?_
  · refine br_WF rfl rfl rfl rfl rfl ?_
    refine perG_2 7 8 (by kernel_rfl) ?_ ?_
    · refine br_W rfl rfl (ap_l (t := clT) (xs := []) (ys := b.act) rfl rfl rfl rfl (Src.lst _ _) (by simp; omega) rfl) rfl rfl ?_
      refine perG_1 8 (by kernel_rfl) ?_
      refine br_WF rfl rfl rfl rfl rfl ?_
      refine perG_1 11 (by kernel_rfl) ?_
      refine br_W rfl rfl (ap_l (t := clT) (xs := []) (ys := b.wait) rfl rfl rfl rfl (Src.lst _ _) (by simp; omega) rfl) rfl rfl ?_
      refine perG_P 12 rfl rfl (by kernel_rfl) rfl (fun _ => rfl) rfl ?_
      refine perG_1 13 (by kernel_rfl) ?_
      refine br_WF rfl rfl rfl rfl rfl ?_
      refine perG_done (by kernel_rfl) ?_
      repeat' first
        | refine aw_seq ?_
        | refine aw_region ?_
        | refine aw_lex [] ?_
        | (refine isA ?_; refine do_F rfl ?_)
        | (refine isL ?_; refine lex_F rfl (by kernel_rfl) rfl rfl ?_)
        | (refine isLg rfl ?_; refine lex_S rfl (by kernel_rfl) rfl rfl ?_)
        | exact finMCf [3, 5] (by decide) (cell_is rfl rfl rfl rfl rfl) (le_agg (les_cons (le_refl rfl) (les_cons (le_refl rfl) (les_cons (le_sl rfl (by simp)) (les_cons (le_sl rfl (by simp)) les_nil))))) (.cons rfl rfl rfl rfl (les_eq rfl (flat_noH _ _)) (.cons rfl rfl rfl rfl (les_eq rfl (flat_noH _ _)) .nil)) rfl (brK_flat _ _)
        | refine aops_nil ?_
        | refine lex_done _ rfl (by kernel_rfl) ?_
        | refine aw_ct rfl ?_
        | refine aw_cf rfl ?_
        | refine aw_block ?_
        | refine then_n ?_
        | refine aw_skip ?_
        | refine aw_exit ?_
        | refine then_x ?_
        | refine then_r ?_
        | refine block_x ?_
        | refine block_n ?_
        | refine block_r ?_
        | refine aw_ret ?_
    · refine br_WF rfl rfl rfl rfl rfl ?_
      refine perG_1 7 (by kernel_rfl) ?_
      refine br_W rfl rfl (ap_l (t := clT) (xs := []) (ys := b.act) rfl rfl rfl rfl (Src.lst _ _) (by simp; omega) rfl) rfl rfl ?_
      refine perG_1 11 (by kernel_rfl) ?_
      refine br_W rfl rfl (ap_l (t := clT) (xs := []) (ys := b.wait) rfl rfl rfl rfl (Src.lst _ _) (by simp; omega) rfl) rfl rfl ?_
      refine perG_P 12 rfl rfl (by kernel_rfl) rfl (fun _ => rfl) rfl ?_
      refine perG_1 13 (by kernel_rfl) ?_
      refine br_WF rfl rfl rfl rfl rfl ?_
      refine perG_done (by kernel_rfl) ?_
      repeat' first
        | refine aw_seq ?_
        | refine aw_region ?_
        | refine aw_lex [] ?_
        | (refine isA ?_; refine do_F rfl ?_)
        | (refine isL ?_; refine lex_F rfl (by kernel_rfl) rfl rfl ?_)
        | (refine isLg rfl ?_; refine lex_S rfl (by kernel_rfl) rfl rfl ?_)
        | exact finMCf [4, 5] (by decide) (cell_is rfl rfl rfl rfl rfl) (le_agg (les_cons (le_refl rfl) (les_cons (le_refl rfl) (les_cons (le_sl rfl (by simp)) (les_cons (le_sl rfl (by simp)) les_nil))))) (.cons rfl rfl rfl rfl (les_eq rfl (flat_noH _ _)) (.cons rfl rfl rfl rfl (les_eq rfl (flat_noH _ _)) .nil)) rfl (brK_flat _ _)
        | refine aops_nil ?_
        | refine lex_done _ rfl (by kernel_rfl) ?_
        | refine aw_ct rfl ?_
        | refine aw_cf rfl ?_
        | refine aw_block ?_
        | refine then_n ?_
        | refine aw_skip ?_
        | refine aw_exit ?_
        | refine then_x ?_
        | refine then_r ?_
        | refine block_x ?_
        | refine block_n ?_
        | refine block_r ?_
        | refine aw_ret ?_
  · refine br_WF rfl rfl rfl rfl rfl ?_
    refine perG_1 4 (by kernel_rfl) ?_
    refine br_WF rfl rfl rfl rfl rfl ?_
    refine perG_1 7 (by kernel_rfl) ?_
    refine br_W rfl rfl (ap_l (t := clT) (xs := []) (ys := b.act) rfl rfl rfl rfl (Src.lst _ _) (by simp; omega) rfl) rfl rfl ?_
    refine perG_1 11 (by kernel_rfl) ?_
    refine br_W rfl rfl (ap_l (t := clT) (xs := []) (ys := b.wait) rfl rfl rfl rfl (Src.lst _ _) (by simp; omega) rfl) rfl rfl ?_
    refine perG_P 12 rfl rfl (by kernel_rfl) rfl (fun _ => rfl) rfl ?_
    refine perG_1 13 (by kernel_rfl) ?_
    refine br_WF rfl rfl rfl rfl rfl ?_
    refine perG_done (by kernel_rfl) ?_
    repeat' first
      | refine aw_seq ?_
      | refine aw_region ?_
      | refine aw_lex [] ?_
      | (refine isA ?_; refine do_F rfl ?_)
      | (refine isL ?_; refine lex_F rfl (by kernel_rfl) rfl rfl ?_)
      | (refine isLg rfl ?_; refine lex_S rfl (by kernel_rfl) rfl rfl ?_)
      | exact finMCf [4, 5] (by decide) (cell_is rfl rfl rfl rfl rfl) (le_agg (les_cons (le_refl rfl) (les_cons (le_refl rfl) (les_cons (le_sl rfl (by simp)) (les_cons (le_sl rfl (by simp)) les_nil))))) (.cons rfl rfl rfl rfl (les_eq rfl (flat_noH _ _)) (.cons rfl rfl rfl rfl (les_eq rfl (flat_noH _ _)) .nil)) rfl (brK_flat _ _)
      | refine aops_nil ?_
      | refine lex_done _ rfl (by kernel_rfl) ?_
      | refine aw_ct rfl ?_
      | refine aw_cf rfl ?_
      | refine aw_block ?_
      | refine then_n ?_
      | refine aw_skip ?_
      | refine aw_exit ?_
      | refine then_x ?_
      | refine then_r ?_
      | refine block_x ?_
      | refine block_n ?_
      | refine block_r ?_
      | refine aw_ret ?_

def br1 (xs : List Int) : Br := cond (decide (beV 2 (cu0 xs) = 0)) (drawB (beC 2 (cu0 xs))).1 (br0 xs)
theorem br1_len (xs : List Int) : (br1 xs).act.length ≤ 10 ∧ (br1 xs).wait.length ≤ 10 := by
  unfold br1
  cases decide (beV 2 (cu0 xs) = 0)
  · exact br0_len xs
  · exact drawB_len _
theorem c_drawEB (xs : List Int) (hl : xs.length ≤ 1000000000) : Meets Go.Proofs.Try.prog 44 [lstOf u8T xs] [] (.tup [.agg (brE (br0 xs)), .agg (brE (br1 xs))]) [] true := by
  have hl1 : (cu0 xs).code.length ≤ 1000000000 := by rw [cu0_code]; exact hl
  have hl2 : (beC 2 (cu0 xs)).code.length ≤ 1000000000 := by rw [beC_code]; exact hl1
  obtain ⟨la, lw⟩ := br0_len xs
  refine meets_of2C 2 3 24 24 Go.Proofs.Try.func44 rfl rfl ?_
  simp only [Go.Proofs.Try.ntmps44, List.length_cons, List.length_nil, Nat.reduceAdd, Nat.reduceSub, List.replicate_succ, List.replicate_zero, List.cons_append, List.nil_append]
  repeat' first
    | refine aw_seq ?_
    | refine aw_region ?_
    | refine aw_lex [] ?_
    | (refine isA ?_; refine do_F rfl ?_)
    | (refine isL ?_; refine lex_F rfl (by kernel_rfl) rfl rfl ?_)
    | (refine isLg rfl ?_; refine lex_S rfl (by kernel_rfl) rfl rfl ?_)
    | (refine isAc 83 ?_; refine do_R rfl (st_callK rfl (c_new xs hl) (.cons (.same rfl) .nil) (fun q hq => by simp at hq; subst hq; exact curR_noH _) rfl rfl) rfl ?_)
    | (refine isLc 83 rfl ?_; refine lex_R rfl (by kernel_rfl) rfl (st_callK rfl (c_new xs hl) (.cons (.same rfl) .nil) (fun q hq => by simp at hq; subst hq; exact curR_noH _) rfl rfl) rfl ?_)
    | (refine isAc 82 ?_; refine do_R rfl (st_broker 3 2 (newC xs) hl rfl rfl rfl rfl (H' := [cell0, cell0, curR (cu0 xs)] ++ brK (br0 xs).act (br0 xs).wait) rfl) rfl ?_)
    | (refine isLc 82 rfl ?_; refine lex_R rfl (by kernel_rfl) rfl (st_broker 3 2 (newC xs) hl rfl rfl rfl rfl (H' := [cell0, cell0, curR (cu0 xs)] ++ brK (br0 xs).act (br0 xs).wait) rfl) rfl ?_)
    | (refine isAc 89 ?_; refine do_R rfl (step_callMs (K := []) (Rs' := [_]) [2] (by decide) rfl (c_once 2 (cu0 xs) hl1) (.cons rfl rfl rfl (curR_noH _) (curR_noH _) .nil) (.cons (.ptr rfl) (.cons (.same rfl) .nil)) (fun q hq => by cases hq) rfl) rfl ?_)
    | (refine isLc 89 rfl ?_; refine lex_R rfl (by kernel_rfl) rfl (step_callMs (K := []) (Rs' := [_]) [2] (by decide) rfl (c_once 2 (cu0 xs) hl1) (.cons rfl rfl rfl (curR_noH _) (curR_noH _) .nil) (.cons (.ptr rfl) (.cons (.same rfl) .nil)) (fun q hq => by cases hq) rfl) rfl ?_)
    | refine aops_nil ?_
    | refine lex_done _ rfl (by kernel_rfl) ?_
    | refine aw_ct rfl ?_
    | refine aw_cf rfl ?_
    | refine aw_block ?_
    | refine then_n ?_
    | refine aw_skip ?_
    | refine aw_exit ?_
    | refine then_x ?_
    | refine then_r ?_
    | refine block_x ?_
    | refine block_n ?_
    | refine block_r ?_
    | refine aw_ret ?_
  refine aw_cond rfl (fun k1 => ?_) (fun k1 => ?_)
  · have e : br1 xs = (drawB (beC 2 (cu0 xs))).1 := by rw [br1, k1]; rfl
    rw [e]
    refine aw_seq ?_
    refine aw_per [2, 3, 4] 5 rfl ?_
    refine per_P 1 rfl (by kernel_rfl) rfl (fun _ => rfl) rfl ?_
    refine per_2F 2 0 rfl rfl (by kernel_rfl) (by kernel_rfl) rfl rfl (st_broker 6 2 (beC 2 (cu0 xs)) hl2 rfl rfl rfl rfl rfl) rfl rfl rfl rfl ?_ ?_
    · skip
      refine per_F 0 rfl (by kernel_rfl) rfl rfl rfl ?_
      refine per_W 3 rfl (by kernel_rfl) rfl rfl (store_ok (m := 0) (T := tab) TabC.ok rfl rfl rfl rfl rfl rfl rfl rfl rfl rfl) rfl ?_
      refine per_W 4 rfl (by kernel_rfl) rfl rfl (store_ok (m := 0) (T := tab) TabC.ok rfl rfl rfl rfl rfl rfl rfl rfl rfl rfl) rfl ?_
      refine per_done (by kernel_rfl) ?_
      repeat' first
        | refine aw_seq ?_
        | refine aw_region ?_
        | refine aw_lex [] ?_
        | (refine isA ?_; refine do_F rfl ?_)
        | (refine isL ?_; refine lex_F rfl (by kernel_rfl) rfl rfl ?_)
        | (refine isLg rfl ?_; refine lex_S rfl (by kernel_rfl) rfl rfl ?_)
        | exact fin2C (cell_is rfl rfl rfl rfl rfl) (cell_is rfl rfl rfl rfl rfl) (.tup (.cons (.agg (.cons (.same rfl) (.cons (.same rfl) (.cons (pur_l rfl rfl) (.cons (pur_l rfl rfl) .nil))))) (.cons (.agg (.cons (.same rfl) (.cons (.same rfl) (.cons (pur_l rfl rfl) (.cons (pur_l rfl rfl) .nil))))) .nil)))
        | refine aops_nil ?_
        | refine lex_done _ rfl (by kernel_rfl) ?_
        | refine aw_ct rfl ?_
        | refine aw_cf rfl ?_
        | refine aw_block ?_
        | refine then_n ?_
        | refine aw_skip ?_
        | refine aw_exit ?_
        | refine then_x ?_
        | refine then_r ?_
        | refine block_x ?_
        | refine block_n ?_
        | refine block_r ?_
        | refine aw_ret ?_
    · skip
      refine per_W 2 rfl (by kernel_rfl) rfl rfl (st_broker 6 2 (beC 2 (cu0 xs)) hl2 rfl rfl rfl rfl rfl) rfl ?_
      refine per_W 3 rfl (by kernel_rfl) rfl rfl (store_ok (m := 0) (T := tab) TabC.ok rfl rfl rfl rfl rfl rfl rfl rfl rfl rfl) rfl ?_
      refine per_W 4 rfl (by kernel_rfl) rfl rfl (store_ok (m := 0) (T := tab) TabC.ok rfl rfl rfl rfl rfl rfl rfl rfl rfl rfl) rfl ?_
      refine per_done (by kernel_rfl) ?_
      repeat' first
        | refine aw_seq ?_
        | refine aw_region ?_
        | refine aw_lex [] ?_
        | (refine isA ?_; refine do_F rfl ?_)
        | (refine isL ?_; refine lex_F rfl (by kernel_rfl) rfl rfl ?_)
        | (refine isLg rfl ?_; refine lex_S rfl (by kernel_rfl) rfl rfl ?_)
        | exact fin2C (cell_is rfl rfl rfl rfl rfl) (cell_is rfl rfl rfl rfl rfl) (.tup (.cons (.agg (.cons (.same rfl) (.cons (.same rfl) (.cons (pur_l rfl rfl) (.cons (pur_l rfl rfl) .nil))))) (.cons (.agg (.cons (.same rfl) (.cons (.same rfl) (.cons (pur_l rfl rfl) (.cons (pur_l rfl rfl) .nil))))) .nil)))
        | refine aops_nil ?_
        | refine lex_done _ rfl (by kernel_rfl) ?_
        | refine aw_ct rfl ?_
        | refine aw_cf rfl ?_
        | refine aw_block ?_
        | refine then_n ?_
        | refine aw_skip ?_
        | refine aw_exit ?_
        | refine then_x ?_
        | refine then_r ?_
        | refine block_x ?_
        | refine block_n ?_
        | refine block_r ?_
        | refine aw_ret ?_
  · have e : br1 xs = br0 xs := by rw [br1, k1]; rfl
    rw [e]
    repeat' first
      | refine aw_seq ?_
      | refine aw_region ?_
      | (refine isA ?_; refine do_F rfl ?_)
      | (refine isL ?_; refine lex_F rfl (by kernel_rfl) rfl rfl ?_)
      | (refine isLg rfl ?_; refine lex_S rfl (by kernel_rfl) rfl rfl ?_)
      | refine aops_nil ?_
      | refine lex_done _ rfl (by kernel_rfl) ?_
      | refine aw_ct rfl ?_
      | refine aw_cf rfl ?_
      | refine aw_block ?_
      | refine then_n ?_
      | refine aw_skip ?_
      | refine aw_exit ?_
      | refine then_x ?_
      | refine then_r ?_
      | refine block_x ?_
      | refine block_n ?_
      | refine block_r ?_
      | refine aw_ret ?_
    refine aw_per [2, 3, 4] 5 rfl ?_
    refine per_F 1 rfl (by kernel_rfl) rfl rfl rfl ?_
    refine per_2F 2 0 rfl rfl (by kernel_rfl) (by kernel_rfl) rfl rfl (st_callK rfl (c_copyF (br0 xs) (by omega) (by omega)) (.cons (.agg (.cons (.same rfl) (.cons (.same rfl) (.cons (pur_l rfl rfl) (.cons (pur_l rfl rfl) .nil))))) .nil) (brK_noH _ _) rfl rfl) rfl rfl rfl rfl ?_ ?_
    · skip
      refine per_F 0 rfl (by kernel_rfl) rfl rfl rfl ?_
      refine per_W 3 rfl (by kernel_rfl) rfl rfl (store_ok (m := 0) (T := tab) TabC.ok rfl rfl rfl rfl rfl rfl rfl rfl rfl rfl) rfl ?_
      refine per_W 4 rfl (by kernel_rfl) rfl rfl (store_ok (m := 0) (T := tab) TabC.ok rfl rfl rfl rfl rfl rfl rfl rfl rfl rfl) rfl ?_
      refine per_done (by kernel_rfl) ?_
      repeat' first
        | refine aw_seq ?_
        | refine aw_region ?_
        | refine aw_lex [] ?_
        | (refine isA ?_; refine do_F rfl ?_)
        | (refine isL ?_; refine lex_F rfl (by kernel_rfl) rfl rfl ?_)
        | (refine isLg rfl ?_; refine lex_S rfl (by kernel_rfl) rfl rfl ?_)
        | exact fin2C (cell_is rfl rfl rfl rfl rfl) (cell_is rfl rfl rfl rfl rfl) (.tup (.cons (.agg (.cons (.same rfl) (.cons (.same rfl) (.cons (pur_l rfl rfl) (.cons (pur_l rfl rfl) .nil))))) (.cons (.agg (.cons (.same rfl) (.cons (.same rfl) (.cons (pur_l rfl rfl) (.cons (pur_l rfl rfl) .nil))))) .nil)))
        | refine aops_nil ?_
        | refine lex_done _ rfl (by kernel_rfl) ?_
        | refine aw_ct rfl ?_
        | refine aw_cf rfl ?_
        | refine aw_block ?_
        | refine then_n ?_
        | refine aw_skip ?_
        | refine aw_exit ?_
        | refine then_x ?_
        | refine then_r ?_
        | refine block_x ?_
        | refine block_n ?_
        | refine block_r ?_
        | refine aw_ret ?_
    · skip
      refine per_W 2 rfl (by kernel_rfl) rfl rfl (st_callK rfl (c_copyF (br0 xs) (by omega) (by omega)) (.cons (.agg (.cons (.same rfl) (.cons (.same rfl) (.cons (pur_l rfl rfl) (.cons (pur_l rfl rfl) .nil))))) .nil) (brK_noH _ _) rfl rfl) rfl ?_
      refine per_W 3 rfl (by kernel_rfl) rfl rfl (store_ok (m := 0) (T := tab) TabC.ok rfl rfl rfl rfl rfl rfl rfl rfl rfl rfl) rfl ?_
      refine per_W 4 rfl (by kernel_rfl) rfl rfl (store_ok (m := 0) (T := tab) TabC.ok rfl rfl rfl rfl rfl rfl rfl rfl rfl rfl) rfl ?_
      refine per_done (by kernel_rfl) ?_
      repeat' first
        | refine aw_seq ?_
        | refine aw_region ?_
        | refine aw_lex [] ?_
        | (refine isA ?_; refine do_F rfl ?_)
        | (refine isL ?_; refine lex_F rfl (by kernel_rfl) rfl rfl ?_)
        | (refine isLg rfl ?_; refine lex_S rfl (by kernel_rfl) rfl rfl ?_)
        | exact fin2C (cell_is rfl rfl rfl rfl rfl) (cell_is rfl rfl rfl rfl rfl) (.tup (.cons (.agg (.cons (.same rfl) (.cons (.same rfl) (.cons (pur_l rfl rfl) (.cons (pur_l rfl rfl) .nil))))) (.cons (.agg (.cons (.same rfl) (.cons (.same rfl) (.cons (pur_l rfl rfl) (.cons (pur_l rfl rfl) .nil))))) .nil)))
        | refine aops_nil ?_
        | refine lex_done _ rfl (by kernel_rfl) ?_
        | refine aw_ct rfl ?_
        | refine aw_cf rfl ?_
        | refine aw_block ?_
        | refine then_n ?_
        | refine aw_skip ?_
        | refine aw_exit ?_
        | refine then_x ?_
        | refine then_r ?_
        | refine block_x ?_
        | refine block_n ?_
        | refine block_r ?_
        | refine aw_ret ?_
end Go.Proofs.Ytjlhfemfmkdlhaa.Ab

/- LvB -/
namespace Go.Proofs.Ytjlhfemfmkdlhaa.Ab
open Go.RowKit

def atV (xs : List Int) (i : Nat) : Int := match xs[i]? with
  | some z => IntKind.i64.wrap z
  | none => (IntKind.i64.wrap (IntKind.i64.wrap ((i : Int) * 37) + IntKind.i64.wrap ((xs.length : Int) * 11))).tmod 256
theorem c_atc (xs : List Int) (i : Nat) (hl : xs.length ≤ 1000000000) : Meets Go.Proofs.Try.prog 45 [lstOf u8T xs, I i] [] (I (atV xs i)) [] false := by
  refine meets_of [4] Go.Proofs.Try.func45 rfl rfl ?_
  simp only [Go.Proofs.Try.ntmps45, List.length_cons, List.length_nil, Nat.reduceAdd, Nat.reduceSub, List.replicate_succ, List.replicate_zero, List.cons_append, List.nil_append]
  repeat' first
    | refine aw_seq ?_
    | refine aw_region ?_
    | refine aw_lex [] ?_
    | (refine isA ?_; refine do_F rfl ?_)
    | (refine isL ?_; refine lex_F rfl (by kernel_rfl) rfl rfl ?_)
    | (refine isLg rfl ?_; refine lex_S rfl (by kernel_rfl) rfl rfl ?_)
    | refine aops_nil ?_
    | refine lex_done _ rfl (by kernel_rfl) ?_
    | refine aw_ct rfl ?_
    | refine aw_cf rfl ?_
    | refine aw_block ?_
    | refine then_n ?_
    | refine aw_skip ?_
    | refine aw_exit ?_
    | refine then_x ?_
    | refine then_r ?_
    | refine block_x ?_
    | refine block_n ?_
    | refine block_r ?_
    | refine aw_ret ?_
  refine aw_cond rfl (fun h => ?_) (fun h => ?_)
  · have hlt : i < xs.length := by simpa using h
    obtain ⟨z, hz⟩ : ∃ z, xs[i]? = some z := ⟨_, List.getElem?_eq_getElem hlt⟩
    have e : atV xs i = IntKind.i64.wrap z := by rw [atV, hz]
    repeat' first
      | refine aw_seq ?_
      | refine aw_region ?_
      | refine aw_lex [] ?_
      | (refine isA ?_; refine do_F rfl ?_)
      | (refine isL ?_; refine lex_F rfl (by kernel_rfl) rfl rfl ?_)
      | (refine isLg rfl ?_; refine lex_S rfl (by kernel_rfl) rfl rfl ?_)
      | (refine isAi ?_; refine do_R rfl (ia_l (t := u8T) (z := z) rfl rfl rfl rfl (Int.natCast_nonneg i) hz) rfl ?_)
      | (refine isLi rfl ?_; refine lex_R rfl (by kernel_rfl) rfl (ia_l (t := u8T) (z := z) rfl rfl rfl rfl (Int.natCast_nonneg i) hz) rfl ?_)
      | exact fin1 rfl rfl (by rw [e])
      | refine aops_nil ?_
      | refine lex_done _ rfl (by kernel_rfl) ?_
      | refine aw_ct rfl ?_
      | refine aw_cf rfl ?_
      | refine aw_block ?_
      | refine then_n ?_
      | refine aw_skip ?_
      | refine aw_exit ?_
      | refine then_x ?_
      | refine then_r ?_
      | refine block_x ?_
      | refine block_n ?_
      | refine block_r ?_
      | refine aw_ret ?_
  · have hge : xs.length ≤ i := by
      have : ¬ ((i : Int) < xs.length) := by simpa using h
      omega
    have e : atV xs i = (IntKind.i64.wrap (IntKind.i64.wrap ((i : Int) * 37) + IntKind.i64.wrap ((xs.length : Int) * 11))).tmod 256 := by rw [atV, List.getElem?_eq_none hge]
    repeat' first
      | refine aw_seq ?_
      | refine aw_region ?_
      | refine aw_lex [] ?_
      | (refine isA ?_; refine do_F rfl ?_)
      | (refine isL ?_; refine lex_F rfl (by kernel_rfl) rfl rfl ?_)
      | (refine isLg rfl ?_; refine lex_S rfl (by kernel_rfl) rfl rfl ?_)
      | exact fin1 rfl rfl (by rw [e])
      | refine aops_nil ?_
      | refine lex_done _ rfl (by kernel_rfl) ?_
      | refine aw_ct rfl ?_
      | refine aw_cf rfl ?_
      | refine aw_block ?_
      | refine then_n ?_
      | refine aw_skip ?_
      | refine aw_exit ?_
      | refine then_x ?_
      | refine then_r ?_
      | refine block_x ?_
      | refine block_n ?_
      | refine block_r ?_
      | refine aw_ret ?_
theorem at_nn {xs : List Int} {i : Nat} (hl : xs.length ≤ 1000000000) (hi : i ≤ 1000000000) (hb : ∀ x ∈ xs, 0 ≤ x ∧ x ≤ 255) : 0 ≤ atV xs i := by
  cases hz : xs[i]? with
  | some z =>
    rw [atV, hz]
    have := hb z (List.mem_of_getElem? hz)
    show 0 ≤ IntKind.i64.wrap z
    rw [IntKind.wrap_i64]; omega
  | none =>
    rw [atV, hz]
    show 0 ≤ (IntKind.i64.wrap (IntKind.i64.wrap ((i : Int) * 37) + IntKind.i64.wrap ((xs.length : Int) * 11))).tmod 256
    have e1 : IntKind.i64.wrap ((i : Int) * 37) = (i : Int) * 37 := by rw [IntKind.wrap_i64]; omega
    have e2 : IntKind.i64.wrap ((xs.length : Int) * 11) = (xs.length : Int) * 11 := by rw [IntKind.wrap_i64]; omega
    rw [e1, e2]
    have e3 : IntKind.i64.wrap ((i : Int) * 37 + (xs.length : Int) * 11) = (i : Int) * 37 + (xs.length : Int) * 11 := by rw [IntKind.wrap_i64]; omega
    rw [e3]
    exact Int.tmod_nonneg _ (by omega)

theorem act_some {b : Br} (V : VB b) (h : 0 < b.act.length + b.wait.length) : 0 < b.act.length := by
  have := (roomV_range V.p0 V.p1).1
  rcases V.full with h1 | h1 <;> omega

theorem law_BrokerLiveness (xs : List Int) (hl0 : xs.length ≤ 9223372036854775807) (hb : ∀ x ∈ xs, 0 ≤ x ∧ x ≤ 255) : Meets Go.Proofs.Try.prog 12 [lstOf u8T xs] [] (B true) [] false := by
  refine meets_of [2] Go.Proofs.Try.func12 rfl rfl ?_
  simp only [Go.Proofs.Try.ntmps12, List.length_cons, List.length_nil, Nat.reduceAdd, Nat.reduceSub, List.replicate_succ, List.replicate_zero, List.cons_append, List.nil_append]
  repeat' first
    | refine aw_seq ?_
    | refine aw_region ?_
    | refine aw_lex [] ?_
    | (refine isA ?_; refine do_F rfl ?_)
    | (refine isL ?_; refine lex_F rfl (by kernel_rfl) rfl rfl ?_)
    | (refine isLg rfl ?_; refine lex_S rfl (by kernel_rfl) rfl rfl ?_)
    | (refine isAc 37 ?_; refine do_R rfl (st_call rfl (c_big xs) (.cons (.same rfl) .nil) rfl) rfl ?_)
    | (refine isLc 37 rfl ?_; refine lex_R rfl (by kernel_rfl) rfl (st_call rfl (c_big xs) (.cons (.same rfl) .nil) rfl) rfl ?_)
    | refine aops_nil ?_
    | refine lex_done _ rfl (by kernel_rfl) ?_
    | refine aw_ct rfl ?_
    | refine aw_cf rfl ?_
    | refine aw_block ?_
    | refine then_n ?_
    | refine aw_skip ?_
    | refine aw_exit ?_
    | refine then_x ?_
    | refine then_r ?_
    | refine block_x ?_
    | refine block_n ?_
    | refine block_r ?_
    | refine aw_ret ?_
  refine aw_cond rfl (fun h => ?_) (fun h => ?_)
  · repeat' first
      | refine aw_seq ?_
      | refine aw_region ?_
      | refine aw_lex [] ?_
      | (refine isA ?_; refine do_F rfl ?_)
      | (refine isL ?_; refine lex_F rfl (by kernel_rfl) rfl rfl ?_)
      | (refine isLg rfl ?_; refine lex_S rfl (by kernel_rfl) rfl rfl ?_)
      | exact fin1 rfl rfl rfl
      | refine aops_nil ?_
      | refine lex_done _ rfl (by kernel_rfl) ?_
      | refine aw_ct rfl ?_
      | refine aw_cf rfl ?_
      | refine aw_block ?_
      | refine then_n ?_
      | refine aw_skip ?_
      | refine aw_exit ?_
      | refine then_x ?_
      | refine then_r ?_
      | refine block_x ?_
      | refine block_n ?_
      | refine block_r ?_
      | refine aw_ret ?_
  have hl : xs.length ≤ 1000000000 := by have := of_decide_eq_false h; omega
  obtain ⟨la, lw⟩ := br0_len xs
  have d1 := c_drawB xs hl
  have d2 := c_drawEB xs hl
  obtain ⟨n1, n2, n3⟩ := nb_len (pkV [7, 8, 120, 121, -1, 50] (newC xs))
  have d3 := c_seqB (nbV (pkV [7, 8, 120, 121, -1, 50] (newC xs))).1 (nbV (pkV [7, 8, 120, 121, -1, 50] (newC xs))).1 (by rw [n1]; exact Nat.zero_le _) (by rw [n2]; exact Nat.zero_le _)
  rw [eqBr_self] at d3
  generalize br0 xs = b at d1 d2 la lw
  have h1 : b.act.length ≤ 1000000000 := by omega
  have h2 : b.wait.length ≤ 1000000000 := by omega
  repeat' first
    | (refine isL ?_; refine lex_R rfl (by kernel_rfl) rfl (neqB_same rfl rfl rfl (by kernel_rfl)) rfl ?_)
    | refine aw_seq ?_
    | refine aw_region ?_
    | refine aw_lex [] ?_
    | (refine isA ?_; refine do_F rfl ?_)
    | (refine isL ?_; refine lex_F rfl (by kernel_rfl) rfl rfl ?_)
    | (refine isLg rfl ?_; refine lex_S rfl (by kernel_rfl) rfl rfl ?_)
    | (refine isAc 42 ?_; refine do_R rfl (st_call rfl d1 (.cons (.same rfl) .nil) rfl) rfl ?_)
    | (refine isLc 42 rfl ?_; refine lex_R rfl (by kernel_rfl) rfl (st_call rfl d1 (.cons (.same rfl) .nil) rfl) rfl ?_)
    | (refine isAc 43 ?_; refine do_R rfl (st_call rfl (c_drawNB xs hl) (.cons (.same rfl) .nil) rfl) rfl ?_)
    | (refine isLc 43 rfl ?_; refine lex_R rfl (by kernel_rfl) rfl (st_call rfl (c_drawNB xs hl) (.cons (.same rfl) .nil) rfl) rfl ?_)
    | (refine isAc 16 ?_; refine do_R rfl (st_call rfl (c_inb _) (.cons (.same rfl) .nil) rfl) rfl ?_)
    | (refine isLc 16 rfl ?_; refine lex_R rfl (by kernel_rfl) rfl (st_call rfl (c_inb _) (.cons (.same rfl) .nil) rfl) rfl ?_)
    | (refine isAc 15 ?_; refine do_R rfl (st_call rfl (c_snbL _) (.cons (.same rfl) .nil) rfl) rfl ?_)
    | (refine isLc 15 rfl ?_; refine lex_R rfl (by kernel_rfl) rfl (st_call rfl (c_snbL _) (.cons (.same rfl) .nil) rfl) rfl ?_)
    | (refine isAc 44 ?_; refine do_R rfl (st_call rfl d2 (.cons (.same rfl) .nil) rfl) rfl ?_)
    | (refine isLc 44 rfl ?_; refine lex_R rfl (by kernel_rfl) rfl (st_call rfl d2 (.cons (.same rfl) .nil) rfl) rfl ?_)
    | (refine isAc 21 (x := #[.tmp 41, .tmp 42]) ?_; refine do_R rfl (st_call rfl d3 (.cons (.same rfl) (.cons (.same rfl) .nil)) rfl) rfl ?_)
    | (refine isLc 21 (x := #[.tmp 41, .tmp 42]) rfl ?_; refine lex_R rfl (by kernel_rfl) rfl (st_call rfl d3 (.cons (.same rfl) (.cons (.same rfl) .nil)) rfl) rfl ?_)
    | (refine isAc 23 ?_; refine do_R rfl (st_call rfl (c_ieqB b (br1 xs) h1 h2) (.cons (.same rfl) (.cons (.same rfl) .nil)) rfl) rfl ?_)
    | (refine isLc 23 rfl ?_; refine lex_R rfl (by kernel_rfl) rfl (st_call rfl (c_ieqB b (br1 xs) h1 h2) (.cons (.same rfl) (.cons (.same rfl) .nil)) rfl) rfl ?_)
    | (refine isAc 21 (x := #[.tmp 50, .tmp 51]) ?_; refine do_R rfl (st_call rfl (c_seqB b (br1 xs) h1 h2) (.cons (.same rfl) (.cons (.same rfl) .nil)) rfl) rfl ?_)
    | (refine isLc 21 (x := #[.tmp 50, .tmp 51]) rfl ?_; refine lex_R rfl (by kernel_rfl) rfl (st_call rfl (c_seqB b (br1 xs) h1 h2) (.cons (.same rfl) (.cons (.same rfl) .nil)) rfl) rfl ?_)
    | (refine isAc 24 ?_; refine do_R rfl (st_call rfl (c_svalid b h1 h2) (.cons (.same rfl) .nil) rfl) rfl ?_)
    | (refine isLc 24 rfl ?_; refine lex_R rfl (by kernel_rfl) rfl (st_call rfl (c_svalid b h1 h2) (.cons (.same rfl) .nil) rfl) rfl ?_)
    | (refine isAc 25 ?_; refine do_R rfl (st_call rfl (c_ivalid b h1 h2) (.cons (.same rfl) .nil) rfl) rfl ?_)
    | (refine isLc 25 rfl ?_; refine lex_R rfl (by kernel_rfl) rfl (st_call rfl (c_ivalid b h1 h2) (.cons (.same rfl) .nil) rfl) rfl ?_)
    | refine aops_nil ?_
    | refine lex_done _ rfl (by kernel_rfl) ?_
    | refine aw_ct rfl ?_
    | refine aw_cf rfl ?_
    | refine aw_block ?_
    | refine then_n ?_
    | refine aw_skip ?_
    | refine aw_exit ?_
    | refine then_x ?_
    | refine then_r ?_
    | refine block_x ?_
    | refine block_n ?_
    | refine block_r ?_
    | refine aw_ret ?_
  refine aw_cond rfl (fun hv => ?_) (fun hv => ?_)
  · have hv : validB b = false := by simpa using hv
    repeat' first
      | refine aw_seq ?_
      | refine aw_region ?_
      | refine aw_lex [] ?_
      | (refine isA ?_; refine do_F rfl ?_)
      | (refine isL ?_; refine lex_F rfl (by kernel_rfl) rfl rfl ?_)
      | (refine isLg rfl ?_; refine lex_S rfl (by kernel_rfl) rfl rfl ?_)
      | (refine isAc 25 ?_; refine do_R rfl (st_call rfl (c_ivalid b h1 h2) (.cons (.same rfl) .nil) rfl) rfl ?_)
      | (refine isLc 25 rfl ?_; refine lex_R rfl (by kernel_rfl) rfl (st_call rfl (c_ivalid b h1 h2) (.cons (.same rfl) .nil) rfl) rfl ?_)
      | exact fin1 rfl rfl (by rw [hv]; rfl)
      | refine aops_nil ?_
      | refine lex_done _ rfl (by kernel_rfl) ?_
      | refine aw_ct rfl ?_
      | refine aw_cf rfl ?_
      | refine aw_block ?_
      | refine then_n ?_
      | refine aw_skip ?_
      | refine aw_exit ?_
      | refine then_x ?_
      | refine then_r ?_
      | refine block_x ?_
      | refine block_n ?_
      | refine block_r ?_
      | refine aw_ret ?_
  have hv : validB b = true := by simpa using hv
  have V := (valid_iff b).1 hv
  repeat' first
    | refine aw_seq ?_
    | refine aw_region ?_
    | refine aw_lex [] ?_
    | (refine isA ?_; refine do_F rfl ?_)
    | (refine isL ?_; refine lex_F rfl (by kernel_rfl) rfl rfl ?_)
    | (refine isLg rfl ?_; refine lex_S rfl (by kernel_rfl) rfl rfl ?_)
    | refine aops_nil ?_
    | refine lex_done _ rfl (by kernel_rfl) ?_
    | refine aw_ct rfl ?_
    | refine aw_cf rfl ?_
    | refine aw_block ?_
    | refine then_n ?_
    | refine aw_skip ?_
    | refine aw_exit ?_
    | refine then_x ?_
    | refine then_r ?_
    | refine block_x ?_
    | refine block_n ?_
    | refine block_r ?_
    | refine aw_ret ?_
  refine aw_loop (α := { p : Nat × Br // VB p.2 ∧ p.2.act.length + p.2.wait.length + p.1 = b.act.length + b.wait.length }) (fun p => ⟨((lstOf u8T xs) :: .any :: .any :: .any :: .any :: .any :: .any :: .any :: .any :: .any :: .any :: (I ((b.act.length + b.wait.length : Nat) : Int)) :: (.ptr 0 0) :: (I p.1.1) :: .any :: .any :: .any :: .any :: .any :: .any :: .any :: .any :: .any :: .any :: .any :: .any :: .any :: .any :: .any :: .any :: .any :: .any :: .any :: .any :: .any :: .any :: .any :: .any :: .any :: .any :: .any :: .any :: .any :: .any :: .any :: .any :: .any :: .any :: .any :: .any :: .any :: .any :: .any :: .any :: .any :: .any :: .any :: .any :: .any :: .any :: .any :: .any :: .any :: .any :: .any :: .any :: .any :: .any :: .any :: .any :: .any :: .any :: .any :: .any :: .any :: .any :: .any :: .any :: .any :: .any :: .any :: .any :: .any :: .any :: .any :: .any :: .any :: .any :: .any :: .any :: .any :: .any :: .any :: .any :: .any :: .any :: .any :: .any :: .any :: .any :: .any :: .any :: .any :: .any :: .any :: .any :: .any :: .any :: .any :: .any :: .any :: .any :: .any :: .any :: .any :: .any :: .any :: .any :: .any :: .any :: .any :: .any :: .any :: .any :: .any :: .any :: .any :: .any :: .any :: .any :: .any :: []), [⟨24, 4, brE p.1.2, 0⟩], 0⟩) (fun p => p.1.2.act.length + p.1.2.wait.length) ⟨(0, b), V, rfl⟩ ?_ ?_
  · exact sub0 [5] rfl rfl (by decide) (by repeat' first | exact HLes.nil | refine HLes.cons rfl rfl rfl rfl ?_ ?_ | exact les_nil | refine les_cons ?_ ?_ | exact le_any | exact le_refl rfl | exact le_sl rfl rfl | exact le_ptr rfl) (by
      repeat' first
        | exact les_nil
        | refine les_cons ?_ ?_
        | exact le_any
        | exact le_refl rfl
        | exact le_ptr rfl
        | exact le_k (congrArg _ (show ((b.act.length + b.wait.length : Nat) : Int) = IntKind.i64.wrap ((b.act.length : Int) + b.wait.length) by rw [IntKind.wrap_i64]; omega)))
  · rintro ⟨⟨i, x⟩, Vx, hn⟩
    simp only at hn Vx
    have hvx := (valid_iff x).2 Vx
    have x1 : x.act.length ≤ 1000000000 := by omega
    have x2 : x.wait.length ≤ 1000000000 := by omega
    repeat' first
      | refine aw_seq ?_
      | refine aw_region ?_
      | refine aw_lex [] ?_
      | (refine isA ?_; refine do_F rfl ?_)
      | (refine isL ?_; refine lex_F rfl (by kernel_rfl) rfl rfl ?_)
      | (refine isLg rfl ?_; refine lex_S rfl (by kernel_rfl) rfl rfl ?_)
      | refine aops_nil ?_
      | refine lex_done _ rfl (by kernel_rfl) ?_
      | refine aw_ct rfl ?_
      | refine aw_cf rfl ?_
      | refine aw_block ?_
      | refine then_n ?_
      | refine aw_skip ?_
      | refine aw_exit ?_
      | refine then_x ?_
      | refine then_r ?_
      | refine block_x ?_
      | refine block_n ?_
      | refine block_r ?_
      | refine aw_ret ?_
    refine aw_cond rfl (fun h => ?_) (fun h => ?_)
    · have hlt : i < b.act.length + b.wait.length := by have := of_decide_eq_true h; simp only at this; omega
      have ha := act_some Vx (by omega)
      have hat := at_nn (i := i) hl (by omega) hb
      have hr0 : 0 ≤ (atV xs i).tmod (x.act.length : Int) := Int.tmod_nonneg _ hat
      have hr1 : (atV xs i).tmod (x.act.length : Int) < x.act.length := Int.tmod_lt_of_pos _ (by omega)
      obtain ⟨z, hz⟩ : ∃ z, x.act[((atV xs i).tmod (x.act.length : Int)).toNat]? = some z := ⟨_, List.getElem?_eq_getElem (by omega)⟩
      have r1 := rm_active Vx hz
      obtain ⟨Vy, r2, _, _⟩ := rm_valid r1
      have hvy := (valid_iff _).2 Vy
      have d4 : Meets Go.Proofs.Try.prog 41 [.agg (brE x), I z.a] [] (.tup [.agg (brE (rmV x z.a).1), B true]) [] true := by
        have q := (c_irm x z.a x1 x2).frozen (r' := .tup [.agg (brE (rmV x z.a).1), B (rmV x z.a).2]) (pur_br rfl)
        rw [r1] at q
        exact q
      have hw : IntKind.i64.wrap (((rmV x z.a).1.act.length : Int) + (rmV x z.a).1.wait.length) = IntKind.i64.wrap (IntKind.i64.wrap ((x.act.length : Int) + x.wait.length) - 1) := by
        have e1 : IntKind.i64.wrap ((x.act.length : Int) + x.wait.length) = (x.act.length : Int) + x.wait.length := by rw [IntKind.wrap_i64]; omega
        rw [e1]
        exact congrArg _ (by omega)
      obtain ⟨l1, l2⟩ := rmV_len x z.a
      have d5 := c_svalid (rmV x z.a).1 (by omega) (by omega)
      rw [hvy] at d5
      repeat' first
        | refine aw_seq ?_
        | refine aw_region ?_
        | refine aw_lex [] ?_
        | (refine isA ?_; refine do_F rfl ?_)
        | (refine isL ?_; refine lex_F rfl (by kernel_rfl) rfl rfl ?_)
        | (refine isLg rfl ?_; refine lex_S rfl (by kernel_rfl) rfl rfl ?_)
        | refine aops_nil ?_
        | refine lex_done _ rfl (by kernel_rfl) ?_
        | refine aw_ct rfl ?_
        | refine aw_cf rfl ?_
        | refine aw_block ?_
        | refine then_n ?_
        | refine aw_skip ?_
        | refine aw_exit ?_
        | refine then_x ?_
        | refine then_r ?_
        | refine block_x ?_
        | refine block_n ?_
        | refine block_r ?_
        | refine aw_ret ?_
      refine aw_cond rfl (fun k => absurd (of_decide_eq_true k) (by simp only; omega)) (fun _ => ?_)
      repeat' first
        | refine aw_seq ?_
        | refine aw_region ?_
        | (refine isA ?_; refine do_F rfl ?_)
        | (refine isL ?_; refine lex_F rfl (by kernel_rfl) rfl rfl ?_)
        | (refine isLg rfl ?_; refine lex_S rfl (by kernel_rfl) rfl rfl ?_)
        | refine aops_nil ?_
        | refine lex_done _ rfl (by kernel_rfl) ?_
        | refine aw_ct rfl ?_
        | refine aw_cf rfl ?_
        | refine aw_block ?_
        | refine then_n ?_
        | refine aw_skip ?_
        | refine aw_exit ?_
        | refine then_x ?_
        | refine then_r ?_
        | refine block_x ?_
        | refine block_n ?_
        | refine block_r ?_
        | refine aw_ret ?_
      refine aw_perG (fun H => H[0]? = some ⟨24, 4, brE x, 0⟩) 20 rfl ?_
      refine perG_R 0 rfl rfl (by kernel_rfl) rfl (fun H hG => rd_ag (v := .agg (brE x)) rfl rfl hG rfl rfl rfl) rfl ?_
      refine perG_P 1 rfl rfl (by kernel_rfl) rfl (fun _ => rfl) rfl ?_
      refine perG_R 2 rfl rfl (by kernel_rfl) rfl (fun H hG => rd_sc (c := clL x.act) rfl rfl hG rfl rfl) rfl ?_
      refine perG_P 3 rfl rfl (by kernel_rfl) rfl (fun _ => rfl) rfl ?_
      refine perG_P 4 rfl rfl (by kernel_rfl) rfl (fun _ => rfl) rfl ?_
      refine perG_R 5 rfl rfl (by kernel_rfl) rfl (fun H hG => st_call rfl (c_atc xs i hl) (.cons (.same rfl) (.cons (.same rfl) .nil)) rfl) rfl ?_
      refine perG_P 6 rfl rfl (by kernel_rfl) rfl (fun _ => rfl) rfl ?_
      refine perG_R 7 rfl rfl (by kernel_rfl) rfl (fun H hG => rd_sc (c := clL x.act) rfl rfl hG rfl rfl) rfl ?_
      refine perG_P 8 rfl rfl (by kernel_rfl) rfl (fun _ => rfl) rfl ?_
      refine perG_R 9 rfl rfl (by kernel_rfl) rfl (fun H hG => step_rem rfl rfl rfl (by omega)) rfl ?_
      refine perG_R 10 rfl rfl (by kernel_rfl) rfl (fun H hG => ia_l (t := clT) (z := z) rfl rfl rfl rfl hr0 hz) rfl ?_
      refine perG_P 11 rfl rfl (by kernel_rfl) rfl (fun _ => rfl) rfl ?_
      refine perG_P 12 rfl rfl (by kernel_rfl) rfl (fun _ => rfl) rfl ?_
      refine perG_R 13 rfl rfl (by kernel_rfl) rfl (fun H hG => st_call rfl d4 (.cons (.same rfl) (.cons (.same rfl) .nil)) rfl) rfl ?_
      refine perG_P 14 rfl rfl (by kernel_rfl) rfl (fun _ => rfl) rfl ?_
      refine perG_P 15 rfl rfl (by kernel_rfl) rfl (fun _ => rfl) rfl ?_
      refine perG_P 16 rfl rfl (by kernel_rfl) rfl (fun _ => rfl) rfl ?_
      refine perG_1 17 (by kernel_rfl) ?_
      refine br_WF rfl rfl rfl rfl rfl ?_
      refine perG_1 18 (by kernel_rfl) ?_
      refine br_WF rfl rfl rfl rfl rfl ?_
      refine perG_P 19 rfl rfl (by kernel_rfl) rfl (fun _ => rfl) rfl ?_
      refine perG_done (by kernel_rfl) ?_
      repeat' first
        | refine aw_seq ?_
        | refine aw_region ?_
        | refine aw_lex [] ?_
        | (refine isA ?_; refine do_F rfl ?_)
        | (refine isL ?_; refine lex_F rfl (by kernel_rfl) rfl rfl ?_)
        | (refine isLg rfl ?_; refine lex_S rfl (by kernel_rfl) rfl rfl ?_)
        | (refine isAc 24 ?_; refine do_R rfl (st_call rfl d5 (.cons (.same rfl) .nil) rfl) rfl ?_)
        | (refine isLc 24 rfl ?_; refine lex_R rfl (by kernel_rfl) rfl (st_call rfl d5 (.cons (.same rfl) .nil) rfl) rfl ?_)
        | refine aops_nil ?_
        | refine lex_done _ rfl (by kernel_rfl) ?_
        | refine aw_ct rfl ?_
        | refine aw_cf rfl ?_
        | refine aw_block ?_
        | refine then_n ?_
        | refine aw_skip ?_
        | refine aw_exit ?_
        | refine then_x ?_
        | refine then_r ?_
        | refine block_x ?_
        | refine block_n ?_
        | refine block_r ?_
        | refine aw_ret ?_
      refine aw_cond rfl (fun k => absurd k (by simp only [hw]; simp)) (fun _ => ?_)
      repeat' first
        | refine aw_seq ?_
        | refine aw_region ?_
        | refine aw_lex [] ?_
        | (refine isA ?_; refine do_F rfl ?_)
        | (refine isL ?_; refine lex_F rfl (by kernel_rfl) rfl rfl ?_)
        | (refine isLg rfl ?_; refine lex_S rfl (by kernel_rfl) rfl rfl ?_)
        | refine aops_nil ?_
        | refine lex_done _ rfl (by kernel_rfl) ?_
        | refine aw_ct rfl ?_
        | refine aw_cf rfl ?_
        | refine aw_block ?_
        | refine then_n ?_
        | refine aw_skip ?_
        | refine aw_exit ?_
        | refine then_x ?_
        | refine then_r ?_
        | refine block_x ?_
        | refine block_n ?_
        | refine block_r ?_
        | refine aw_ret ?_
      refine ⟨⟨(i + 1, (rmV x z.a).1), Vy, by simp only; omega⟩, by simp only; omega, ?_⟩
      exact sub0 [0] rfl rfl (by decide) (by repeat' first | exact HLes.nil | refine HLes.cons rfl rfl rfl rfl ?_ ?_ | exact les_nil | refine les_cons ?_ ?_ | exact le_any | exact le_refl rfl | exact le_sl rfl rfl | exact le_ptr rfl) (by
        repeat' first
          | exact les_nil
          | refine les_cons ?_ ?_
          | exact le_any
          | exact le_refl rfl
          | exact le_ptr rfl
          | exact le_i hlt (by omega))
    · have hge : x.act.length = 0 ∧ x.wait.length = 0 := by have := of_decide_eq_false h; simp only at this; omega
      repeat' first
        | refine aw_seq ?_
        | refine aw_region ?_
        | refine aw_lex [] ?_
        | (refine isA ?_; refine do_F rfl ?_)
        | (refine isL ?_; refine lex_F rfl (by kernel_rfl) rfl rfl ?_)
        | (refine isLg rfl ?_; refine lex_S rfl (by kernel_rfl) rfl rfl ?_)
        | refine aops_nil ?_
        | refine lex_done _ rfl (by kernel_rfl) ?_
        | refine aw_ct rfl ?_
        | refine aw_cf rfl ?_
        | refine aw_block ?_
        | refine then_n ?_
        | refine aw_skip ?_
        | refine aw_exit ?_
        | refine then_x ?_
        | refine then_r ?_
        | refine block_x ?_
        | refine block_n ?_
        | refine block_r ?_
        | refine aw_ret ?_
      refine do_br rfl rfl (fun _ => ?_) (fun k => absurd (of_decide_eq_false k) (by simp only; omega))
      repeat' first
        | refine aw_seq ?_
        | refine aw_region ?_
        | refine aw_lex [] ?_
        | (refine isA ?_; refine do_F rfl ?_)
        | (refine isL ?_; refine lex_F rfl (by kernel_rfl) rfl rfl ?_)
        | (refine isLg rfl ?_; refine lex_S rfl (by kernel_rfl) rfl rfl ?_)
        | exact fin1 rfl rfl (by simp [hge.2])
        | refine aops_nil ?_
        | refine lex_done _ rfl (by kernel_rfl) ?_
        | refine aw_ct rfl ?_
        | refine aw_cf rfl ?_
        | refine aw_block ?_
        | refine then_n ?_
        | refine aw_skip ?_
        | refine aw_exit ?_
        | refine then_x ?_
        | refine then_r ?_
        | refine block_x ?_
        | refine block_n ?_
        | refine block_r ?_
        | refine aw_ret ?_
end Go.Proofs.Ytjlhfemfmkdlhaa.Ab
