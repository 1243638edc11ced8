/- Texts NsAa, MgA, MgB, MpA in one. -/
import Derived.Test.YtkcicbigpbdjpaaQA
import Derived.Test.YtkcicbigpbdjpaaAb5
set_option linter.unusedVariables false
set_option linter.unusedSimpArgs false
set_option maxRecDepth 20000
set_option maxHeartbeats 4000000
/- NsAa -/
namespace Go.Proofs.Ytkcicbigpbdjpaa.Ab
open Go.RowKit

def inV (x lo hi : Int) : Bool := decide (lo ≤ x) && decide (x ≤ hi)
theorem c_in (x lo hi : Int) : Meets Go.Proofs.Try.prog 114 [I x, I lo, I hi] [] (B (inV x lo hi)) [] false := by
  refine meets_of [6] Go.Proofs.Try.func114 rfl rfl ?_
  simp only [Go.Proofs.Try.ntmps114, List.length_cons, List.length_nil, Nat.reduceAdd, Nat.reduceSub, List.replicate_succ, List.replicate_zero, List.cons_append, List.nil_append]
  repeat' first
    | refine aw_seq ?_
    | refine aw_region ?_
    | refine aw_lex [] ?_
    | (refine isA ?_; refine do_F rfl ?_)
    | (refine isL ?_; refine lex_F rfl (by kernel_rfl) rfl rfl ?_)
    | (refine isLg rfl ?_; refine lex_S rfl (by kernel_rfl) rfl rfl ?_)
    | exact fin1 rfl rfl (by first | ((try simp only [Bool.not_eq_true', Bool.not_eq_false'] at *); simp only [inV, *, Bool.true_and, Bool.false_and, Bool.and_true, Bool.and_false, Bool.true_or, Bool.false_or, Bool.or_true, Bool.or_false, Bool.not_true, Bool.not_false, cond_true, cond_false]; done) | (simp_all [inV]; done) | (simp_all [inV]; intros; omega))
    | refine aops_nil ?_
    | refine lex_done _ rfl (by kernel_rfl) ?_
    | refine aw_ct rfl ?_
    | refine aw_cf rfl ?_
    | refine aw_block ?_
    | with_reducible refine then_n ?_
    | refine aw_skip ?_
    | refine aw_exit ?_
    | with_reducible refine then_x ?_
    | with_reducible refine then_r ?_
    | with_reducible refine block_x ?_
    | with_reducible refine block_n ?_
    | with_reducible refine block_r ?_
    | refine aw_ret ?_
    | (refine isAg ?_; refine do_br rfl rfl (fun hbr => ?_) (fun hbr => ?_) <;> (fail_if_success (with_reducible (have hx : true = true := hbr))) <;> (fail_if_success (with_reducible (have hx : false = false := hbr))))
    | (refine isLg rfl ?_; refine lex_br rfl rfl rfl rfl (fun hbr => ?_) (fun hbr => ?_) <;> (fail_if_success (with_reducible (have hx : true = true := hbr))) <;> (fail_if_success (with_reducible (have hx : false = false := hbr))))
theorem c_within (x lo hi : Int) : Meets Go.Proofs.Try.prog 141 [I x, I lo, I hi] [] (B (inV x lo hi)) [] false := by
  refine meets_of [6] Go.Proofs.Try.func141 rfl rfl ?_
  simp only [Go.Proofs.Try.ntmps141, List.length_cons, List.length_nil, Nat.reduceAdd, Nat.reduceSub, List.replicate_succ, List.replicate_zero, List.cons_append, List.nil_append]
  repeat' first
    | refine aw_seq ?_
    | refine aw_region ?_
    | refine aw_lex [] ?_
    | (refine isA ?_; refine do_F rfl ?_)
    | (refine isL ?_; refine lex_F rfl (by kernel_rfl) rfl rfl ?_)
    | (refine isLg rfl ?_; refine lex_S rfl (by kernel_rfl) rfl rfl ?_)
    | exact fin1 rfl rfl (by first | ((try simp only [Bool.not_eq_true', Bool.not_eq_false'] at *); simp only [inV, *, Bool.true_and, Bool.false_and, Bool.and_true, Bool.and_false, Bool.true_or, Bool.false_or, Bool.or_true, Bool.or_false, Bool.not_true, Bool.not_false, cond_true, cond_false]; done) | (simp_all [inV]; done) | (simp_all [inV]; intros; omega))
    | refine aops_nil ?_
    | refine lex_done _ rfl (by kernel_rfl) ?_
    | refine aw_ct rfl ?_
    | refine aw_cf rfl ?_
    | refine aw_block ?_
    | with_reducible refine then_n ?_
    | refine aw_skip ?_
    | refine aw_exit ?_
    | with_reducible refine then_x ?_
    | with_reducible refine then_r ?_
    | with_reducible refine block_x ?_
    | with_reducible refine block_n ?_
    | with_reducible refine block_r ?_
    | refine aw_ret ?_
    | (refine isAg ?_; refine do_br rfl rfl (fun hbr => ?_) (fun hbr => ?_) <;> (fail_if_success (with_reducible (have hx : true = true := hbr))) <;> (fail_if_success (with_reducible (have hx : false = false := hbr))))
    | (refine isLg rfl ?_; refine lex_br rfl rfl rfl rfl (fun hbr => ?_) (fun hbr => ?_) <;> (fail_if_success (with_reducible (have hx : true = true := hbr))) <;> (fail_if_success (with_reducible (have hx : false = false := hbr))))
def vRw (x : Rw) : Bool := inV x.a 0 9 && (inV x.b 0 99 && inV x.c 0 3)
theorem c_svRow (x : Rw) : Meets Go.Proofs.Try.prog 152 [.agg (rwE x)] [] (B (vRw x)) [] false := by
  refine meets_of [2] Go.Proofs.Try.func152 rfl rfl ?_
  simp only [Go.Proofs.Try.ntmps152, List.length_cons, List.length_nil, Nat.reduceAdd, Nat.reduceSub, List.replicate_succ, List.replicate_zero, List.cons_append, List.nil_append]
  repeat' first
    | refine aw_seq ?_
    | refine aw_region ?_
    | refine aw_lex [] ?_
    | (refine isA ?_; refine do_F rfl ?_)
    | (refine isL ?_; refine lex_F rfl (by kernel_rfl) rfl rfl ?_)
    | (refine isLg rfl ?_; refine lex_S rfl (by kernel_rfl) rfl rfl ?_)
    | (refine isAc 114 ?_; refine do_R rfl (st_call rfl (c_in _ _ _) (.cons (.same rfl) (.cons (.same rfl) (.cons (.same rfl) .nil))) rfl) rfl ?_)
    | (refine isLc 114 rfl ?_; refine lex_R rfl (by kernel_rfl) rfl (st_call rfl (c_in _ _ _) (.cons (.same rfl) (.cons (.same rfl) (.cons (.same rfl) .nil))) rfl) rfl ?_)
    | exact fin1 rfl rfl (by first | ((try simp only [Bool.not_eq_true', Bool.not_eq_false'] at *); simp only [vRw, *, Bool.true_and, Bool.false_and, Bool.and_true, Bool.and_false, Bool.true_or, Bool.false_or, Bool.or_true, Bool.or_false, Bool.not_true, Bool.not_false, cond_true, cond_false]; done) | (simp_all [vRw]; done) | (simp_all [vRw]; intros; omega))
    | refine aops_nil ?_
    | refine lex_done _ rfl (by kernel_rfl) ?_
    | refine aw_ct rfl ?_
    | refine aw_cf rfl ?_
    | refine aw_block ?_
    | with_reducible refine then_n ?_
    | refine aw_skip ?_
    | refine aw_exit ?_
    | with_reducible refine then_x ?_
    | with_reducible refine then_r ?_
    | with_reducible refine block_x ?_
    | with_reducible refine block_n ?_
    | with_reducible refine block_r ?_
    | refine aw_ret ?_
    | (refine isAg ?_; refine do_br rfl rfl (fun hbr => ?_) (fun hbr => ?_) <;> (fail_if_success (with_reducible (have hx : true = true := hbr))) <;> (fail_if_success (with_reducible (have hx : false = false := hbr))))
    | (refine isLg rfl ?_; refine lex_br rfl rfl rfl rfl (fun hbr => ?_) (fun hbr => ?_) <;> (fail_if_success (with_reducible (have hx : true = true := hbr))) <;> (fail_if_success (with_reducible (have hx : false = false := hbr))))
theorem c_ivRow (x : Rw) : Meets Go.Proofs.Try.prog 157 [.agg (rwE x)] [] (B (vRw x)) [] false := by
  refine meets_of [2] Go.Proofs.Try.func157 rfl rfl ?_
  simp only [Go.Proofs.Try.ntmps157, List.length_cons, List.length_nil, Nat.reduceAdd, Nat.reduceSub, List.replicate_succ, List.replicate_zero, List.cons_append, List.nil_append]
  repeat' first
    | refine aw_seq ?_
    | refine aw_region ?_
    | refine aw_lex [] ?_
    | (refine isA ?_; refine do_F rfl ?_)
    | (refine isL ?_; refine lex_F rfl (by kernel_rfl) rfl rfl ?_)
    | (refine isLg rfl ?_; refine lex_S rfl (by kernel_rfl) rfl rfl ?_)
    | (refine isAc 141 ?_; refine do_R rfl (st_call rfl (c_within _ _ _) (.cons (.same rfl) (.cons (.same rfl) (.cons (.same rfl) .nil))) rfl) rfl ?_)
    | (refine isLc 141 rfl ?_; refine lex_R rfl (by kernel_rfl) rfl (st_call rfl (c_within _ _ _) (.cons (.same rfl) (.cons (.same rfl) (.cons (.same rfl) .nil))) rfl) rfl ?_)
    | exact fin1 rfl rfl (by first | ((try simp only [Bool.not_eq_true', Bool.not_eq_false'] at *); simp only [vRw, *, Bool.true_and, Bool.false_and, Bool.and_true, Bool.and_false, Bool.true_or, Bool.false_or, Bool.or_true, Bool.or_false, Bool.not_true, Bool.not_false, cond_true, cond_false]; done) | (simp_all [vRw]; done) | (simp_all [vRw]; intros; omega))
    | refine aops_nil ?_
    | refine lex_done _ rfl (by kernel_rfl) ?_
    | refine aw_ct rfl ?_
    | refine aw_cf rfl ?_
    | refine aw_block ?_
    | with_reducible refine then_n ?_
    | refine aw_skip ?_
    | refine aw_exit ?_
    | with_reducible refine then_x ?_
    | with_reducible refine then_r ?_
    | with_reducible refine block_x ?_
    | with_reducible refine block_n ?_
    | with_reducible refine block_r ?_
    | refine aw_ret ?_
    | (refine isAg ?_; refine do_br rfl rfl (fun hbr => ?_) (fun hbr => ?_) <;> (fail_if_success (with_reducible (have hx : true = true := hbr))) <;> (fail_if_success (with_reducible (have hx : false = false := hbr))))
    | (refine isLg rfl ?_; refine lex_br rfl rfl rfl rfl (fun hbr => ?_) (fun hbr => ?_) <;> (fail_if_success (with_reducible (have hx : true = true := hbr))) <;> (fail_if_success (with_reducible (have hx : false = false := hbr))))
theorem all_no {xs : List Rw} {i : Nat} {z : Rw} (hz : xs[i]? = some z) (h : vRw z = false) : xs.all vRw = false := by
  cases ha : xs.all vRw with
  | false => rfl
  | true => rw [List.all_eq_true] at ha; rw [ha z (List.mem_of_getElem? hz)] at h; cases h
theorem all_yes {xs : List Rw} (h : ∀ j z, j < xs.length → xs[j]? = some z → vRw z = true) : xs.all vRw = true := by
  rw [List.all_eq_true]
  intro x hx
  obtain ⟨i, hi⟩ := List.getElem?_of_mem hx
  exact h i x (List.getElem?_eq_some_iff.1 hi).1 hi
def avR (xs : List Rw) : Bool := xs.all vRw && decide ((xs.length : Int) ≤ 24)
theorem c_allV (xs : List Rw) (hl : xs.length ≤ 1000000000) : Meets Go.Proofs.Try.prog 156 [rwL xs] [] (B (xs.all vRw)) [] false := by
  refine meets_of [2] Go.Proofs.Try.func156 rfl rfl ?_
  simp only [Go.Proofs.Try.ntmps156, List.length_cons, List.length_nil, Nat.reduceAdd, Nat.reduceSub, List.replicate_succ, List.replicate_zero, List.cons_append, List.nil_append]
  repeat' first
    | refine aw_seq ?_
    | refine aw_region ?_
    | refine aw_lex [] ?_
    | (refine isA ?_; refine do_F rfl ?_)
    | (refine isL ?_; refine lex_F rfl (by kernel_rfl) rfl rfl ?_)
    | (refine isLg rfl ?_; refine lex_S rfl (by kernel_rfl) rfl rfl ?_)
    | refine aops_nil ?_
    | refine lex_done _ rfl (by kernel_rfl) ?_
    | refine aw_ct rfl ?_
    | refine aw_cf rfl ?_
    | refine aw_block ?_
    | with_reducible refine then_n ?_
    | refine aw_skip ?_
    | refine aw_exit ?_
    | with_reducible refine then_x ?_
    | with_reducible refine then_r ?_
    | with_reducible refine block_x ?_
    | with_reducible refine block_n ?_
    | with_reducible refine block_r ?_
    | refine aw_ret ?_
  refine aw_loop (α := { i : Nat // i ≤ xs.length ∧ ∀ j z, j < i → xs[j]? = some z → vRw z = true }) (fun i => ⟨[rwL xs, .any, .any, .any, .any, rwL xs, I xs.length, I i.1, .any, .any, .any, .any, .any, .any, .any], [], 0⟩) (fun i => xs.length - i.1) ⟨0, Nat.zero_le _, fun j z hj => absurd hj (Nat.not_lt_zero _)⟩ ?_ ?_
  · exact sub0 [] rfl rfl (by decide) .nil (by repeat' first | exact les_nil | refine les_cons ?_ ?_ | exact le_any | exact le_refl rfl | exact le_sl rfl rfl | exact le_ptr rfl)
  · rintro ⟨i, hi, hb⟩
    repeat' first
      | refine aw_seq ?_
      | refine aw_region ?_
      | refine aw_lex [] ?_
      | (refine isA ?_; refine do_F rfl ?_)
      | (refine isL ?_; refine lex_F rfl (by kernel_rfl) rfl rfl ?_)
      | (refine isLg rfl ?_; refine lex_S rfl (by kernel_rfl) rfl rfl ?_)
      | refine aops_nil ?_
      | refine lex_done _ rfl (by kernel_rfl) ?_
      | refine aw_ct rfl ?_
      | refine aw_cf rfl ?_
      | refine aw_block ?_
      | with_reducible refine then_n ?_
      | refine aw_skip ?_
      | refine aw_exit ?_
      | with_reducible refine then_x ?_
      | with_reducible refine then_r ?_
      | with_reducible refine block_x ?_
      | with_reducible refine block_n ?_
      | with_reducible refine block_r ?_
      | refine aw_ret ?_
    refine aw_cond rfl (fun h => ?_) (fun h => ?_)
    · have hlt : i < xs.length := by simpa using h
      obtain ⟨z, hz⟩ : ∃ z, xs[i]? = some z := ⟨_, List.getElem?_eq_getElem hlt⟩
      repeat' first
        | refine aw_seq ?_
        | refine aw_region ?_
        | refine aw_lex [] ?_
        | (refine isA ?_; refine do_F rfl ?_)
        | (refine isL ?_; refine lex_F rfl (by kernel_rfl) rfl rfl ?_)
        | (refine isLg rfl ?_; refine lex_S rfl (by kernel_rfl) rfl rfl ?_)
        | (refine isAi ?_; refine do_R rfl (ia_l (t := rwT) (z := z) rfl rfl rfl rfl (Int.natCast_nonneg i) hz) rfl ?_)
        | (refine isLi rfl ?_; refine lex_R rfl (by kernel_rfl) rfl (ia_l (t := rwT) (z := z) rfl rfl rfl rfl (Int.natCast_nonneg i) hz) rfl ?_)
        | (refine isAc 157 ?_; refine do_R rfl (st_call rfl (c_ivRow z) (.cons (.same rfl) .nil) rfl) rfl ?_)
        | (refine isLc 157 rfl ?_; refine lex_R rfl (by kernel_rfl) rfl (st_call rfl (c_ivRow z) (.cons (.same rfl) .nil) rfl) rfl ?_)
        | refine aops_nil ?_
        | refine lex_done _ rfl (by kernel_rfl) ?_
        | refine aw_ct rfl ?_
        | refine aw_cf rfl ?_
        | refine aw_block ?_
        | with_reducible refine then_n ?_
        | refine aw_skip ?_
        | refine aw_exit ?_
        | with_reducible refine then_x ?_
        | with_reducible refine then_r ?_
        | with_reducible refine block_x ?_
        | with_reducible refine block_n ?_
        | with_reducible refine block_r ?_
        | refine aw_ret ?_
      refine aw_cond rfl (fun h1 => ?_) (fun h1 => ?_)
      · have h2 : vRw z = false := by simpa using h1
        repeat' first
          | refine aw_seq ?_
          | refine aw_region ?_
          | refine aw_lex [] ?_
          | (refine isA ?_; refine do_F rfl ?_)
          | (refine isL ?_; refine lex_F rfl (by kernel_rfl) rfl rfl ?_)
          | (refine isLg rfl ?_; refine lex_S rfl (by kernel_rfl) rfl rfl ?_)
          | exact fin1 rfl rfl (by rw [all_no hz h2])
          | refine aops_nil ?_
          | refine lex_done _ rfl (by kernel_rfl) ?_
          | refine aw_ct rfl ?_
          | refine aw_cf rfl ?_
          | refine aw_block ?_
          | with_reducible refine then_n ?_
          | refine aw_skip ?_
          | refine aw_exit ?_
          | with_reducible refine then_x ?_
          | with_reducible refine then_r ?_
          | with_reducible refine block_x ?_
          | with_reducible refine block_n ?_
          | with_reducible refine block_r ?_
          | refine aw_ret ?_
      · have h2 : vRw z = true := by simpa using h1
        repeat' first
          | refine aw_seq ?_
          | refine aw_region ?_
          | refine aw_lex [] ?_
          | (refine isA ?_; refine do_F rfl ?_)
          | (refine isL ?_; refine lex_F rfl (by kernel_rfl) rfl rfl ?_)
          | (refine isLg rfl ?_; refine lex_S rfl (by kernel_rfl) rfl rfl ?_)
          | refine aops_nil ?_
          | refine lex_done _ rfl (by kernel_rfl) ?_
          | refine aw_ct rfl ?_
          | refine aw_cf rfl ?_
          | refine aw_block ?_
          | with_reducible refine then_n ?_
          | refine aw_skip ?_
          | refine aw_exit ?_
          | with_reducible refine then_x ?_
          | with_reducible refine then_r ?_
          | with_reducible refine block_x ?_
          | with_reducible refine block_n ?_
          | with_reducible refine block_r ?_
          | refine aw_ret ?_
        refine ⟨⟨i + 1, hlt, fun j y hj hy => ?_⟩, by simp only; omega, ?_⟩
        · rcases Nat.lt_succ_iff_lt_or_eq.1 hj with hj | rfl
          · exact hb j y hj hy
          · rw [hz] at hy; cases hy; exact h2
        · exact sub0 [] rfl rfl (by decide) .nil (by repeat' first | exact les_nil | refine les_cons ?_ ?_ | exact le_any | exact le_refl rfl | exact le_sl rfl rfl | exact le_ptr rfl | exact le_i (by assumption) (by omega))
    · have hge : i = xs.length := by
        have : ¬ ((i : Int) < xs.length) := by simpa using h
        omega
      subst hge
      repeat' first
        | refine aw_seq ?_
        | refine aw_region ?_
        | refine aw_lex [] ?_
        | (refine isA ?_; refine do_F rfl ?_)
        | (refine isL ?_; refine lex_F rfl (by kernel_rfl) rfl rfl ?_)
        | (refine isLg rfl ?_; refine lex_S rfl (by kernel_rfl) rfl rfl ?_)
        | exact fin1 rfl rfl (by rw [all_yes hb])
        | refine aops_nil ?_
        | refine lex_done _ rfl (by kernel_rfl) ?_
        | refine aw_ct rfl ?_
        | refine aw_cf rfl ?_
        | refine aw_block ?_
        | with_reducible refine then_n ?_
        | refine aw_skip ?_
        | refine aw_exit ?_
        | with_reducible refine then_x ?_
        | with_reducible refine then_r ?_
        | with_reducible refine block_x ?_
        | with_reducible refine block_n ?_
        | with_reducible refine block_r ?_
        | refine aw_ret ?_
theorem c_savR (xs : List Rw) (hl : xs.length ≤ 1000000000) : Meets Go.Proofs.Try.prog 93 [rwL xs] [] (B (avR xs)) [] false := by
  refine meets_of [2] Go.Proofs.Try.func93 rfl rfl ?_
  simp only [Go.Proofs.Try.ntmps93, List.length_cons, List.length_nil, Nat.reduceAdd, Nat.reduceSub, List.replicate_succ, List.replicate_zero, List.cons_append, List.nil_append]
  repeat' first
    | refine aw_seq ?_
    | refine aw_region ?_
    | refine aw_lex [] ?_
    | (refine isA ?_; refine do_F rfl ?_)
    | (refine isL ?_; refine lex_F rfl (by kernel_rfl) rfl rfl ?_)
    | (refine isLg rfl ?_; refine lex_S rfl (by kernel_rfl) rfl rfl ?_)
    | refine aops_nil ?_
    | refine lex_done _ rfl (by kernel_rfl) ?_
    | refine aw_ct rfl ?_
    | refine aw_cf rfl ?_
    | refine aw_block ?_
    | with_reducible refine then_n ?_
    | refine aw_skip ?_
    | refine aw_exit ?_
    | with_reducible refine then_x ?_
    | with_reducible refine then_r ?_
    | with_reducible refine block_x ?_
    | with_reducible refine block_n ?_
    | with_reducible refine block_r ?_
    | refine aw_ret ?_
  refine aw_loop (α := { i : Nat // i ≤ xs.length ∧ ∀ j z, j < i → xs[j]? = some z → vRw z = true }) (fun i => ⟨[rwL xs, .any, .any, I i.1, .any, .any, .any, .any, .any, .any, .any, .any, .any, .any, .any, .any, .any, .any, .any], [], 0⟩) (fun i => xs.length - i.1) ⟨0, Nat.zero_le _, fun j z hj => absurd hj (Nat.not_lt_zero _)⟩ ?_ ?_
  · exact sub0 [] rfl rfl (by decide) .nil (by repeat' first | exact les_nil | refine les_cons ?_ ?_ | exact le_any | exact le_refl rfl | exact le_sl rfl rfl | exact le_ptr rfl)
  · rintro ⟨i, hi, hb⟩
    repeat' first
      | refine aw_seq ?_
      | refine aw_region ?_
      | refine aw_lex [] ?_
      | (refine isA ?_; refine do_F rfl ?_)
      | (refine isL ?_; refine lex_F rfl (by kernel_rfl) rfl rfl ?_)
      | (refine isLg rfl ?_; refine lex_S rfl (by kernel_rfl) rfl rfl ?_)
      | refine aops_nil ?_
      | refine lex_done _ rfl (by kernel_rfl) ?_
      | refine aw_ct rfl ?_
      | refine aw_cf rfl ?_
      | refine aw_block ?_
      | with_reducible refine then_n ?_
      | refine aw_skip ?_
      | refine aw_exit ?_
      | with_reducible refine then_x ?_
      | with_reducible refine then_r ?_
      | with_reducible refine block_x ?_
      | with_reducible refine block_n ?_
      | with_reducible refine block_r ?_
      | refine aw_ret ?_
    refine aw_cond rfl (fun h => ?_) (fun h => ?_)
    · have hlt : i < xs.length := by simpa using h
      obtain ⟨z, hz⟩ : ∃ z, xs[i]? = some z := ⟨_, List.getElem?_eq_getElem hlt⟩
      repeat' first
        | refine aw_seq ?_
        | refine aw_region ?_
        | refine aw_lex [] ?_
        | (refine isA ?_; refine do_F rfl ?_)
        | (refine isL ?_; refine lex_F rfl (by kernel_rfl) rfl rfl ?_)
        | (refine isLg rfl ?_; refine lex_S rfl (by kernel_rfl) rfl rfl ?_)
        | (refine isAi ?_; refine do_R rfl (ia_l (t := rwT) (z := z) rfl rfl rfl rfl (Int.natCast_nonneg i) hz) rfl ?_)
        | (refine isLi rfl ?_; refine lex_R rfl (by kernel_rfl) rfl (ia_l (t := rwT) (z := z) rfl rfl rfl rfl (Int.natCast_nonneg i) hz) rfl ?_)
        | (refine isAc 152 ?_; refine do_R rfl (st_call rfl (c_svRow z) (.cons (.same rfl) .nil) rfl) rfl ?_)
        | (refine isLc 152 rfl ?_; refine lex_R rfl (by kernel_rfl) rfl (st_call rfl (c_svRow z) (.cons (.same rfl) .nil) rfl) rfl ?_)
        | refine aops_nil ?_
        | refine lex_done _ rfl (by kernel_rfl) ?_
        | refine aw_ct rfl ?_
        | refine aw_cf rfl ?_
        | refine aw_block ?_
        | with_reducible refine then_n ?_
        | refine aw_skip ?_
        | refine aw_exit ?_
        | with_reducible refine then_x ?_
        | with_reducible refine then_r ?_
        | with_reducible refine block_x ?_
        | with_reducible refine block_n ?_
        | with_reducible refine block_r ?_
        | refine aw_ret ?_
      refine aw_cond rfl (fun h1 => ?_) (fun h1 => ?_)
      · have h2 : vRw z = false := by simpa using h1
        repeat' first
          | refine aw_seq ?_
          | refine aw_region ?_
          | refine aw_lex [] ?_
          | (refine isA ?_; refine do_F rfl ?_)
          | (refine isL ?_; refine lex_F rfl (by kernel_rfl) rfl rfl ?_)
          | (refine isLg rfl ?_; refine lex_S rfl (by kernel_rfl) rfl rfl ?_)
          | exact fin1 rfl rfl (by rw [avR, all_no hz h2, Bool.false_and])
          | refine aops_nil ?_
          | refine lex_done _ rfl (by kernel_rfl) ?_
          | refine aw_ct rfl ?_
          | refine aw_cf rfl ?_
          | refine aw_block ?_
          | with_reducible refine then_n ?_
          | refine aw_skip ?_
          | refine aw_exit ?_
          | with_reducible refine then_x ?_
          | with_reducible refine then_r ?_
          | with_reducible refine block_x ?_
          | with_reducible refine block_n ?_
          | with_reducible refine block_r ?_
          | refine aw_ret ?_
      · have h2 : vRw z = true := by simpa using h1
        repeat' first
          | refine aw_seq ?_
          | refine aw_region ?_
          | refine aw_lex [] ?_
          | (refine isA ?_; refine do_F rfl ?_)
          | (refine isL ?_; refine lex_F rfl (by kernel_rfl) rfl rfl ?_)
          | (refine isLg rfl ?_; refine lex_S rfl (by kernel_rfl) rfl rfl ?_)
          | refine aops_nil ?_
          | refine lex_done _ rfl (by kernel_rfl) ?_
          | refine aw_ct rfl ?_
          | refine aw_cf rfl ?_
          | refine aw_block ?_
          | with_reducible refine then_n ?_
          | refine aw_skip ?_
          | refine aw_exit ?_
          | with_reducible refine then_x ?_
          | with_reducible refine then_r ?_
          | with_reducible refine block_x ?_
          | with_reducible refine block_n ?_
          | with_reducible refine block_r ?_
          | refine aw_ret ?_
        refine ⟨⟨i + 1, hlt, fun j y hj hy => ?_⟩, by simp only; omega, ?_⟩
        · rcases Nat.lt_succ_iff_lt_or_eq.1 hj with hj | rfl
          · exact hb j y hj hy
          · rw [hz] at hy; cases hy; exact h2
        · exact sub0 [] rfl rfl (by decide) .nil (by repeat' first | exact les_nil | refine les_cons ?_ ?_ | exact le_any | exact le_refl rfl | exact le_sl rfl rfl | exact le_ptr rfl | exact le_i (by assumption) (by omega))
    · have hge : i = xs.length := by
        have : ¬ ((i : Int) < xs.length) := by simpa using h
        omega
      subst hge
      repeat' first
        | refine aw_seq ?_
        | refine aw_region ?_
        | refine aw_lex [] ?_
        | (refine isA ?_; refine do_F rfl ?_)
        | (refine isL ?_; refine lex_F rfl (by kernel_rfl) rfl rfl ?_)
        | (refine isLg rfl ?_; refine lex_S rfl (by kernel_rfl) rfl rfl ?_)
        | exact fin1 rfl rfl (by rw [avR, all_yes hb, Bool.true_and])
        | refine aops_nil ?_
        | refine lex_done _ rfl (by kernel_rfl) ?_
        | refine aw_ct rfl ?_
        | refine aw_cf rfl ?_
        | refine aw_block ?_
        | with_reducible refine then_n ?_
        | refine aw_skip ?_
        | refine aw_exit ?_
        | with_reducible refine then_x ?_
        | with_reducible refine then_r ?_
        | with_reducible refine block_x ?_
        | with_reducible refine block_n ?_
        | with_reducible refine block_r ?_
        | refine aw_ret ?_
theorem c_iavR (xs : List Rw) (hl : xs.length ≤ 1000000000) : Meets Go.Proofs.Try.prog 107 [rwL xs] [] (B (avR xs)) [] false := by
  refine meets_of [2] Go.Proofs.Try.func107 rfl rfl ?_
  simp only [Go.Proofs.Try.ntmps107, List.length_cons, List.length_nil, Nat.reduceAdd, Nat.reduceSub, List.replicate_succ, List.replicate_zero, List.cons_append, List.nil_append]
  repeat' first
    | refine aw_seq ?_
    | refine aw_region ?_
    | refine aw_lex [] ?_
    | (refine isA ?_; refine do_F rfl ?_)
    | (refine isL ?_; refine lex_F rfl (by kernel_rfl) rfl rfl ?_)
    | (refine isLg rfl ?_; refine lex_S rfl (by kernel_rfl) rfl rfl ?_)
    | (refine isAc 156 ?_; refine do_R rfl (st_call rfl (c_allV xs hl) (.cons (.same rfl) .nil) rfl) rfl ?_)
    | (refine isLc 156 rfl ?_; refine lex_R rfl (by kernel_rfl) rfl (st_call rfl (c_allV xs hl) (.cons (.same rfl) .nil) rfl) rfl ?_)
    | exact fin1 rfl rfl (by first | ((try simp only [Bool.not_eq_true', Bool.not_eq_false'] at *); simp only [avR, *, Bool.true_and, Bool.false_and, Bool.and_true, Bool.and_false, Bool.true_or, Bool.false_or, Bool.or_true, Bool.or_false, Bool.not_true, Bool.not_false, cond_true, cond_false]; done) | (simp_all [avR]; done) | (simp_all [avR]; intros; omega))
    | refine aops_nil ?_
    | refine lex_done _ rfl (by kernel_rfl) ?_
    | refine aw_ct rfl ?_
    | refine aw_cf rfl ?_
    | refine aw_block ?_
    | with_reducible refine then_n ?_
    | refine aw_skip ?_
    | refine aw_exit ?_
    | with_reducible refine then_x ?_
    | with_reducible refine then_r ?_
    | with_reducible refine block_x ?_
    | with_reducible refine block_n ?_
    | with_reducible refine block_r ?_
    | refine aw_ret ?_
    | (refine isAg ?_; refine do_br rfl rfl (fun hbr => ?_) (fun hbr => ?_) <;> (fail_if_success (with_reducible (have hx : true = true := hbr))) <;> (fail_if_success (with_reducible (have hx : false = false := hbr))))
    | (refine isLg rfl ?_; refine lex_br rfl rfl rfl rfl (fun hbr => ?_) (fun hbr => ?_) <;> (fail_if_success (with_reducible (have hx : true = true := hbr))) <;> (fail_if_success (with_reducible (have hx : false = false := hbr))))

theorem c_clone (xs : List Rw) (hl : xs.length ≤ 1000000000) : Meets Go.Proofs.Try.prog 130 [rwL xs] [] (.sl 0 0 xs.length) [rwR xs] false := by
  refine meets_of [2] Go.Proofs.Try.func130 rfl rfl ?_
  simp only [Go.Proofs.Try.ntmps130, List.length_cons, List.length_nil, Nat.reduceAdd, Nat.reduceSub, List.replicate_succ, List.replicate_zero, List.cons_append, List.nil_append]
  repeat' first
    | refine aw_seq ?_
    | refine aw_region ?_
    | refine aw_lex [] ?_
    | (refine isA ?_; refine do_F rfl ?_)
    | (refine isL ?_; refine lex_F rfl (by kernel_rfl) rfl rfl ?_)
    | (refine isLg rfl ?_; refine lex_S rfl (by kernel_rfl) rfl rfl ?_)
    | (refine isAp ?_; refine do_R rfl (apn_l (T := rwT) (xs := xs) rfl rfl rfl rfl hl rfl) rfl ?_)
    | (refine isLp rfl ?_; refine lex_R rfl (by kernel_rfl) rfl (apn_l (T := rwT) (xs := xs) rfl rfl rfl rfl hl rfl) rfl ?_)
    | exact finN [0] rfl (hle_of (by decide) (.cons rfl rfl rfl rfl (les_refl (flat_noH _ _)) .nil)) (le_sl rfl rfl) (Or.inr ⟨rfl, fun q hq => by simp at hq; subst hq; exact ⟨Nat.zero_ne_one, fun _ => (flat_rw _).flatS⟩⟩)
    | refine aops_nil ?_
    | refine lex_done _ rfl (by kernel_rfl) ?_
    | refine aw_ct rfl ?_
    | refine aw_cf rfl ?_
    | refine aw_block ?_
    | with_reducible refine then_n ?_
    | refine aw_skip ?_
    | refine aw_exit ?_
    | with_reducible refine then_x ?_
    | with_reducible refine then_r ?_
    | with_reducible refine block_x ?_
    | with_reducible refine block_n ?_
    | with_reducible refine block_r ?_
    | refine aw_ret ?_
end Go.Proofs.Ytkcicbigpbdjpaa.Ab

/- MgA -/
namespace Go.Proofs.Ytkcicbigpbdjpaa.Ab
open Go.RowKit

/-! ### Rows compared -/
def ordI (a b : Int) : Int := cond (decide (a < b)) (-1) (cond (decide (b < a)) 1 0)
def cmpL : List Int → List Int → Int
  | x :: xs, y :: ys => cond (decide (x < y)) (-1) (cond (decide (y < x)) 1 (cmpL xs ys))
  | _, _ => 0
def rwN (x : Rw) : List Int := [x.a, x.b, x.c]
def cmpV (x y : Rw) : Int := cmpL (rwN x) (rwN y)
theorem c_order (a b : Int) : Meets Go.Proofs.Try.prog 147 [I a, I b] [] (I (ordI a b)) [] false := by
  refine meets_of [4] Go.Proofs.Try.func147 rfl rfl ?_
  simp only [Go.Proofs.Try.ntmps147, List.length_cons, List.length_nil, Nat.reduceAdd, Nat.reduceSub, List.replicate_succ, List.replicate_zero, List.cons_append, List.nil_append]
  repeat' first
    | refine aw_seq ?_
    | refine aw_region ?_
    | refine aw_lex [] ?_
    | (refine isA ?_; refine do_F rfl ?_)
    | (refine isL ?_; refine lex_F rfl (by kernel_rfl) rfl rfl ?_)
    | (refine isLg rfl ?_; refine lex_S rfl (by kernel_rfl) rfl rfl ?_)
    | exact fin1 rfl rfl (by simp only [ordI, *, cond_true, cond_false])
    | refine aops_nil ?_
    | refine lex_done _ rfl (by kernel_rfl) ?_
    | refine aw_ct rfl ?_
    | refine aw_cf rfl ?_
    | refine aw_block ?_
    | with_reducible refine then_n ?_
    | refine aw_skip ?_
    | refine aw_exit ?_
    | with_reducible refine then_x ?_
    | with_reducible refine then_r ?_
    | with_reducible refine block_x ?_
    | with_reducible refine block_n ?_
    | with_reducible refine block_r ?_
    | refine aw_ret ?_
    | refine aw_cond rfl (fun hbr => ?_) (fun hbr => ?_)
    | (refine isAg ?_; refine do_br rfl rfl (fun hbr => ?_) (fun hbr => ?_) <;> (fail_if_success (with_reducible (have hx : true = true := hbr))) <;> (fail_if_success (with_reducible (have hx : false = false := hbr))))
    | (refine isLg rfl ?_; refine lex_br rfl rfl rfl rfl (fun hbr => ?_) (fun hbr => ?_) <;> (fail_if_success (with_reducible (have hx : true = true := hbr))) <;> (fail_if_success (with_reducible (have hx : false = false := hbr))))
theorem cmp_ne {a b : Int} {xs ys : List Int} (h : ordI a b ≠ 0) : cmpL (a :: xs) (b :: ys) = ordI a b := by
  rw [cmpL]
  unfold ordI at h ⊢
  generalize decide (a < b) = p at h ⊢
  generalize decide (b < a) = q at h ⊢
  cases p
  · cases q
    · exact absurd rfl h
    · rfl
  · rfl
theorem cmp_eq {a b : Int} {xs ys : List Int} (h : ordI a b = 0) : cmpL (a :: xs) (b :: ys) = cmpL xs ys := by
  rw [cmpL]
  unfold ordI at h
  generalize decide (a < b) = p at h ⊢
  generalize decide (b < a) = q at h ⊢
  cases p
  · cases q
    · rfl
    · cases h
  · cases h
theorem cmp_one {a b : Int} : cmpL [a] [b] = ordI a b := rfl
theorem c_icmp (x y : Rw) : Meets Go.Proofs.Try.prog 122 [.agg (rwE x), .agg (rwE y)] [] (I (cmpV x y)) [] false := by
  refine meets_of [4] Go.Proofs.Try.func122 rfl rfl ?_
  simp only [Go.Proofs.Try.ntmps122, List.length_cons, List.length_nil, Nat.reduceAdd, Nat.reduceSub, List.replicate_succ, List.replicate_zero, List.cons_append, List.nil_append]
  repeat' first
    | refine aw_seq ?_
    | refine aw_region ?_
    | refine aw_lex [] ?_
    | (refine isA ?_; refine do_F rfl ?_)
    | (refine isL ?_; refine lex_F rfl (by kernel_rfl) rfl rfl ?_)
    | (refine isLg rfl ?_; refine lex_S rfl (by kernel_rfl) rfl rfl ?_)
    | (refine isAc 147 ?_; refine do_R rfl (st_call rfl (c_order _ _) (.cons (.same rfl) (.cons (.same rfl) .nil)) rfl) rfl ?_)
    | (refine isLc 147 rfl ?_; refine lex_R rfl (by kernel_rfl) rfl (st_call rfl (c_order _ _) (.cons (.same rfl) (.cons (.same rfl) .nil)) rfl) rfl ?_)
    | refine aops_nil ?_
    | refine lex_done _ rfl (by kernel_rfl) ?_
    | refine aw_ct rfl ?_
    | refine aw_cf rfl ?_
    | refine aw_block ?_
    | with_reducible refine then_n ?_
    | refine aw_skip ?_
    | refine aw_exit ?_
    | with_reducible refine then_x ?_
    | with_reducible refine then_r ?_
    | with_reducible refine block_x ?_
    | with_reducible refine block_n ?_
    | with_reducible refine block_r ?_
    | refine aw_ret ?_
  refine aw_cond rfl (fun h => ?_) (fun h => ?_)
  · have h1 : ordI x.a y.a ≠ 0 := by simpa using h
    have e : cmpV x y = ordI x.a y.a := cmp_ne h1
    repeat' first
      | refine aw_seq ?_
      | refine aw_region ?_
      | refine aw_lex [] ?_
      | (refine isA ?_; refine do_F rfl ?_)
      | (refine isL ?_; refine lex_F rfl (by kernel_rfl) rfl rfl ?_)
      | (refine isLg rfl ?_; refine lex_S rfl (by kernel_rfl) rfl rfl ?_)
      | exact fin1 rfl rfl (by rw [e])
      | refine aops_nil ?_
      | refine lex_done _ rfl (by kernel_rfl) ?_
      | refine aw_ct rfl ?_
      | refine aw_cf rfl ?_
      | refine aw_block ?_
      | with_reducible refine then_n ?_
      | refine aw_skip ?_
      | refine aw_exit ?_
      | with_reducible refine then_x ?_
      | with_reducible refine then_r ?_
      | with_reducible refine block_x ?_
      | with_reducible refine block_n ?_
      | with_reducible refine block_r ?_
      | refine aw_ret ?_
  have h1 : ordI x.a y.a = 0 := by simpa using h
  repeat' first
    | refine aw_seq ?_
    | refine aw_region ?_
    | refine aw_lex [] ?_
    | (refine isA ?_; refine do_F rfl ?_)
    | (refine isL ?_; refine lex_F rfl (by kernel_rfl) rfl rfl ?_)
    | (refine isLg rfl ?_; refine lex_S rfl (by kernel_rfl) rfl rfl ?_)
    | (refine isAc 147 ?_; refine do_R rfl (st_call rfl (c_order _ _) (.cons (.same rfl) (.cons (.same rfl) .nil)) rfl) rfl ?_)
    | (refine isLc 147 rfl ?_; refine lex_R rfl (by kernel_rfl) rfl (st_call rfl (c_order _ _) (.cons (.same rfl) (.cons (.same rfl) .nil)) rfl) rfl ?_)
    | refine aops_nil ?_
    | refine lex_done _ rfl (by kernel_rfl) ?_
    | refine aw_ct rfl ?_
    | refine aw_cf rfl ?_
    | refine aw_block ?_
    | with_reducible refine then_n ?_
    | refine aw_skip ?_
    | refine aw_exit ?_
    | with_reducible refine then_x ?_
    | with_reducible refine then_r ?_
    | with_reducible refine block_x ?_
    | with_reducible refine block_n ?_
    | with_reducible refine block_r ?_
    | refine aw_ret ?_
  refine aw_cond rfl (fun h => ?_) (fun h => ?_)
  · have h2 : ordI x.b y.b ≠ 0 := by simpa using h
    have e : cmpV x y = ordI x.b y.b := (cmp_eq h1).trans (cmp_ne h2)
    repeat' first
      | refine aw_seq ?_
      | refine aw_region ?_
      | refine aw_lex [] ?_
      | (refine isA ?_; refine do_F rfl ?_)
      | (refine isL ?_; refine lex_F rfl (by kernel_rfl) rfl rfl ?_)
      | (refine isLg rfl ?_; refine lex_S rfl (by kernel_rfl) rfl rfl ?_)
      | exact fin1 rfl rfl (by rw [e])
      | refine aops_nil ?_
      | refine lex_done _ rfl (by kernel_rfl) ?_
      | refine aw_ct rfl ?_
      | refine aw_cf rfl ?_
      | refine aw_block ?_
      | with_reducible refine then_n ?_
      | refine aw_skip ?_
      | refine aw_exit ?_
      | with_reducible refine then_x ?_
      | with_reducible refine then_r ?_
      | with_reducible refine block_x ?_
      | with_reducible refine block_n ?_
      | with_reducible refine block_r ?_
      | refine aw_ret ?_
  have h2 : ordI x.b y.b = 0 := by simpa using h
  have e : cmpV x y = ordI x.c y.c := (cmp_eq h1).trans ((cmp_eq h2).trans cmp_one)
  repeat' first
    | refine aw_seq ?_
    | refine aw_region ?_
    | refine aw_lex [] ?_
    | (refine isA ?_; refine do_F rfl ?_)
    | (refine isL ?_; refine lex_F rfl (by kernel_rfl) rfl rfl ?_)
    | (refine isLg rfl ?_; refine lex_S rfl (by kernel_rfl) rfl rfl ?_)
    | (refine isAc 147 ?_; refine do_R rfl (st_call rfl (c_order _ _) (.cons (.same rfl) (.cons (.same rfl) .nil)) rfl) rfl ?_)
    | (refine isLc 147 rfl ?_; refine lex_R rfl (by kernel_rfl) rfl (st_call rfl (c_order _ _) (.cons (.same rfl) (.cons (.same rfl) .nil)) rfl) rfl ?_)
    | exact fin1 rfl rfl (by rw [e])
    | refine aops_nil ?_
    | refine lex_done _ rfl (by kernel_rfl) ?_
    | refine aw_ct rfl ?_
    | refine aw_cf rfl ?_
    | refine aw_block ?_
    | with_reducible refine then_n ?_
    | refine aw_skip ?_
    | refine aw_exit ?_
    | with_reducible refine then_x ?_
    | with_reducible refine then_r ?_
    | with_reducible refine block_x ?_
    | with_reducible refine block_n ?_
    | with_reducible refine block_r ?_
    | refine aw_ret ?_

def intT : Ty Int := ⟨1, fun n => [I n], fun _ => rfl, by decide, fun r c hc => by
  simp only [List.mem_cons, List.not_mem_nil, or_false] at hc
  subst hc
  exact ⟨rfl, rfl⟩⟩
theorem cmp_at {xs ys : List Int} {i : Nat} {a b : Int} (hx : xs[i]? = some a) (hy : ys[i]? = some b) : cmpL (xs.drop i) (ys.drop i) = cond (decide (a < b)) (-1) (cond (decide (b < a)) 1 (cmpL (xs.drop (i + 1)) (ys.drop (i + 1)))) := by
  rw [take_drop1 hx, take_drop1 hy, cmpL]
theorem c_scmp (x y : Rw) : Meets Go.Proofs.Try.prog 116 [.agg (rwE x), .agg (rwE y)] [] (I (cmpV x y)) [] false := by
  refine meets_of [4] Go.Proofs.Try.func116 rfl rfl ?_
  simp only [Go.Proofs.Try.ntmps116, List.length_cons, List.length_nil, Nat.reduceAdd, Nat.reduceSub, List.replicate_succ, List.replicate_zero, List.cons_append, List.nil_append]
  repeat' first
    | refine aw_seq ?_
    | refine aw_region ?_
    | refine aw_lex [] ?_
    | (refine isA ?_; refine do_F rfl ?_)
    | (refine isL ?_; refine lex_F rfl (by kernel_rfl) rfl rfl ?_)
    | (refine isLg rfl ?_; refine lex_S rfl (by kernel_rfl) rfl rfl ?_)
    | refine aops_nil ?_
    | refine lex_done _ rfl (by kernel_rfl) ?_
    | refine aw_ct rfl ?_
    | refine aw_cf rfl ?_
    | refine aw_block ?_
    | with_reducible refine then_n ?_
    | refine aw_skip ?_
    | refine aw_exit ?_
    | with_reducible refine then_x ?_
    | with_reducible refine then_r ?_
    | with_reducible refine block_x ?_
    | with_reducible refine block_n ?_
    | with_reducible refine block_r ?_
    | refine aw_ret ?_
  refine aw_loop (α := { i : Nat // i ≤ 3 ∧ cmpL ((rwN x).drop i) ((rwN y).drop i) = cmpV x y }) (fun i => ⟨[.any, .any, .any, .any, .any, .sl 0 0 3, .sl 1 0 3, I i.1, .any, .any, .any, .any, .any, .any, .any, .any, .any, .any, .any, .any, .any, .any, .any, .any, .any, .any, .any, .any, .any, .any, .any, .any, .any, .any, .any, .any, .any, .any, .any, .any, .any, .any, .any, .any], [regOf intT 3 (rwN x), regOf intT 3 (rwN y)], 0⟩) (fun i => 3 - i.1) ⟨0, Nat.zero_le _, rfl⟩ ?_ ?_
  · exact sub0 [2, 3] rfl rfl (by decide) (.cons rfl rfl rfl rfl (les_refl' rfl) (.cons rfl rfl rfl rfl (les_refl' rfl) .nil)) (by repeat' first | exact les_nil | refine les_cons ?_ ?_ | exact le_any | exact le_refl rfl | exact le_sl rfl rfl | exact le_ptr rfl)
  · rintro ⟨i, hi, hq⟩
    repeat' first
      | refine aw_seq ?_
      | refine aw_region ?_
      | refine aw_lex [] ?_
      | (refine isA ?_; refine do_F rfl ?_)
      | (refine isL ?_; refine lex_F rfl (by kernel_rfl) rfl rfl ?_)
      | (refine isLg rfl ?_; refine lex_S rfl (by kernel_rfl) rfl rfl ?_)
      | refine aops_nil ?_
      | refine lex_done _ rfl (by kernel_rfl) ?_
      | refine aw_ct rfl ?_
      | refine aw_cf rfl ?_
      | refine aw_block ?_
      | with_reducible refine then_n ?_
      | refine aw_skip ?_
      | refine aw_exit ?_
      | with_reducible refine then_x ?_
      | with_reducible refine then_r ?_
      | with_reducible refine block_x ?_
      | with_reducible refine block_n ?_
      | with_reducible refine block_r ?_
      | refine aw_ret ?_
    refine aw_cond rfl (fun h => ?_) (fun h => ?_)
    · have hlt : i < 3 := by have := of_decide_eq_true h; simp only at this; omega
      obtain ⟨a, ha⟩ : ∃ z, (rwN x)[i]? = some z := ⟨_, List.getElem?_eq_getElem hlt⟩
      obtain ⟨b, hb⟩ : ∃ z, (rwN y)[i]? = some z := ⟨_, List.getElem?_eq_getElem hlt⟩
      rw [cmp_at ha hb] at hq
      repeat' first
        | refine aw_seq ?_
        | refine aw_region ?_
        | refine aw_lex [] ?_
        | (refine isA ?_; refine do_F rfl ?_)
        | (refine isL ?_; refine lex_F rfl (by kernel_rfl) rfl rfl ?_)
        | (refine isLg rfl ?_; refine lex_S rfl (by kernel_rfl) rfl rfl ?_)
        | (refine isAi (x := .tmp 26) ?_; refine do_R rfl (ia_s (t := intT) (xs := rwN x) rfl rfl rfl rfl rfl (Int.natCast_nonneg i) (by simp only; show (i : Int) < 3; omega)) rfl ?_)
        | (refine isLi (x := .tmp 26) rfl ?_; refine lex_R rfl (by kernel_rfl) rfl (ia_s (t := intT) (xs := rwN x) rfl rfl rfl rfl rfl (Int.natCast_nonneg i) (by simp only; show (i : Int) < 3; omega)) rfl ?_)
        | (refine isAi (x := .tmp 30) ?_; refine do_R rfl (ia_s (t := intT) (xs := rwN y) rfl rfl rfl rfl rfl (Int.natCast_nonneg i) (by simp only; show (i : Int) < 3; omega)) rfl ?_)
        | (refine isLi (x := .tmp 30) rfl ?_; refine lex_R rfl (by kernel_rfl) rfl (ia_s (t := intT) (xs := rwN y) rfl rfl rfl rfl rfl (Int.natCast_nonneg i) (by simp only; show (i : Int) < 3; omega)) rfl ?_)
        | (refine isAl (x := .tmp 28) ?_; refine do_R rfl (ld_f (T := intT) (i := i) (off := 0) (xs := rwN x) (z := a) rfl rfl rfl ha rfl) rfl ?_)
        | (refine isLl (x := .tmp 28) rfl ?_; refine lex_R rfl (by kernel_rfl) rfl (ld_f (T := intT) (i := i) (off := 0) (xs := rwN x) (z := a) rfl rfl rfl ha rfl) rfl ?_)
        | (refine isAl (x := .tmp 32) ?_; refine do_R rfl (ld_f (T := intT) (i := i) (off := 0) (xs := rwN y) (z := b) rfl rfl rfl hb rfl) rfl ?_)
        | (refine isLl (x := .tmp 32) rfl ?_; refine lex_R rfl (by kernel_rfl) rfl (ld_f (T := intT) (i := i) (off := 0) (xs := rwN y) (z := b) rfl rfl rfl hb rfl) rfl ?_)
        | refine aops_nil ?_
        | refine lex_done _ rfl (by kernel_rfl) ?_
        | refine aw_ct rfl ?_
        | refine aw_cf rfl ?_
        | refine aw_block ?_
        | with_reducible refine then_n ?_
        | refine aw_skip ?_
        | refine aw_exit ?_
        | with_reducible refine then_x ?_
        | with_reducible refine then_r ?_
        | with_reducible refine block_x ?_
        | with_reducible refine block_n ?_
        | with_reducible refine block_r ?_
        | refine aw_ret ?_
      refine aw_cond rfl (fun h1 => ?_) (fun h1 => ?_)
      · rw [h1, cond_true] at hq
        repeat' first
          | refine aw_seq ?_
          | refine aw_region ?_
          | refine aw_lex [] ?_
          | (refine isA ?_; refine do_F rfl ?_)
          | (refine isL ?_; refine lex_F rfl (by kernel_rfl) rfl rfl ?_)
          | (refine isLg rfl ?_; refine lex_S rfl (by kernel_rfl) rfl rfl ?_)
          | exact fin1 rfl rfl (congrArg I hq)
          | refine aops_nil ?_
          | refine lex_done _ rfl (by kernel_rfl) ?_
          | refine aw_ct rfl ?_
          | refine aw_cf rfl ?_
          | refine aw_block ?_
          | with_reducible refine then_n ?_
          | refine aw_skip ?_
          | refine aw_exit ?_
          | with_reducible refine then_x ?_
          | with_reducible refine then_r ?_
          | with_reducible refine block_x ?_
          | with_reducible refine block_n ?_
          | with_reducible refine block_r ?_
          | refine aw_ret ?_
      rw [h1, cond_false] at hq
      repeat' first
        | refine aw_seq ?_
        | refine aw_region ?_
        | refine aw_lex [] ?_
        | (refine isA ?_; refine do_F rfl ?_)
        | (refine isL ?_; refine lex_F rfl (by kernel_rfl) rfl rfl ?_)
        | (refine isLg rfl ?_; refine lex_S rfl (by kernel_rfl) rfl rfl ?_)
        | (refine isAi (x := .tmp 35) ?_; refine do_R rfl (ia_s (t := intT) (xs := rwN x) rfl rfl rfl rfl rfl (Int.natCast_nonneg i) (by simp only; show (i : Int) < 3; omega)) rfl ?_)
        | (refine isLi (x := .tmp 35) rfl ?_; refine lex_R rfl (by kernel_rfl) rfl (ia_s (t := intT) (xs := rwN x) rfl rfl rfl rfl rfl (Int.natCast_nonneg i) (by simp only; show (i : Int) < 3; omega)) rfl ?_)
        | (refine isAi (x := .tmp 39) ?_; refine do_R rfl (ia_s (t := intT) (xs := rwN y) rfl rfl rfl rfl rfl (Int.natCast_nonneg i) (by simp only; show (i : Int) < 3; omega)) rfl ?_)
        | (refine isLi (x := .tmp 39) rfl ?_; refine lex_R rfl (by kernel_rfl) rfl (ia_s (t := intT) (xs := rwN y) rfl rfl rfl rfl rfl (Int.natCast_nonneg i) (by simp only; show (i : Int) < 3; omega)) rfl ?_)
        | (refine isAl (x := .tmp 37) ?_; refine do_R rfl (ld_f (T := intT) (i := i) (off := 0) (xs := rwN x) (z := a) rfl rfl rfl ha rfl) rfl ?_)
        | (refine isLl (x := .tmp 37) rfl ?_; refine lex_R rfl (by kernel_rfl) rfl (ld_f (T := intT) (i := i) (off := 0) (xs := rwN x) (z := a) rfl rfl rfl ha rfl) rfl ?_)
        | (refine isAl (x := .tmp 41) ?_; refine do_R rfl (ld_f (T := intT) (i := i) (off := 0) (xs := rwN y) (z := b) rfl rfl rfl hb rfl) rfl ?_)
        | (refine isLl (x := .tmp 41) rfl ?_; refine lex_R rfl (by kernel_rfl) rfl (ld_f (T := intT) (i := i) (off := 0) (xs := rwN y) (z := b) rfl rfl rfl hb rfl) rfl ?_)
        | refine aops_nil ?_
        | refine lex_done _ rfl (by kernel_rfl) ?_
        | refine aw_ct rfl ?_
        | refine aw_cf rfl ?_
        | refine aw_block ?_
        | with_reducible refine then_n ?_
        | refine aw_skip ?_
        | refine aw_exit ?_
        | with_reducible refine then_x ?_
        | with_reducible refine then_r ?_
        | with_reducible refine block_x ?_
        | with_reducible refine block_n ?_
        | with_reducible refine block_r ?_
        | refine aw_ret ?_
      refine aw_cond rfl (fun h2 => ?_) (fun h2 => ?_)
      · rw [h2, cond_true] at hq
        repeat' first
          | refine aw_seq ?_
          | refine aw_region ?_
          | refine aw_lex [] ?_
          | (refine isA ?_; refine do_F rfl ?_)
          | (refine isL ?_; refine lex_F rfl (by kernel_rfl) rfl rfl ?_)
          | (refine isLg rfl ?_; refine lex_S rfl (by kernel_rfl) rfl rfl ?_)
          | exact fin1 rfl rfl (congrArg I hq)
          | refine aops_nil ?_
          | refine lex_done _ rfl (by kernel_rfl) ?_
          | refine aw_ct rfl ?_
          | refine aw_cf rfl ?_
          | refine aw_block ?_
          | with_reducible refine then_n ?_
          | refine aw_skip ?_
          | refine aw_exit ?_
          | with_reducible refine then_x ?_
          | with_reducible refine then_r ?_
          | with_reducible refine block_x ?_
          | with_reducible refine block_n ?_
          | with_reducible refine block_r ?_
          | refine aw_ret ?_
      rw [h2, cond_false] at hq
      repeat' first
        | refine aw_seq ?_
        | refine aw_region ?_
        | refine aw_lex [] ?_
        | (refine isA ?_; refine do_F rfl ?_)
        | (refine isL ?_; refine lex_F rfl (by kernel_rfl) rfl rfl ?_)
        | (refine isLg rfl ?_; refine lex_S rfl (by kernel_rfl) rfl rfl ?_)
        | refine aops_nil ?_
        | refine lex_done _ rfl (by kernel_rfl) ?_
        | refine aw_ct rfl ?_
        | refine aw_cf rfl ?_
        | refine aw_block ?_
        | with_reducible refine then_n ?_
        | refine aw_skip ?_
        | refine aw_exit ?_
        | with_reducible refine then_x ?_
        | with_reducible refine then_r ?_
        | with_reducible refine block_x ?_
        | with_reducible refine block_n ?_
        | with_reducible refine block_r ?_
        | refine aw_ret ?_
      refine ⟨⟨i + 1, hlt, hq⟩, by simp only; omega, ?_⟩
      exact sub0 [0, 1] rfl rfl (by decide) (.cons rfl rfl rfl rfl (les_refl' rfl) (.cons rfl rfl rfl rfl (les_refl' rfl) .nil)) (by
        repeat' first
          | exact les_nil
          | refine les_cons ?_ ?_
          | exact le_any
          | exact le_refl rfl
          | exact le_sl rfl rfl
          | exact le_i hlt (by omega))
    · have hge : i = 3 := by have := of_decide_eq_false h; simp only at this; omega
      subst hge
      repeat' first
        | refine aw_seq ?_
        | refine aw_region ?_
        | refine aw_lex [] ?_
        | (refine isA ?_; refine do_F rfl ?_)
        | (refine isL ?_; refine lex_F rfl (by kernel_rfl) rfl rfl ?_)
        | (refine isLg rfl ?_; refine lex_S rfl (by kernel_rfl) rfl rfl ?_)
        | exact fin1 rfl rfl (congrArg I hq)
        | refine aops_nil ?_
        | refine lex_done _ rfl (by kernel_rfl) ?_
        | refine aw_ct rfl ?_
        | refine aw_cf rfl ?_
        | refine aw_block ?_
        | with_reducible refine then_n ?_
        | refine aw_skip ?_
        | refine aw_exit ?_
        | with_reducible refine then_x ?_
        | with_reducible refine then_r ?_
        | with_reducible refine block_x ?_
        | with_reducible refine block_n ?_
        | with_reducible refine block_r ?_
        | refine aw_ret ?_

/-! ### Rows merged -/
def mgV : List Rw → List Rw → List Rw
  | [], ys => ys
  | x :: xs, [] => x :: xs
  | x :: xs, y :: ys => cond (decide (cmpV x y ≤ 0)) (x :: mgV xs (y :: ys)) (y :: mgV (x :: xs) ys)
termination_by xs ys => xs.length + ys.length
theorem mg_nil (ys : List Rw) : mgV [] ys = ys := by rw [mgV]
theorem mg_nil2 (xs : List Rw) : mgV xs [] = xs := by cases xs <;> rw [mgV]
theorem mg_le {x y : Rw} {xs ys : List Rw} (h : decide (cmpV x y ≤ 0) = true) : mgV (x :: xs) (y :: ys) = x :: mgV xs (y :: ys) := by rw [mgV, h, cond_true]
theorem mg_gt {x y : Rw} {xs ys : List Rw} (h : decide (cmpV x y ≤ 0) = false) : mgV (x :: xs) (y :: ys) = y :: mgV (x :: xs) ys := by rw [mgV, h, cond_false]
theorem mg_len : ∀ (xs ys : List Rw), (mgV xs ys).length = xs.length + ys.length
  | [], ys => by rw [mg_nil]; simp
  | x :: xs, [] => by rw [mg_nil2]; simp
  | x :: xs, y :: ys => by
    cases h : decide (cmpV x y ≤ 0) with
    | true => rw [mg_le h, List.length_cons, mg_len xs (y :: ys)]; simp; omega
    | false => rw [mg_gt h, List.length_cons, mg_len (x :: xs) ys]; simp; omega
termination_by xs ys => xs.length + ys.length
theorem mgA1 {a b : List Rw} {i k : Nat} {x : Rw} (hx : a[i]? = some x) (hk : b.length ≤ k) : mgV (a.drop i) (b.drop k) = x :: mgV (a.drop (i + 1)) (b.drop k) := by
  rw [take_drop1 hx, List.drop_of_length_le hk, mg_nil2, mg_nil2]
theorem mgA2 {a b : List Rw} {i k : Nat} {x y : Rw} (hx : a[i]? = some x) (hy : b[k]? = some y) (h : decide (cmpV x y ≤ 0) = true) : mgV (a.drop i) (b.drop k) = x :: mgV (a.drop (i + 1)) (b.drop k) := by
  rw [take_drop1 hx, take_drop1 hy, mg_le h]
theorem mgB1 {a b : List Rw} {i k : Nat} {x y : Rw} (hx : a[i]? = some x) (hy : b[k]? = some y) (h : decide (cmpV x y ≤ 0) = false) : mgV (a.drop i) (b.drop k) = y :: mgV (a.drop i) (b.drop (k + 1)) := by
  rw [take_drop1 hx, take_drop1 hy, mg_gt h]
theorem mgB2 {a b : List Rw} {i k : Nat} {y : Rw} (hy : b[k]? = some y) (hi : a.length ≤ i) : mgV (a.drop i) (b.drop k) = y :: mgV (a.drop i) (b.drop (k + 1)) := by
  rw [take_drop1 hy, List.drop_of_length_le hi, mg_nil, mg_nil]
theorem c_smg (a b : List Rw) (h1 : a.length ≤ 100000000) (h2 : b.length ≤ 100000000) : Meets Go.Proofs.Try.prog 51 [rwL a, rwL b] [] (.sl 0 0 (mgV a b).length) [rwR (mgV a b)] false := by
  refine meets_of [4] Go.Proofs.Try.func51 rfl rfl ?_
  simp only [Go.Proofs.Try.ntmps51, List.length_cons, List.length_nil, Nat.reduceAdd, Nat.reduceSub, List.replicate_succ, List.replicate_zero, List.cons_append, List.nil_append]
  repeat' first
    | refine aw_seq ?_
    | refine aw_region ?_
    | refine aw_lex [] ?_
    | (refine isA ?_; refine do_F rfl ?_)
    | (refine isL ?_; refine lex_F rfl (by kernel_rfl) rfl rfl ?_)
    | (refine isLg rfl ?_; refine lex_S rfl (by kernel_rfl) rfl rfl ?_)
    | refine aops_nil ?_
    | refine lex_done _ rfl (by kernel_rfl) ?_
    | refine aw_ct rfl ?_
    | refine aw_cf rfl ?_
    | refine aw_block ?_
    | with_reducible refine then_n ?_
    | refine aw_skip ?_
    | refine aw_exit ?_
    | with_reducible refine then_x ?_
    | with_reducible refine then_r ?_
    | with_reducible refine block_x ?_
    | with_reducible refine block_n ?_
    | with_reducible refine block_r ?_
    | refine aw_ret ?_
  refine aw_loop (α := { p : Nat × Nat × List Rw // p.1 ≤ a.length ∧ p.2.1 ≤ b.length ∧ p.2.2.length = p.1 + p.2.1 ∧ p.2.2 ++ mgV (a.drop p.1) (b.drop p.2.1) = mgV a b }) (fun p => ⟨((rwL a) :: (rwL b) :: .any :: .any :: .any :: (.sl 0 0 p.1.2.2.length) :: (I p.1.1) :: (I p.1.2.1) :: .any :: .any :: .any :: .any :: .any :: .any :: .any :: .any :: .any :: .any :: .any :: .any :: .any :: .any :: .any :: .any :: .any :: .any :: .any :: .any :: .any :: .any :: .any :: .any :: .any :: .any :: .any :: .any :: .any :: .any :: .any :: .any :: .any :: .any :: .any :: .any :: .any :: .any :: .any :: .any :: .any :: .any :: .any :: .any :: .any :: .any :: .any :: .any :: .any :: .any :: .any :: .any :: []), [rwR p.1.2.2], 0⟩) (fun p => a.length + b.length - p.1.1 - p.1.2.1) ⟨(0, 0, []), Nat.zero_le _, Nat.zero_le _, rfl, rfl⟩ ?_ ?_
  · exact sub0 [0] rfl rfl (by decide) (.cons rfl rfl rfl rfl (les_refl (flat_noH _ _)) .nil) (by repeat' first | exact les_nil | refine les_cons ?_ ?_ | exact le_any | exact le_refl rfl | exact le_sl rfl rfl | exact le_ptr rfl)
  · rintro ⟨⟨i, k, out⟩, hi, hk, ho, hq⟩
    simp only at hi hk ho hq
    repeat' first
      | refine aw_seq ?_
      | refine aw_region ?_
      | refine aw_lex [] ?_
      | (refine isA ?_; refine do_F rfl ?_)
      | (refine isL ?_; refine lex_F rfl (by kernel_rfl) rfl rfl ?_)
      | (refine isLg rfl ?_; refine lex_S rfl (by kernel_rfl) rfl rfl ?_)
      | refine aops_nil ?_
      | refine lex_done _ rfl (by kernel_rfl) ?_
      | refine aw_ct rfl ?_
      | refine aw_cf rfl ?_
      | refine aw_block ?_
      | with_reducible refine then_n ?_
      | refine aw_skip ?_
      | refine aw_exit ?_
      | with_reducible refine then_x ?_
      | with_reducible refine then_r ?_
      | with_reducible refine block_x ?_
      | with_reducible refine block_n ?_
      | with_reducible refine block_r ?_
      | refine aw_ret ?_
    refine do_br rfl rfl (fun p1 => ?_) (fun p1 => ?_)
    · have q1 : i < a.length := by have := of_decide_eq_true p1; simp only at this; omega
      obtain ⟨x, hx⟩ : ∃ z, a[i]? = some z := ⟨_, List.getElem?_eq_getElem q1⟩
      repeat' first
        | refine aw_seq ?_
        | refine aw_region ?_
        | refine aw_lex [] ?_
        | (refine isA ?_; refine do_F rfl ?_)
        | (refine isL ?_; refine lex_F rfl (by kernel_rfl) rfl rfl ?_)
        | (refine isLg rfl ?_; refine lex_S rfl (by kernel_rfl) rfl rfl ?_)
        | refine aops_nil ?_
        | refine lex_done _ rfl (by kernel_rfl) ?_
        | refine aw_ct rfl ?_
        | refine aw_cf rfl ?_
        | refine aw_block ?_
        | with_reducible refine then_n ?_
        | refine aw_skip ?_
        | refine aw_exit ?_
        | with_reducible refine then_x ?_
        | with_reducible refine then_r ?_
        | with_reducible refine block_x ?_
        | with_reducible refine block_n ?_
        | with_reducible refine block_r ?_
        | refine aw_ret ?_
      refine lex_br rfl rfl rfl rfl (fun p2 => ?_) (fun p2 => ?_)
      · have q2 : b.length ≤ k := by have := of_decide_eq_true p2; simp only at this; omega
        repeat' first
          | refine aw_seq ?_
          | refine aw_region ?_
          | refine aw_lex [] ?_
          | (refine isA ?_; refine do_F rfl ?_)
          | (refine isL ?_; refine lex_F rfl (by kernel_rfl) rfl rfl ?_)
          | (refine isLg rfl ?_; refine lex_S rfl (by kernel_rfl) rfl rfl ?_)
          | (refine isAi (x := .tmp 42) ?_; refine do_R rfl (ia_l (t := rwT) (z := x) rfl rfl rfl rfl (Int.natCast_nonneg i) hx) rfl ?_)
          | (refine isLi (x := .tmp 42) rfl ?_; refine lex_R rfl (by kernel_rfl) rfl (ia_l (t := rwT) (z := x) rfl rfl rfl rfl (Int.natCast_nonneg i) hx) rfl ?_)
          | (refine isAp ?_; refine do_R rfl (ap_l (t := rwT) (xs := out) (ys := [x]) rfl rfl rfl rfl (src_of rfl rfl rfl rfl) (by simp; omega) rfl) rfl ?_)
          | (refine isLp rfl ?_; refine lex_R rfl (by kernel_rfl) rfl (ap_l (t := rwT) (xs := out) (ys := [x]) rfl rfl rfl rfl (src_of rfl rfl rfl rfl) (by simp; omega) rfl) rfl ?_)
          | refine aops_nil ?_
          | refine lex_done _ rfl (by kernel_rfl) ?_
          | refine aw_ct rfl ?_
          | refine aw_cf rfl ?_
          | refine aw_block ?_
          | with_reducible refine then_n ?_
          | refine aw_skip ?_
          | refine aw_exit ?_
          | with_reducible refine then_x ?_
          | with_reducible refine then_r ?_
          | with_reducible refine block_x ?_
          | with_reducible refine block_n ?_
          | with_reducible refine block_r ?_
          | refine aw_ret ?_
        refine ⟨⟨(i + 1, k, out ++ [x]), by simp only; omega, by simp only; omega, by simp only [List.length_append, List.length_singleton]; omega, by simp only [List.append_assoc, List.singleton_append]; rw [← hq, mgA1 hx q2]⟩, by simp only; omega, ?_⟩
        exact sub0 [2] rfl rfl (by decide) (.cons rfl rfl rfl rfl (les_refl (flat_noH _ _)) .nil) (by
            repeat' first
              | exact les_nil
              | refine les_cons ?_ ?_
              | exact le_any
              | exact le_refl rfl
              | exact le_sl rfl rfl
              | exact le_sl rfl (by simp)
              | exact le_i (n := a.length) (by omega) (by omega)
              | exact le_i (n := b.length) (by omega) (by omega))
      · have q2 : k < b.length := by have := of_decide_eq_false p2; simp only at this; omega
        obtain ⟨y, hy⟩ : ∃ z, b[k]? = some z := ⟨_, List.getElem?_eq_getElem q2⟩
        repeat' first
          | refine aw_seq ?_
          | refine aw_region ?_
          | refine aw_lex [] ?_
          | (refine isA ?_; refine do_F rfl ?_)
          | (refine isL ?_; refine lex_F rfl (by kernel_rfl) rfl rfl ?_)
          | (refine isLg rfl ?_; refine lex_S rfl (by kernel_rfl) rfl rfl ?_)
          | refine aops_nil ?_
          | refine lex_done _ rfl (by kernel_rfl) ?_
          | refine aw_ct rfl ?_
          | refine aw_cf rfl ?_
          | refine aw_block ?_
          | with_reducible refine then_n ?_
          | refine aw_skip ?_
          | refine aw_exit ?_
          | with_reducible refine then_x ?_
          | with_reducible refine then_r ?_
          | with_reducible refine block_x ?_
          | with_reducible refine block_n ?_
          | with_reducible refine block_r ?_
          | refine aw_ret ?_
        refine lex_br rfl rfl rfl rfl (fun _ => ?_) (fun k => absurd (of_decide_eq_false k) (by simp only; omega))
        repeat' first
          | refine aw_seq ?_
          | refine aw_region ?_
          | refine aw_lex [] ?_
          | (refine isA ?_; refine do_F rfl ?_)
          | (refine isL ?_; refine lex_F rfl (by kernel_rfl) rfl rfl ?_)
          | (refine isLg rfl ?_; refine lex_S rfl (by kernel_rfl) rfl rfl ?_)
          | (refine isAi (x := .tmp 29) ?_; refine do_R rfl (ia_l (t := rwT) (z := x) rfl rfl rfl rfl (Int.natCast_nonneg i) hx) rfl ?_)
          | (refine isLi (x := .tmp 29) rfl ?_; refine lex_R rfl (by kernel_rfl) rfl (ia_l (t := rwT) (z := x) rfl rfl rfl rfl (Int.natCast_nonneg i) hx) rfl ?_)
          | (refine isAi (x := .tmp 33) ?_; refine do_R rfl (ia_l (t := rwT) (z := y) rfl rfl rfl rfl (Int.natCast_nonneg k) hy) rfl ?_)
          | (refine isLi (x := .tmp 33) rfl ?_; refine lex_R rfl (by kernel_rfl) rfl (ia_l (t := rwT) (z := y) rfl rfl rfl rfl (Int.natCast_nonneg k) hy) rfl ?_)
          | (refine isAc 116 ?_; refine do_R rfl (st_call rfl (c_scmp x y) (.cons (.same rfl) (.cons (.same rfl) .nil)) rfl) rfl ?_)
          | (refine isLc 116 rfl ?_; refine lex_R rfl (by kernel_rfl) rfl (st_call rfl (c_scmp x y) (.cons (.same rfl) (.cons (.same rfl) .nil)) rfl) rfl ?_)
          | refine aops_nil ?_
          | refine lex_done _ rfl (by kernel_rfl) ?_
          | refine aw_ct rfl ?_
          | refine aw_cf rfl ?_
          | refine aw_block ?_
          | with_reducible refine then_n ?_
          | refine aw_skip ?_
          | refine aw_exit ?_
          | with_reducible refine then_x ?_
          | with_reducible refine then_r ?_
          | with_reducible refine block_x ?_
          | with_reducible refine block_n ?_
          | with_reducible refine block_r ?_
          | refine aw_ret ?_
        refine aw_cond rfl (fun p3 => ?_) (fun p3 => ?_)
        · skip
          repeat' first
            | refine aw_seq ?_
            | refine aw_region ?_
            | refine aw_lex [] ?_
            | (refine isA ?_; refine do_F rfl ?_)
            | (refine isL ?_; refine lex_F rfl (by kernel_rfl) rfl rfl ?_)
            | (refine isLg rfl ?_; refine lex_S rfl (by kernel_rfl) rfl rfl ?_)
            | (refine isAi (x := .tmp 42) ?_; refine do_R rfl (ia_l (t := rwT) (z := x) rfl rfl rfl rfl (Int.natCast_nonneg i) hx) rfl ?_)
            | (refine isLi (x := .tmp 42) rfl ?_; refine lex_R rfl (by kernel_rfl) rfl (ia_l (t := rwT) (z := x) rfl rfl rfl rfl (Int.natCast_nonneg i) hx) rfl ?_)
            | (refine isAp ?_; refine do_R rfl (ap_l (t := rwT) (xs := out) (ys := [x]) rfl rfl rfl rfl (src_of rfl rfl rfl rfl) (by simp; omega) rfl) rfl ?_)
            | (refine isLp rfl ?_; refine lex_R rfl (by kernel_rfl) rfl (ap_l (t := rwT) (xs := out) (ys := [x]) rfl rfl rfl rfl (src_of rfl rfl rfl rfl) (by simp; omega) rfl) rfl ?_)
            | refine aops_nil ?_
            | refine lex_done _ rfl (by kernel_rfl) ?_
            | refine aw_ct rfl ?_
            | refine aw_cf rfl ?_
            | refine aw_block ?_
            | with_reducible refine then_n ?_
            | refine aw_skip ?_
            | refine aw_exit ?_
            | with_reducible refine then_x ?_
            | with_reducible refine then_r ?_
            | with_reducible refine block_x ?_
            | with_reducible refine block_n ?_
            | with_reducible refine block_r ?_
            | refine aw_ret ?_
          refine ⟨⟨(i + 1, k, out ++ [x]), by simp only; omega, by simp only; omega, by simp only [List.length_append, List.length_singleton]; omega, by simp only [List.append_assoc, List.singleton_append]; rw [← hq, mgA2 hx hy p3]⟩, by simp only; omega, ?_⟩
          exact sub0 [2] rfl rfl (by decide) (.cons rfl rfl rfl rfl (les_refl (flat_noH _ _)) .nil) (by
              repeat' first
                | exact les_nil
                | refine les_cons ?_ ?_
                | exact le_any
                | exact le_refl rfl
                | exact le_sl rfl rfl
                | exact le_sl rfl (by simp)
                | exact le_i (n := a.length) (by omega) (by omega)
                | exact le_i (n := b.length) (by omega) (by omega))
        · skip
          repeat' first
            | refine aw_seq ?_
            | refine aw_region ?_
            | refine aw_lex [] ?_
            | (refine isA ?_; refine do_F rfl ?_)
            | (refine isL ?_; refine lex_F rfl (by kernel_rfl) rfl rfl ?_)
            | (refine isLg rfl ?_; refine lex_S rfl (by kernel_rfl) rfl rfl ?_)
            | (refine isAi (x := .tmp 51) ?_; refine do_R rfl (ia_l (t := rwT) (z := y) rfl rfl rfl rfl (Int.natCast_nonneg k) hy) rfl ?_)
            | (refine isLi (x := .tmp 51) rfl ?_; refine lex_R rfl (by kernel_rfl) rfl (ia_l (t := rwT) (z := y) rfl rfl rfl rfl (Int.natCast_nonneg k) hy) rfl ?_)
            | (refine isAp ?_; refine do_R rfl (ap_l (t := rwT) (xs := out) (ys := [y]) rfl rfl rfl rfl (src_of rfl rfl rfl rfl) (by simp; omega) rfl) rfl ?_)
            | (refine isLp rfl ?_; refine lex_R rfl (by kernel_rfl) rfl (ap_l (t := rwT) (xs := out) (ys := [y]) rfl rfl rfl rfl (src_of rfl rfl rfl rfl) (by simp; omega) rfl) rfl ?_)
            | refine aops_nil ?_
            | refine lex_done _ rfl (by kernel_rfl) ?_
            | refine aw_ct rfl ?_
            | refine aw_cf rfl ?_
            | refine aw_block ?_
            | with_reducible refine then_n ?_
            | refine aw_skip ?_
            | refine aw_exit ?_
            | with_reducible refine then_x ?_
            | with_reducible refine then_r ?_
            | with_reducible refine block_x ?_
            | with_reducible refine block_n ?_
            | with_reducible refine block_r ?_
            | refine aw_ret ?_
          refine ⟨⟨(i, k + 1, out ++ [y]), by simp only; omega, by simp only; omega, by simp only [List.length_append, List.length_singleton]; omega, by simp only [List.append_assoc, List.singleton_append]; rw [← hq, mgB1 hx hy p3]⟩, by simp only; omega, ?_⟩
          exact sub0 [2] rfl rfl (by decide) (.cons rfl rfl rfl rfl (les_refl (flat_noH _ _)) .nil) (by
              repeat' first
                | exact les_nil
                | refine les_cons ?_ ?_
                | exact le_any
                | exact le_refl rfl
                | exact le_sl rfl rfl
                | exact le_sl rfl (by simp)
                | exact le_i (n := a.length) (by omega) (by omega)
                | exact le_i (n := b.length) (by omega) (by omega))
    · have q1 : a.length ≤ i := by have := of_decide_eq_false p1; simp only at this; omega
      repeat' first
        | refine aw_seq ?_
        | refine aw_region ?_
        | refine aw_lex [] ?_
        | (refine isA ?_; refine do_F rfl ?_)
        | (refine isL ?_; refine lex_F rfl (by kernel_rfl) rfl rfl ?_)
        | (refine isLg rfl ?_; refine lex_S rfl (by kernel_rfl) rfl rfl ?_)
        | refine aops_nil ?_
        | refine lex_done _ rfl (by kernel_rfl) ?_
        | refine aw_ct rfl ?_
        | refine aw_cf rfl ?_
        | refine aw_block ?_
        | with_reducible refine then_n ?_
        | refine aw_skip ?_
        | refine aw_exit ?_
        | with_reducible refine then_x ?_
        | with_reducible refine then_r ?_
        | with_reducible refine block_x ?_
        | with_reducible refine block_n ?_
        | with_reducible refine block_r ?_
        | refine aw_ret ?_
      refine aw_cond rfl (fun p2 => ?_) (fun p2 => ?_)
      · have q2 : k < b.length := by have := of_decide_eq_true p2; simp only at this; omega
        obtain ⟨y, hy⟩ : ∃ z, b[k]? = some z := ⟨_, List.getElem?_eq_getElem q2⟩
        repeat' first
          | refine aw_seq ?_
          | refine aw_region ?_
          | refine aw_lex [] ?_
          | (refine isA ?_; refine do_F rfl ?_)
          | (refine isL ?_; refine lex_F rfl (by kernel_rfl) rfl rfl ?_)
          | (refine isLg rfl ?_; refine lex_S rfl (by kernel_rfl) rfl rfl ?_)
          | refine aops_nil ?_
          | refine lex_done _ rfl (by kernel_rfl) ?_
          | refine aw_ct rfl ?_
          | refine aw_cf rfl ?_
          | refine aw_block ?_
          | with_reducible refine then_n ?_
          | refine aw_skip ?_
          | refine aw_exit ?_
          | with_reducible refine then_x ?_
          | with_reducible refine then_r ?_
          | with_reducible refine block_x ?_
          | with_reducible refine block_n ?_
          | with_reducible refine block_r ?_
          | refine aw_ret ?_
        refine lex_br rfl rfl rfl rfl (fun k => absurd (of_decide_eq_true k) (by simp only; omega)) (fun _ => ?_)
        repeat' first
          | refine aw_seq ?_
          | refine aw_region ?_
          | refine aw_lex [] ?_
          | (refine isA ?_; refine do_F rfl ?_)
          | (refine isL ?_; refine lex_F rfl (by kernel_rfl) rfl rfl ?_)
          | (refine isLg rfl ?_; refine lex_S rfl (by kernel_rfl) rfl rfl ?_)
          | refine aops_nil ?_
          | refine lex_done _ rfl (by kernel_rfl) ?_
          | refine aw_ct rfl ?_
          | refine aw_cf rfl ?_
          | refine aw_block ?_
          | with_reducible refine then_n ?_
          | refine aw_skip ?_
          | refine aw_exit ?_
          | with_reducible refine then_x ?_
          | with_reducible refine then_r ?_
          | with_reducible refine block_x ?_
          | with_reducible refine block_n ?_
          | with_reducible refine block_r ?_
          | refine aw_ret ?_
        refine lex_br rfl rfl rfl rfl (fun k => absurd (of_decide_eq_true k) (by simp only; omega)) (fun _ => ?_)
        repeat' first
          | refine aw_seq ?_
          | refine aw_region ?_
          | refine aw_lex [] ?_
          | (refine isA ?_; refine do_F rfl ?_)
          | (refine isL ?_; refine lex_F rfl (by kernel_rfl) rfl rfl ?_)
          | (refine isLg rfl ?_; refine lex_S rfl (by kernel_rfl) rfl rfl ?_)
          | (refine isAi (x := .tmp 51) ?_; refine do_R rfl (ia_l (t := rwT) (z := y) rfl rfl rfl rfl (Int.natCast_nonneg k) hy) rfl ?_)
          | (refine isLi (x := .tmp 51) rfl ?_; refine lex_R rfl (by kernel_rfl) rfl (ia_l (t := rwT) (z := y) rfl rfl rfl rfl (Int.natCast_nonneg k) hy) rfl ?_)
          | (refine isAp ?_; refine do_R rfl (ap_l (t := rwT) (xs := out) (ys := [y]) rfl rfl rfl rfl (src_of rfl rfl rfl rfl) (by simp; omega) rfl) rfl ?_)
          | (refine isLp rfl ?_; refine lex_R rfl (by kernel_rfl) rfl (ap_l (t := rwT) (xs := out) (ys := [y]) rfl rfl rfl rfl (src_of rfl rfl rfl rfl) (by simp; omega) rfl) rfl ?_)
          | refine aops_nil ?_
          | refine lex_done _ rfl (by kernel_rfl) ?_
          | refine aw_ct rfl ?_
          | refine aw_cf rfl ?_
          | refine aw_block ?_
          | with_reducible refine then_n ?_
          | refine aw_skip ?_
          | refine aw_exit ?_
          | with_reducible refine then_x ?_
          | with_reducible refine then_r ?_
          | with_reducible refine block_x ?_
          | with_reducible refine block_n ?_
          | with_reducible refine block_r ?_
          | refine aw_ret ?_
        refine ⟨⟨(i, k + 1, out ++ [y]), by simp only; omega, by simp only; omega, by simp only [List.length_append, List.length_singleton]; omega, by simp only [List.append_assoc, List.singleton_append]; rw [← hq, mgB2 hy q1]⟩, by simp only; omega, ?_⟩
        exact sub0 [2] rfl rfl (by decide) (.cons rfl rfl rfl rfl (les_refl (flat_noH _ _)) .nil) (by
            repeat' first
              | exact les_nil
              | refine les_cons ?_ ?_
              | exact le_any
              | exact le_refl rfl
              | exact le_sl rfl rfl
              | exact le_sl rfl (by simp)
              | exact le_i (n := a.length) (by omega) (by omega)
              | exact le_i (n := b.length) (by omega) (by omega))
      · have q2 : b.length ≤ k := by have := of_decide_eq_false p2; simp only at this; omega
        rw [List.drop_of_length_le q1, List.drop_of_length_le q2, mg_nil, List.append_nil] at hq
        subst hq
        repeat' first
          | refine aw_seq ?_
          | refine aw_region ?_
          | refine aw_lex [] ?_
          | (refine isA ?_; refine do_F rfl ?_)
          | (refine isL ?_; refine lex_F rfl (by kernel_rfl) rfl rfl ?_)
          | (refine isLg rfl ?_; refine lex_S rfl (by kernel_rfl) rfl rfl ?_)
          | exact finL (ty := rwT) rfl rfl rfl rfl rfl rfl (flat_rw _)
          | refine aops_nil ?_
          | refine lex_done _ rfl (by kernel_rfl) ?_
          | refine aw_ct rfl ?_
          | refine aw_cf rfl ?_
          | refine aw_block ?_
          | with_reducible refine then_n ?_
          | refine aw_skip ?_
          | refine aw_exit ?_
          | with_reducible refine then_x ?_
          | with_reducible refine then_r ?_
          | with_reducible refine block_x ?_
          | with_reducible refine block_n ?_
          | with_reducible refine block_r ?_
          | refine aw_ret ?_
theorem take_l (xs : List Rw) (k : Nat) : ((rwT.flat xs).drop (0 * 3)).take ((k - 0) * 3) = rwT.flat (xs.take k) := by
  rw [Nat.zero_mul, List.drop_zero, Nat.sub_zero, show k * 3 = k * rwT.n from rfl, flat_take]
theorem drop_l (xs : List Rw) (k : Nat) : ((rwT.flat xs).drop (k * 3)).take ((xs.length - k) * 3) = rwT.flat (xs.drop k) := by
  rw [show k * 3 = k * rwT.n from rfl, flat_drop, show (xs.length - k) * 3 = (xs.length - k) * rwT.n from rfl, flat_take, List.take_of_length_le (by simp)]
theorem st_takeL {o : Oper} {ρ : Operand → V} {H : List Reg} {x y : Operand} {xs : List Rw} {k : Nat} {kk : IntKind} (ho : o.op = .slice 24 x none (some y) none) (hx : ρ x = rwL xs) (hy : ρ y = .k (.int kk k)) (hk : k ≤ xs.length) : Step Go.Proofs.Try.prog o ρ H (rwL (xs.take k)) H := by
  have := step_slice_lst (P := Go.Proofs.Try.prog) (o := o) (ρ := ρ) (H := H) (l := 0) (h := k) ho hx (.no 0) (.yes _ hy) (flat_length rwT xs) (by omega) (by omega) (by omega)
  rw [Int.toNat_natCast, show Int.toNat 0 = 0 from rfl] at this
  rw [show rwL (xs.take k) = .lst (k - 0) (((rwT.flat xs).drop (0 * 3)).take ((k - 0) * 3)) by rw [take_l]; simp [lstOf]; omega]
  exact this
theorem st_dropL {o : Oper} {ρ : Operand → V} {H : List Reg} {x y : Operand} {xs : List Rw} {k : Nat} {j : Int} {kk : IntKind} (ho : o.op = .slice 24 x (some y) none none) (hx : ρ x = rwL xs) (hy : ρ y = .k (.int kk j)) (hj : j = (k : Int)) (hk : k ≤ xs.length) : Step Go.Proofs.Try.prog o ρ H (rwL (xs.drop k)) H := by
  subst hj
  have := step_slice_lst (P := Go.Proofs.Try.prog) (o := o) (ρ := ρ) (H := H) (l := k) (h := xs.length) ho hx (.yes _ hy) (.no _) (flat_length rwT xs) (by omega) (by omega) (by omega)
  rw [Int.toNat_natCast, Int.toNat_natCast] at this
  rw [show rwL (xs.drop k) = .lst (xs.length - k) (((rwT.flat xs).drop (k * 3)).take ((xs.length - k) * 3)) by rw [drop_l]; simp [lstOf]]
  exact this

theorem src_of2 {K : List Reg} {h : Nat} {e : TypeId} {c : List V} {xs : List Rw} (hr : K[h]? = some ⟨e, 3, c, 0⟩) (hc : c = rwT.flat xs) : Src K (.sl h 0 xs.length) xs.length (rwT.flat xs) := by
  subst hc
  have := Src.sl (H := K) (h := h) (off := 0) (m := xs.length) (r := ⟨e, 3, rwT.flat xs, 0⟩) hr (Nat.zero_le _) (by show (0 + xs.length) * 3 ≤ _; rw [flat_length]; show _ ≤ xs.length * 3; omega)
  have e2 : ((rwT.flat xs).drop (0 * 3)).take (xs.length * 3) = rwT.flat xs := by rw [Nat.zero_mul, List.drop_zero, List.take_of_length_le]; rw [flat_length]; exact Nat.le_refl _
  rw [show (((⟨e, 3, rwT.flat xs, 0⟩ : Reg).cells.drop (0 * (⟨e, 3, rwT.flat xs, 0⟩ : Reg).esz)).take (xs.length * (⟨e, 3, rwT.flat xs, 0⟩ : Reg).esz)) = rwT.flat xs from e2] at this
  exact this
theorem c_img (a b : List Rw) (h1 : a.length ≤ 100000000) (h2 : b.length ≤ 100000000) : Meets Go.Proofs.Try.prog 46 [rwL a, rwL b] [] (.sl 0 0 (mgV a b).length) [rwR (mgV a b)] false := by
  refine meets_of [4] Go.Proofs.Try.func46 rfl rfl ?_
  simp only [Go.Proofs.Try.ntmps46, List.length_cons, List.length_nil, Nat.reduceAdd, Nat.reduceSub, List.replicate_succ, List.replicate_zero, List.cons_append, List.nil_append]
  repeat' first
    | refine aw_seq ?_
    | refine aw_region ?_
    | refine aw_lex [] ?_
    | (refine isA ?_; refine do_F rfl ?_)
    | (refine isL ?_; refine lex_F rfl (by kernel_rfl) rfl rfl ?_)
    | (refine isLg rfl ?_; refine lex_S rfl (by kernel_rfl) rfl rfl ?_)
    | refine aops_nil ?_
    | refine lex_done _ rfl (by kernel_rfl) ?_
    | refine aw_ct rfl ?_
    | refine aw_cf rfl ?_
    | refine aw_block ?_
    | with_reducible refine then_n ?_
    | refine aw_skip ?_
    | refine aw_exit ?_
    | with_reducible refine then_x ?_
    | with_reducible refine then_r ?_
    | with_reducible refine block_x ?_
    | with_reducible refine block_n ?_
    | with_reducible refine block_r ?_
    | refine aw_ret ?_
  refine aw_loop (α := { p : List Rw × List Rw × List Rw // p.2.2.length + p.1.length + p.2.1.length = a.length + b.length ∧ p.2.2 ++ mgV p.1 p.2.1 = mgV a b }) (fun p => ⟨[rwL p.1.1, rwL p.1.2.1, .any, .any, .any, .sl 0 0 p.1.2.2.length, .any, .any, .any, .any, .any, .any, .any, .any, .any, .any, .any, .any, .any, .any, .any, .any, .any, .any, .any, .any, .any, .any, .any, .any, .any, .any, .any, .any, .any, .any, .any, .any, .any, .any, .any, .any, .any, .any, .any, .any, .any, .any, .any, .any], [rwR p.1.2.2], 0⟩) (fun p => p.1.1.length + p.1.2.1.length) ⟨(a, b, []), by simp, rfl⟩ ?_ ?_
  · exact sub0 [0] rfl rfl (by decide) (.cons rfl rfl rfl rfl (les_refl (flat_noH _ _)) .nil) (by repeat' first | exact les_nil | refine les_cons ?_ ?_ | exact le_any | exact le_refl rfl | exact le_sl rfl rfl | exact le_ptr rfl)
  · rintro ⟨⟨c, d, out⟩, ho, hq⟩
    simp only at ho hq
    repeat' first
      | refine aw_seq ?_
      | refine aw_region ?_
      | refine aw_lex [] ?_
      | (refine isA ?_; refine do_F rfl ?_)
      | (refine isL ?_; refine lex_F rfl (by kernel_rfl) rfl rfl ?_)
      | (refine isLg rfl ?_; refine lex_S rfl (by kernel_rfl) rfl rfl ?_)
      | refine aops_nil ?_
      | refine lex_done _ rfl (by kernel_rfl) ?_
      | refine aw_ct rfl ?_
      | refine aw_cf rfl ?_
      | refine aw_block ?_
      | with_reducible refine then_n ?_
      | refine aw_skip ?_
      | refine aw_exit ?_
      | with_reducible refine then_x ?_
      | with_reducible refine then_r ?_
      | with_reducible refine block_x ?_
      | with_reducible refine block_n ?_
      | with_reducible refine block_r ?_
      | refine aw_ret ?_
    refine do_br rfl rfl (fun p1 => ?_) (fun p1 => ?_)
    · have q1 : 1 ≤ c.length := by have := of_decide_eq_true p1; simp only at this; omega
      obtain ⟨x, hx⟩ : ∃ z, c[0]? = some z := ⟨_, List.getElem?_eq_getElem q1⟩
      repeat' first
        | refine aw_seq ?_
        | refine aw_region ?_
        | refine aw_lex [] ?_
        | (refine isA ?_; refine do_F rfl ?_)
        | (refine isL ?_; refine lex_F rfl (by kernel_rfl) rfl rfl ?_)
        | (refine isLg rfl ?_; refine lex_S rfl (by kernel_rfl) rfl rfl ?_)
        | refine aops_nil ?_
        | refine lex_done _ rfl (by kernel_rfl) ?_
        | refine aw_ct rfl ?_
        | refine aw_cf rfl ?_
        | refine aw_block ?_
        | with_reducible refine then_n ?_
        | refine aw_skip ?_
        | refine aw_exit ?_
        | with_reducible refine then_x ?_
        | with_reducible refine then_r ?_
        | with_reducible refine block_x ?_
        | with_reducible refine block_n ?_
        | with_reducible refine block_r ?_
        | refine aw_ret ?_
      refine lex_br rfl rfl rfl rfl (fun p2 => ?_) (fun p2 => ?_)
      · have q2 : d.length ≤ 0 := by have := of_decide_eq_true p2; simp only at this; omega
        have e : mgV c d = x :: mgV (c.drop 1) d := mgA1 (i := 0) (k := 0) hx q2
        repeat' first
          | refine aw_seq ?_
          | refine aw_region ?_
          | refine aw_lex [] ?_
          | (refine isA ?_; refine do_F rfl ?_)
          | (refine isL ?_; refine lex_F rfl (by kernel_rfl) rfl rfl ?_)
          | (refine isLg rfl ?_; refine lex_S rfl (by kernel_rfl) rfl rfl ?_)
          | (refine isAi (x := .tmp 34) ?_; refine do_R rfl (ia_l (t := rwT) (z := x) rfl rfl rfl rfl (Int.le_refl 0) hx) rfl ?_)
          | (refine isLi (x := .tmp 34) rfl ?_; refine lex_R rfl (by kernel_rfl) rfl (ia_l (t := rwT) (z := x) rfl rfl rfl rfl (Int.le_refl 0) hx) rfl ?_)
          | (refine isAp ?_; refine do_R rfl (ap_l (t := rwT) (xs := out) (ys := [x]) rfl rfl rfl rfl (src_of rfl rfl rfl rfl) (by simp; omega) rfl) rfl ?_)
          | (refine isLp rfl ?_; refine lex_R rfl (by kernel_rfl) rfl (ap_l (t := rwT) (xs := out) (ys := [x]) rfl rfl rfl rfl (src_of rfl rfl rfl rfl) (by simp; omega) rfl) rfl ?_)
          | (refine isAx ?_; refine do_R rfl (st_dropL (k := 1) rfl rfl rfl rfl q1) rfl ?_)
          | (refine isLx rfl ?_; refine lex_R rfl (by kernel_rfl) rfl (st_dropL (k := 1) rfl rfl rfl rfl q1) rfl ?_)
          | refine aops_nil ?_
          | refine lex_done _ rfl (by kernel_rfl) ?_
          | refine aw_ct rfl ?_
          | refine aw_cf rfl ?_
          | refine aw_block ?_
          | with_reducible refine then_n ?_
          | refine aw_skip ?_
          | refine aw_exit ?_
          | with_reducible refine then_x ?_
          | with_reducible refine then_r ?_
          | with_reducible refine block_x ?_
          | with_reducible refine block_n ?_
          | with_reducible refine block_r ?_
          | refine aw_ret ?_
        refine ⟨⟨(c.drop 1, d, out ++ [x]), by simp only [List.length_append, List.length_singleton, List.length_drop]; omega, by simp only [List.append_assoc, List.singleton_append]; rw [← hq, e]⟩, by simp only [List.length_drop]; omega, ?_⟩
        exact sub0 [2] rfl rfl (by decide) (.cons rfl rfl rfl rfl (les_refl (flat_noH _ _)) .nil) (by
            repeat' first
              | exact les_nil
              | refine les_cons ?_ ?_
              | exact le_any
              | exact le_refl rfl
              | exact le_sl rfl rfl
              | exact le_sl rfl (by simp))
      · have q2 : 1 ≤ d.length := by have := of_decide_eq_false p2; simp only at this; omega
        obtain ⟨y, hy⟩ : ∃ z, d[0]? = some z := ⟨_, List.getElem?_eq_getElem q2⟩
        repeat' first
          | refine aw_seq ?_
          | refine aw_region ?_
          | refine aw_lex [] ?_
          | (refine isA ?_; refine do_F rfl ?_)
          | (refine isL ?_; refine lex_F rfl (by kernel_rfl) rfl rfl ?_)
          | (refine isLg rfl ?_; refine lex_S rfl (by kernel_rfl) rfl rfl ?_)
          | refine aops_nil ?_
          | refine lex_done _ rfl (by kernel_rfl) ?_
          | refine aw_ct rfl ?_
          | refine aw_cf rfl ?_
          | refine aw_block ?_
          | with_reducible refine then_n ?_
          | refine aw_skip ?_
          | refine aw_exit ?_
          | with_reducible refine then_x ?_
          | with_reducible refine then_r ?_
          | with_reducible refine block_x ?_
          | with_reducible refine block_n ?_
          | with_reducible refine block_r ?_
          | refine aw_ret ?_
        refine lex_br rfl rfl rfl rfl (fun _ => ?_) (fun k => absurd (of_decide_eq_false k) (by simp only; omega))
        repeat' first
          | refine aw_seq ?_
          | refine aw_region ?_
          | refine aw_lex [] ?_
          | (refine isA ?_; refine do_F rfl ?_)
          | (refine isL ?_; refine lex_F rfl (by kernel_rfl) rfl rfl ?_)
          | (refine isLg rfl ?_; refine lex_S rfl (by kernel_rfl) rfl rfl ?_)
          | (refine isAi (x := .tmp 23) ?_; refine do_R rfl (ia_l (t := rwT) (z := x) rfl rfl rfl rfl (Int.le_refl 0) hx) rfl ?_)
          | (refine isLi (x := .tmp 23) rfl ?_; refine lex_R rfl (by kernel_rfl) rfl (ia_l (t := rwT) (z := x) rfl rfl rfl rfl (Int.le_refl 0) hx) rfl ?_)
          | (refine isAi (x := .tmp 26) ?_; refine do_R rfl (ia_l (t := rwT) (z := y) rfl rfl rfl rfl (Int.le_refl 0) hy) rfl ?_)
          | (refine isLi (x := .tmp 26) rfl ?_; refine lex_R rfl (by kernel_rfl) rfl (ia_l (t := rwT) (z := y) rfl rfl rfl rfl (Int.le_refl 0) hy) rfl ?_)
          | (refine isAc 122 ?_; refine do_R rfl (st_call rfl (c_icmp x y) (.cons (.same rfl) (.cons (.same rfl) .nil)) rfl) rfl ?_)
          | (refine isLc 122 rfl ?_; refine lex_R rfl (by kernel_rfl) rfl (st_call rfl (c_icmp x y) (.cons (.same rfl) (.cons (.same rfl) .nil)) rfl) rfl ?_)
          | refine aops_nil ?_
          | refine lex_done _ rfl (by kernel_rfl) ?_
          | refine aw_ct rfl ?_
          | refine aw_cf rfl ?_
          | refine aw_block ?_
          | with_reducible refine then_n ?_
          | refine aw_skip ?_
          | refine aw_exit ?_
          | with_reducible refine then_x ?_
          | with_reducible refine then_r ?_
          | with_reducible refine block_x ?_
          | with_reducible refine block_n ?_
          | with_reducible refine block_r ?_
          | refine aw_ret ?_
        refine aw_cond rfl (fun p3 => ?_) (fun p3 => ?_)
        · skip
          have e : mgV c d = x :: mgV (c.drop 1) d := mgA2 (i := 0) (k := 0) hx hy p3
          repeat' first
            | refine aw_seq ?_
            | refine aw_region ?_
            | refine aw_lex [] ?_
            | (refine isA ?_; refine do_F rfl ?_)
            | (refine isL ?_; refine lex_F rfl (by kernel_rfl) rfl rfl ?_)
            | (refine isLg rfl ?_; refine lex_S rfl (by kernel_rfl) rfl rfl ?_)
            | (refine isAi (x := .tmp 34) ?_; refine do_R rfl (ia_l (t := rwT) (z := x) rfl rfl rfl rfl (Int.le_refl 0) hx) rfl ?_)
            | (refine isLi (x := .tmp 34) rfl ?_; refine lex_R rfl (by kernel_rfl) rfl (ia_l (t := rwT) (z := x) rfl rfl rfl rfl (Int.le_refl 0) hx) rfl ?_)
            | (refine isAp ?_; refine do_R rfl (ap_l (t := rwT) (xs := out) (ys := [x]) rfl rfl rfl rfl (src_of rfl rfl rfl rfl) (by simp; omega) rfl) rfl ?_)
            | (refine isLp rfl ?_; refine lex_R rfl (by kernel_rfl) rfl (ap_l (t := rwT) (xs := out) (ys := [x]) rfl rfl rfl rfl (src_of rfl rfl rfl rfl) (by simp; omega) rfl) rfl ?_)
            | (refine isAx ?_; refine do_R rfl (st_dropL (k := 1) rfl rfl rfl rfl q1) rfl ?_)
            | (refine isLx rfl ?_; refine lex_R rfl (by kernel_rfl) rfl (st_dropL (k := 1) rfl rfl rfl rfl q1) rfl ?_)
            | refine aops_nil ?_
            | refine lex_done _ rfl (by kernel_rfl) ?_
            | refine aw_ct rfl ?_
            | refine aw_cf rfl ?_
            | refine aw_block ?_
            | with_reducible refine then_n ?_
            | refine aw_skip ?_
            | refine aw_exit ?_
            | with_reducible refine then_x ?_
            | with_reducible refine then_r ?_
            | with_reducible refine block_x ?_
            | with_reducible refine block_n ?_
            | with_reducible refine block_r ?_
            | refine aw_ret ?_
          refine ⟨⟨(c.drop 1, d, out ++ [x]), by simp only [List.length_append, List.length_singleton, List.length_drop]; omega, by simp only [List.append_assoc, List.singleton_append]; rw [← hq, e]⟩, by simp only [List.length_drop]; omega, ?_⟩
          exact sub0 [2] rfl rfl (by decide) (.cons rfl rfl rfl rfl (les_refl (flat_noH _ _)) .nil) (by
              repeat' first
                | exact les_nil
                | refine les_cons ?_ ?_
                | exact le_any
                | exact le_refl rfl
                | exact le_sl rfl rfl
                | exact le_sl rfl (by simp))
        · skip
          have e : mgV c d = y :: mgV c (d.drop 1) := mgB1 (i := 0) (k := 0) hx hy p3
          repeat' first
            | refine aw_seq ?_
            | refine aw_region ?_
            | refine aw_lex [] ?_
            | (refine isA ?_; refine do_F rfl ?_)
            | (refine isL ?_; refine lex_F rfl (by kernel_rfl) rfl rfl ?_)
            | (refine isLg rfl ?_; refine lex_S rfl (by kernel_rfl) rfl rfl ?_)
            | (refine isAi (x := .tmp 42) ?_; refine do_R rfl (ia_l (t := rwT) (z := y) rfl rfl rfl rfl (Int.le_refl 0) hy) rfl ?_)
            | (refine isLi (x := .tmp 42) rfl ?_; refine lex_R rfl (by kernel_rfl) rfl (ia_l (t := rwT) (z := y) rfl rfl rfl rfl (Int.le_refl 0) hy) rfl ?_)
            | (refine isAp ?_; refine do_R rfl (ap_l (t := rwT) (xs := out) (ys := [y]) rfl rfl rfl rfl (src_of rfl rfl rfl rfl) (by simp; omega) rfl) rfl ?_)
            | (refine isLp rfl ?_; refine lex_R rfl (by kernel_rfl) rfl (ap_l (t := rwT) (xs := out) (ys := [y]) rfl rfl rfl rfl (src_of rfl rfl rfl rfl) (by simp; omega) rfl) rfl ?_)
            | (refine isAx ?_; refine do_R rfl (st_dropL (k := 1) rfl rfl rfl rfl q2) rfl ?_)
            | (refine isLx rfl ?_; refine lex_R rfl (by kernel_rfl) rfl (st_dropL (k := 1) rfl rfl rfl rfl q2) rfl ?_)
            | refine aops_nil ?_
            | refine lex_done _ rfl (by kernel_rfl) ?_
            | refine aw_ct rfl ?_
            | refine aw_cf rfl ?_
            | refine aw_block ?_
            | with_reducible refine then_n ?_
            | refine aw_skip ?_
            | refine aw_exit ?_
            | with_reducible refine then_x ?_
            | with_reducible refine then_r ?_
            | with_reducible refine block_x ?_
            | with_reducible refine block_n ?_
            | with_reducible refine block_r ?_
            | refine aw_ret ?_
          refine ⟨⟨(c, d.drop 1, out ++ [y]), by simp only [List.length_append, List.length_singleton, List.length_drop]; omega, by simp only [List.append_assoc, List.singleton_append]; rw [← hq, e]⟩, by simp only [List.length_drop]; omega, ?_⟩
          exact sub0 [2] rfl rfl (by decide) (.cons rfl rfl rfl rfl (les_refl (flat_noH _ _)) .nil) (by
              repeat' first
                | exact les_nil
                | refine les_cons ?_ ?_
                | exact le_any
                | exact le_refl rfl
                | exact le_sl rfl rfl
                | exact le_sl rfl (by simp))
    · have q1 : c.length ≤ 0 := by have := of_decide_eq_false p1; simp only at this; omega
      repeat' first
        | refine aw_seq ?_
        | refine aw_region ?_
        | refine aw_lex [] ?_
        | (refine isA ?_; refine do_F rfl ?_)
        | (refine isL ?_; refine lex_F rfl (by kernel_rfl) rfl rfl ?_)
        | (refine isLg rfl ?_; refine lex_S rfl (by kernel_rfl) rfl rfl ?_)
        | refine aops_nil ?_
        | refine lex_done _ rfl (by kernel_rfl) ?_
        | refine aw_ct rfl ?_
        | refine aw_cf rfl ?_
        | refine aw_block ?_
        | with_reducible refine then_n ?_
        | refine aw_skip ?_
        | refine aw_exit ?_
        | with_reducible refine then_x ?_
        | with_reducible refine then_r ?_
        | with_reducible refine block_x ?_
        | with_reducible refine block_n ?_
        | with_reducible refine block_r ?_
        | refine aw_ret ?_
      refine aw_cond rfl (fun p2 => ?_) (fun p2 => ?_)
      · have q2 : 1 ≤ d.length := by have := of_decide_eq_true p2; simp only at this; omega
        obtain ⟨y, hy⟩ : ∃ z, d[0]? = some z := ⟨_, List.getElem?_eq_getElem q2⟩
        repeat' first
          | refine aw_seq ?_
          | refine aw_region ?_
          | refine aw_lex [] ?_
          | (refine isA ?_; refine do_F rfl ?_)
          | (refine isL ?_; refine lex_F rfl (by kernel_rfl) rfl rfl ?_)
          | (refine isLg rfl ?_; refine lex_S rfl (by kernel_rfl) rfl rfl ?_)
          | refine aops_nil ?_
          | refine lex_done _ rfl (by kernel_rfl) ?_
          | refine aw_ct rfl ?_
          | refine aw_cf rfl ?_
          | refine aw_block ?_
          | with_reducible refine then_n ?_
          | refine aw_skip ?_
          | refine aw_exit ?_
          | with_reducible refine then_x ?_
          | with_reducible refine then_r ?_
          | with_reducible refine block_x ?_
          | with_reducible refine block_n ?_
          | with_reducible refine block_r ?_
          | refine aw_ret ?_
        refine lex_br rfl rfl rfl rfl (fun k => absurd (of_decide_eq_true k) (by simp only; omega)) (fun _ => ?_)
        repeat' first
          | refine aw_seq ?_
          | refine aw_region ?_
          | refine aw_lex [] ?_
          | (refine isA ?_; refine do_F rfl ?_)
          | (refine isL ?_; refine lex_F rfl (by kernel_rfl) rfl rfl ?_)
          | (refine isLg rfl ?_; refine lex_S rfl (by kernel_rfl) rfl rfl ?_)
          | refine aops_nil ?_
          | refine lex_done _ rfl (by kernel_rfl) ?_
          | refine aw_ct rfl ?_
          | refine aw_cf rfl ?_
          | refine aw_block ?_
          | with_reducible refine then_n ?_
          | refine aw_skip ?_
          | refine aw_exit ?_
          | with_reducible refine then_x ?_
          | with_reducible refine then_r ?_
          | with_reducible refine block_x ?_
          | with_reducible refine block_n ?_
          | with_reducible refine block_r ?_
          | refine aw_ret ?_
        refine lex_br rfl rfl rfl rfl (fun k => absurd (of_decide_eq_true k) (by simp only; omega)) (fun _ => ?_)
        have e : mgV c d = y :: mgV c (d.drop 1) := mgB2 (i := 0) (k := 0) hy q1
        repeat' first
          | refine aw_seq ?_
          | refine aw_region ?_
          | refine aw_lex [] ?_
          | (refine isA ?_; refine do_F rfl ?_)
          | (refine isL ?_; refine lex_F rfl (by kernel_rfl) rfl rfl ?_)
          | (refine isLg rfl ?_; refine lex_S rfl (by kernel_rfl) rfl rfl ?_)
          | (refine isAi (x := .tmp 42) ?_; refine do_R rfl (ia_l (t := rwT) (z := y) rfl rfl rfl rfl (Int.le_refl 0) hy) rfl ?_)
          | (refine isLi (x := .tmp 42) rfl ?_; refine lex_R rfl (by kernel_rfl) rfl (ia_l (t := rwT) (z := y) rfl rfl rfl rfl (Int.le_refl 0) hy) rfl ?_)
          | (refine isAp ?_; refine do_R rfl (ap_l (t := rwT) (xs := out) (ys := [y]) rfl rfl rfl rfl (src_of rfl rfl rfl rfl) (by simp; omega) rfl) rfl ?_)
          | (refine isLp rfl ?_; refine lex_R rfl (by kernel_rfl) rfl (ap_l (t := rwT) (xs := out) (ys := [y]) rfl rfl rfl rfl (src_of rfl rfl rfl rfl) (by simp; omega) rfl) rfl ?_)
          | (refine isAx ?_; refine do_R rfl (st_dropL (k := 1) rfl rfl rfl rfl q2) rfl ?_)
          | (refine isLx rfl ?_; refine lex_R rfl (by kernel_rfl) rfl (st_dropL (k := 1) rfl rfl rfl rfl q2) rfl ?_)
          | refine aops_nil ?_
          | refine lex_done _ rfl (by kernel_rfl) ?_
          | refine aw_ct rfl ?_
          | refine aw_cf rfl ?_
          | refine aw_block ?_
          | with_reducible refine then_n ?_
          | refine aw_skip ?_
          | refine aw_exit ?_
          | with_reducible refine then_x ?_
          | with_reducible refine then_r ?_
          | with_reducible refine block_x ?_
          | with_reducible refine block_n ?_
          | with_reducible refine block_r ?_
          | refine aw_ret ?_
        refine ⟨⟨(c, d.drop 1, out ++ [y]), by simp only [List.length_append, List.length_singleton, List.length_drop]; omega, by simp only [List.append_assoc, List.singleton_append]; rw [← hq, e]⟩, by simp only [List.length_drop]; omega, ?_⟩
        exact sub0 [2] rfl rfl (by decide) (.cons rfl rfl rfl rfl (les_refl (flat_noH _ _)) .nil) (by
            repeat' first
              | exact les_nil
              | refine les_cons ?_ ?_
              | exact le_any
              | exact le_refl rfl
              | exact le_sl rfl rfl
              | exact le_sl rfl (by simp))
      · have q2 : d.length ≤ 0 := by have := of_decide_eq_false p2; simp only at this; omega
        have c0 : c = [] := List.eq_nil_of_length_eq_zero (by omega)
        have d0 : d = [] := List.eq_nil_of_length_eq_zero (by omega)
        subst c0 d0
        rw [mg_nil, List.append_nil] at hq
        subst hq
        repeat' first
          | refine aw_seq ?_
          | refine aw_region ?_
          | refine aw_lex [] ?_
          | (refine isA ?_; refine do_F rfl ?_)
          | (refine isL ?_; refine lex_F rfl (by kernel_rfl) rfl rfl ?_)
          | (refine isLg rfl ?_; refine lex_S rfl (by kernel_rfl) rfl rfl ?_)
          | exact finL (ty := rwT) rfl rfl rfl rfl rfl rfl (flat_rw _)
          | refine aops_nil ?_
          | refine lex_done _ rfl (by kernel_rfl) ?_
          | refine aw_ct rfl ?_
          | refine aw_cf rfl ?_
          | refine aw_block ?_
          | with_reducible refine then_n ?_
          | refine aw_skip ?_
          | refine aw_exit ?_
          | with_reducible refine then_x ?_
          | with_reducible refine then_r ?_
          | with_reducible refine block_x ?_
          | with_reducible refine block_n ?_
          | with_reducible refine block_r ?_
          | refine aw_ret ?_
end Go.Proofs.Ytkcicbigpbdjpaa.Ab

/- MgB -/
namespace Go.Proofs.Ytkcicbigpbdjpaa.Ab
open Go.RowKit

def mpV : List Rn → List Rn
  | [] => []
  | [x] => [x]
  | x :: y :: r => mgV x y :: mpV r
theorem mp_end {rs : List Rn} {i : Nat} (h : rs.length ≤ i) : mpV (rs.drop i) = [] := by rw [List.drop_of_length_le h]; rfl
theorem mp_one {rs : List Rn} {i : Nat} {x : Rn} (hx : rs[i]? = some x) (h : i + 1 = rs.length) : mpV (rs.drop i) = x :: mpV (rs.drop (i + 2)) := by
  rw [take_drop1 hx, List.drop_of_length_le (show rs.length ≤ i + 1 by omega), List.drop_of_length_le (show rs.length ≤ i + 2 by omega)]; rfl
theorem mp_two {rs : List Rn} {i : Nat} {x y : Rn} (hx : rs[i]? = some x) (hy : rs[i + 1]? = some y) : mpV (rs.drop i) = mgV x y :: mpV (rs.drop (i + 2)) := by
  rw [take_drop1 hx, take_drop1 hy, mpV]

theorem get_last {L : List Reg} {N : Reg} {n : Nat} (h : L.length = n) : (L ++ [N])[n]? = some N := by
  rw [List.getElem?_append_right (by omega), show n - L.length = 0 by omega]; rfl
/-- The rows of the runs so far and of one more. -/
theorem hle_pass {D S : Reg} {out : List Rn} {z : Rn} {A : List Reg} {k : Nat} (hE : A[k]? = some (rwR z)) : HLe ((out.length + A.length + 2) :: (List.range' 1 out.length ++ [1 + out.length + k])) (rnN (out ++ [z])) (D :: (nR rwT 71 out ++ A ++ [S]) ++ [⟨39, 1, nC 1 out ++ [.sl (1 + out.length + k) 0 z.length], 0⟩]) := by
  have hk : k < A.length := (List.getElem?_eq_some_iff.1 hE).1
  refine hle_push (get_last (by simp [nR_length]; omega)) ?_ (row_in (K0 := [D]) (D := A ++ [S] ++ [⟨39, 1, nC 1 out ++ [.sl (1 + out.length + k) 0 z.length], 0⟩]) rfl (by simp)) (by omega) (by omega) (by omega)
  rw [show 1 + out.length + k = (out.length + k) + 1 by omega, List.cons_append, List.getElem?_cons_succ, List.append_assoc, List.append_assoc, List.getElem?_append_right (by simp [nR_length]), nR_length, Nat.add_sub_cancel_left, List.getElem?_append_left hk]
  exact hE
theorem c_imp (rs : List Rn) (hl : rs.length ≤ 10000000) (ht : tot rs ≤ 10000000) : Meets Go.Proofs.Try.prog 49 [rnL rs] [] (.sl 0 0 (mpV rs).length) (rnN (mpV rs)) false := by
  have hlx : ∀ (i : Nat) (x : Rn), rs[i]? = some x → x.length ≤ 10000000 := fun i x hx => by
    have : x.length ≤ tot rs := mem_sum (List.mem_map.2 ⟨x, List.mem_of_getElem? hx, rfl⟩)
    omega
  refine meets_of [2] Go.Proofs.Try.func49 rfl rfl ?_
  simp only [Go.Proofs.Try.ntmps49, List.length_cons, List.length_nil, Nat.reduceAdd, Nat.reduceSub, List.replicate_succ, List.replicate_zero, List.cons_append, List.nil_append]
  repeat' first
    | refine aw_seq ?_
    | refine aw_region ?_
    | refine aw_lex [] ?_
    | (refine isA ?_; refine do_F rfl ?_)
    | (refine isL ?_; refine lex_F rfl (by kernel_rfl) rfl rfl ?_)
    | (refine isLg rfl ?_; refine lex_S rfl (by kernel_rfl) rfl rfl ?_)
    | refine aops_nil ?_
    | refine lex_done _ rfl (by kernel_rfl) ?_
    | refine aw_ct rfl ?_
    | refine aw_cf rfl ?_
    | refine aw_block ?_
    | with_reducible refine then_n ?_
    | refine aw_skip ?_
    | refine aw_exit ?_
    | with_reducible refine then_x ?_
    | with_reducible refine then_r ?_
    | with_reducible refine block_x ?_
    | with_reducible refine block_n ?_
    | with_reducible refine block_r ?_
    | refine aw_ret ?_
  refine aw_loop (α := { p : Nat × List Rn // p.1 ≤ rs.length + 1 ∧ p.2.length ≤ p.1 ∧ p.2 ++ mpV (rs.drop p.1) = mpV rs }) (fun p => ⟨[rnL rs, .any, .any, .sl 0 0 p.1.2.length, I p.1.1, .any, .any, .any, .any, .any, .any, .any, .any, .any, .any, .any, .any, .any, .any, .any, .any, .any, .any, .any, .any, .any, .any, .any, .any, .any, .any, .any, .any, .any, .any, .any, .any, .any, .any, .any, .any, .any, .any, .any], rnN p.1.2, 0⟩) (fun p => rs.length + 1 - p.1.1) ⟨(0, []), Nat.zero_le _, Nat.zero_le _, rfl⟩ ?_ ?_
  · exact sub_id rfl (by repeat' first | exact EqS.nil | refine EqS.any ?_ | refine EqS.same rfl ?_)
  · rintro ⟨⟨i, out⟩, hi, ho, hq⟩
    simp only at hi ho hq
    have hnl : (rnN out).length = out.length + 1 := by simp [nR_length]
    repeat' first
      | refine aw_seq ?_
      | refine aw_region ?_
      | refine aw_lex [] ?_
      | (refine isA ?_; refine do_F rfl ?_)
      | (refine isL ?_; refine lex_F rfl (by kernel_rfl) rfl rfl ?_)
      | (refine isLg rfl ?_; refine lex_S rfl (by kernel_rfl) rfl rfl ?_)
      | refine aops_nil ?_
      | refine lex_done _ rfl (by kernel_rfl) ?_
      | refine aw_ct rfl ?_
      | refine aw_cf rfl ?_
      | refine aw_block ?_
      | with_reducible refine then_n ?_
      | refine aw_skip ?_
      | refine aw_exit ?_
      | with_reducible refine then_x ?_
      | with_reducible refine then_r ?_
      | with_reducible refine block_x ?_
      | with_reducible refine block_n ?_
      | with_reducible refine block_r ?_
      | refine aw_ret ?_
    refine aw_cond rfl (fun h => ?_) (fun h => ?_)
    · have hlt : i < rs.length := by have := of_decide_eq_true h; simp only at this; omega
      obtain ⟨x, hx⟩ : ∃ z, rs[i]? = some z := ⟨_, List.getElem?_eq_getElem hlt⟩
      repeat' first
        | refine aw_seq ?_
        | refine aw_region ?_
        | refine aw_lex [] ?_
        | (refine isA ?_; refine do_F rfl ?_)
        | (refine isL ?_; refine lex_F rfl (by kernel_rfl) rfl rfl ?_)
        | (refine isLg rfl ?_; refine lex_S rfl (by kernel_rfl) rfl rfl ?_)
        | refine aops_nil ?_
        | refine lex_done _ rfl (by kernel_rfl) ?_
        | refine aw_ct rfl ?_
        | refine aw_cf rfl ?_
        | refine aw_block ?_
        | with_reducible refine then_n ?_
        | refine aw_skip ?_
        | refine aw_exit ?_
        | with_reducible refine then_x ?_
        | with_reducible refine then_r ?_
        | with_reducible refine block_x ?_
        | with_reducible refine block_n ?_
        | with_reducible refine block_r ?_
        | refine aw_ret ?_
      refine aw_cond rfl (fun k => ?_) (fun k => ?_)
      · have hk : i + 1 = rs.length := by
          have := of_decide_eq_true k
          have e : IntKind.i64.wrap ((i : Int) + 1) = (i : Int) + 1 := by rw [IntKind.wrap_i64]; omega
          simp only [e] at this
          omega
        repeat' first
          | refine aw_seq ?_
          | refine aw_region ?_
          | refine aw_lex [] ?_
          | (refine isA ?_; refine do_F rfl ?_)
          | (refine isL ?_; refine lex_F rfl (by kernel_rfl) rfl rfl ?_)
          | (refine isLg rfl ?_; refine lex_S rfl (by kernel_rfl) rfl rfl ?_)
          | (refine isAi (x := .tmp 18) ?_; refine do_R rfl (ia_l (t := rnT) (z := x) rfl rfl rfl rfl (Int.natCast_nonneg i) hx) rfl ?_)
          | (refine isLi (x := .tmp 18) rfl ?_; refine lex_R rfl (by kernel_rfl) rfl (ia_l (t := rnT) (z := x) rfl rfl rfl rfl (Int.natCast_nonneg i) hx) rfl ?_)
          | (refine isAc 130 ?_; refine do_R rfl (st_callK (r' := .sl (1 + out.length) 0 x.length) (H' := rnN out ++ [rwR x]) rfl (c_clone x (by have := hlx i x hx; omega)) (.cons (.same rfl) .nil) (fun q hq => by simp at hq; subst hq; exact flat_noH _ _) (by simp only [hnl, shV, Nat.zero_add]; rw [Nat.add_comm]) rfl) rfl ?_)
          | (refine isLc 130 rfl ?_; refine lex_R rfl (by kernel_rfl) rfl (st_callK (r' := .sl (1 + out.length) 0 x.length) (H' := rnN out ++ [rwR x]) rfl (c_clone x (by have := hlx i x hx; omega)) (.cons (.same rfl) .nil) (fun q hq => by simp at hq; subst hq; exact flat_noH _ _) (by simp only [hnl, shV, Nat.zero_add]; rw [Nat.add_comm]) rfl) rfl ?_)
          | (refine isAp ?_; refine do_R rfl (ap_nest (outs := out) (hz := (rnN out ++ [rwR x]).length) (zi := 1 + out.length) (n := x.length) rfl rfl rfl rfl (get_last rfl) (by omega) rfl) rfl ?_)
          | (refine isLp rfl ?_; refine lex_R rfl (by kernel_rfl) rfl (ap_nest (outs := out) (hz := (rnN out ++ [rwR x]).length) (zi := 1 + out.length) (n := x.length) rfl rfl rfl rfl (get_last rfl) (by omega) rfl) rfl ?_)
          | refine aops_nil ?_
          | refine lex_done _ rfl (by kernel_rfl) ?_
          | refine aw_ct rfl ?_
          | refine aw_cf rfl ?_
          | refine aw_block ?_
          | with_reducible refine then_n ?_
          | refine aw_skip ?_
          | refine aw_exit ?_
          | with_reducible refine then_x ?_
          | with_reducible refine then_r ?_
          | with_reducible refine block_x ?_
          | with_reducible refine block_n ?_
          | with_reducible refine block_r ?_
          | refine aw_ret ?_
        refine ⟨⟨(i + 2, out ++ [x]), by simp only; omega, by simp only [List.length_append, List.length_singleton]; omega, by simp only [List.append_assoc, List.singleton_append]; rw [← mp_one hx hk]; exact hq⟩, by simp only; omega, ?_⟩
        refine sub_of (((out.length + 1 + 2) :: (List.range' 1 out.length ++ [1 + out.length + 0]))) rfl (fun i hi => absurd hi (Nat.not_lt_zero _)) (hle_pass (A := [rwR x]) (k := 0) rfl) (by
          repeat' first
            | exact les_nil
            | refine les_cons ?_ ?_
            | exact le_any
            | exact le_refl rfl
            | exact le_sl (congrArg some (by simp [nR_length])) (by simp)
            | exact le_k (congrArg _ (show ((i + 2 : Nat) : Int) = IntKind.i64.wrap ((i : Int) + 2) by rw [IntKind.wrap_i64]; omega)))
      · have hk : i + 1 < rs.length := by
          have := of_decide_eq_false k
          have e : IntKind.i64.wrap ((i : Int) + 1) = (i : Int) + 1 := by rw [IntKind.wrap_i64]; omega
          simp only [e] at this
          omega
        have e1 : IntKind.i64.wrap ((i : Int) + 1) = ((i + 1 : Nat) : Int) := by rw [IntKind.wrap_i64]; omega
        obtain ⟨y, hy⟩ : ∃ z, rs[i + 1]? = some z := ⟨_, List.getElem?_eq_getElem hk⟩
        have l1 := hlx i x hx
        have l2 := hlx (i + 1) y hy
        have hml := mg_len x y
        repeat' first
          | refine aw_seq ?_
          | refine aw_region ?_
          | (refine isA ?_; refine do_F rfl ?_)
          | (refine isL ?_; refine lex_F rfl (by kernel_rfl) rfl rfl ?_)
          | (refine isLg rfl ?_; refine lex_S rfl (by kernel_rfl) rfl rfl ?_)
          | refine aops_nil ?_
          | refine lex_done _ rfl (by kernel_rfl) ?_
          | refine aw_ct rfl ?_
          | refine aw_cf rfl ?_
          | refine aw_block ?_
          | with_reducible refine then_n ?_
          | refine aw_skip ?_
          | refine aw_exit ?_
          | with_reducible refine then_x ?_
          | with_reducible refine then_r ?_
          | with_reducible refine block_x ?_
          | with_reducible refine block_n ?_
          | with_reducible refine block_r ?_
          | refine aw_ret ?_
        refine aw_per [12, 14, 15] 17 rfl ?_
        refine per_P 0 rfl (by kernel_rfl) rfl (fun _ => rfl) rfl ?_
        refine per_P 1 rfl (by kernel_rfl) rfl (fun _ => rfl) rfl ?_
        refine per_P 2 rfl (by kernel_rfl) rfl (fun _ => rfl) rfl ?_
        refine per_A 3 rfl (by kernel_rfl) rfl (fun _ => ia_l (t := rnT) (z := x) rfl rfl rfl rfl (Int.natCast_nonneg i) hx) rfl ?_
        refine per_P 4 rfl (by kernel_rfl) rfl (fun _ => rfl) rfl ?_
        refine per_P 5 rfl (by kernel_rfl) rfl (fun _ => rfl) rfl ?_
        refine per_P 6 rfl (by kernel_rfl) rfl (fun _ => rfl) rfl ?_
        refine per_P 7 rfl (by kernel_rfl) rfl (fun _ => rfl) rfl ?_
        refine per_P 8 rfl (by kernel_rfl) rfl (fun _ => rfl) rfl ?_
        refine per_A 9 rfl (by kernel_rfl) rfl (fun _ => ia_l (t := rnT) (z := y) rfl rfl rfl rfl (by rw [e1]; exact Int.natCast_nonneg _) (by rw [e1]; exact hy)) rfl ?_
        refine per_P 10 rfl (by kernel_rfl) rfl (fun _ => rfl) rfl ?_
        refine per_P 11 rfl (by kernel_rfl) rfl (fun _ => rfl) rfl ?_
        refine per_W 12 rfl (by kernel_rfl) rfl rfl (st_callK (r' := .sl (1 + out.length) 0 (mgV x y).length) (H' := rnN out ++ [rwR (mgV x y)]) rfl (c_img x y (by omega) (by omega)) (.cons (.same rfl) (.cons (.same rfl) .nil)) (fun q hq => by simp at hq; subst hq; exact flat_noH _ _) (by simp only [hnl, shV, Nat.zero_add]; rw [Nat.add_comm]) rfl) rfl ?_
        refine per_P 13 rfl (by kernel_rfl) rfl (fun _ => rfl) rfl ?_
        refine per_WF 14 rfl (by kernel_rfl) rfl rfl rfl rfl ?_
        refine per_W 15 rfl (by kernel_rfl) rfl rfl (ap_nest (outs := out) (hz := (rnN out ++ [rwR (mgV x y)]).length) (zi := 1 + out.length) (n := (mgV x y).length) rfl rfl rfl rfl (get_last rfl) (by omega) rfl) rfl ?_
        refine per_P 16 rfl (by kernel_rfl) rfl (fun _ => rfl) rfl ?_
        refine per_done (by kernel_rfl) ?_
        repeat' first
          | refine aw_seq ?_
          | refine aw_region ?_
          | refine aw_lex [] ?_
          | (refine isA ?_; refine do_F rfl ?_)
          | (refine isL ?_; refine lex_F rfl (by kernel_rfl) rfl rfl ?_)
          | (refine isLg rfl ?_; refine lex_S rfl (by kernel_rfl) rfl rfl ?_)
          | refine aops_nil ?_
          | refine lex_done _ rfl (by kernel_rfl) ?_
          | refine aw_ct rfl ?_
          | refine aw_cf rfl ?_
          | refine aw_block ?_
          | with_reducible refine then_n ?_
          | refine aw_skip ?_
          | refine aw_exit ?_
          | with_reducible refine then_x ?_
          | with_reducible refine then_r ?_
          | with_reducible refine block_x ?_
          | with_reducible refine block_n ?_
          | with_reducible refine block_r ?_
          | refine aw_ret ?_
        refine ⟨⟨(i + 2, out ++ [mgV x y]), by simp only; omega, by simp only [List.length_append, List.length_singleton]; omega, by simp only [List.append_assoc, List.singleton_append]; rw [← mp_two hx hy]; exact hq⟩, by simp only; omega, ?_⟩
        exact sub_of (((out.length + 1 + 2) :: (List.range' 1 out.length ++ [1 + out.length + 0]))) rfl (fun i hi => absurd hi (Nat.not_lt_zero _)) (hle_pass (A := [rwR (mgV x y)]) (k := 0) rfl) (by
          repeat' first
            | exact les_nil
            | refine les_cons ?_ ?_
            | exact le_any
            | exact le_refl rfl
            | exact le_sl (congrArg some (by simp [nR_length])) (by simp)
            | exact le_k (congrArg _ (show ((i + 2 : Nat) : Int) = IntKind.i64.wrap ((i : Int) + 2) by rw [IntKind.wrap_i64]; omega)))
    · have hge : rs.length ≤ i := by have := of_decide_eq_false h; simp only at this; omega
      rw [mp_end hge, List.append_nil] at hq
      subst hq
      repeat' first
        | refine aw_seq ?_
        | refine aw_region ?_
        | refine aw_lex [] ?_
        | (refine isA ?_; refine do_F rfl ?_)
        | (refine isL ?_; refine lex_F rfl (by kernel_rfl) rfl rfl ?_)
        | (refine isLg rfl ?_; refine lex_S rfl (by kernel_rfl) rfl rfl ?_)
        | exact finN _ rfl (hle_rn0 _) (le_sl rfl rfl) (Or.inr ⟨rfl, rnN_flatS _⟩)
        | refine aops_nil ?_
        | refine lex_done _ rfl (by kernel_rfl) ?_
        | refine aw_ct rfl ?_
        | refine aw_cf rfl ?_
        | refine aw_block ?_
        | with_reducible refine then_n ?_
        | refine aw_skip ?_
        | refine aw_exit ?_
        | with_reducible refine then_x ?_
        | with_reducible refine then_r ?_
        | with_reducible refine block_x ?_
        | with_reducible refine block_n ?_
        | with_reducible refine block_r ?_
        | refine aw_ret ?_
theorem ap_new {o : Oper} {ρ : Operand → V} {H : List Reg} {s x : Operand} {n : Nat} {ys : List Rw} (ho : o.op = .call { callee := .builtin .append, args := #[s, x], argTypes := #[24, 24] }) (hs : ρ s = .sl n 0 0) (hn : n = H.length) (hx : ρ x = rwL ys) (hl : ys.length ≤ 1000000000) :
    Step Go.Proofs.Try.prog o ρ (H ++ [⟨71, 3, [], 0⟩]) (.sl (H.length + 1) 0 ys.length) (H ++ [⟨71, 3, [], 2⟩] ++ [rwR ys]) := by
  subst hn
  have hg : (H ++ [⟨71, 3, [], 0⟩])[H.length]? = some (regOf rwT 71 ([] : List Rw)) := get_last rfl
  have q := ap_l (P := Go.Proofs.Try.prog) (t := rwT) (xs := ([] : List Rw)) (ys := ys) ho hs hg rfl (by rw [hx]; exact Src.lst _ _) (by simp; omega) rfl
  have e : (H ++ [⟨71, 3, [], 0⟩] : List Reg).set H.length ⟨71, rwT.n, rwT.flat [], 2⟩ = H ++ [⟨71, 3, [], 2⟩] := by
    rw [List.set_append_right _ _ (Nat.le_refl _), Nat.sub_self]; rfl
  rw [e, List.length_append] at q
  exact q
theorem c_smp (rs : List Rn) (hl : rs.length ≤ 10000000) (ht : tot rs ≤ 10000000) : Meets Go.Proofs.Try.prog 54 [rnL rs] [] (.sl 0 0 (mpV rs).length) (rnN (mpV rs)) false := by
  have hlx : ∀ (i : Nat) (x : Rn), rs[i]? = some x → x.length ≤ 10000000 := fun i x hx => by
    have : x.length ≤ tot rs := mem_sum (List.mem_map.2 ⟨x, List.mem_of_getElem? hx, rfl⟩)
    omega
  refine meets_of [2] Go.Proofs.Try.func54 rfl rfl ?_
  simp only [Go.Proofs.Try.ntmps54, List.length_cons, List.length_nil, Nat.reduceAdd, Nat.reduceSub, List.replicate_succ, List.replicate_zero, List.cons_append, List.nil_append]
  repeat' first
    | refine aw_seq ?_
    | refine aw_region ?_
    | refine aw_lex [] ?_
    | (refine isA ?_; refine do_F rfl ?_)
    | (refine isL ?_; refine lex_F rfl (by kernel_rfl) rfl rfl ?_)
    | (refine isLg rfl ?_; refine lex_S rfl (by kernel_rfl) rfl rfl ?_)
    | refine aops_nil ?_
    | refine lex_done _ rfl (by kernel_rfl) ?_
    | refine aw_ct rfl ?_
    | refine aw_cf rfl ?_
    | refine aw_block ?_
    | with_reducible refine then_n ?_
    | refine aw_skip ?_
    | refine aw_exit ?_
    | with_reducible refine then_x ?_
    | with_reducible refine then_r ?_
    | with_reducible refine block_x ?_
    | with_reducible refine block_n ?_
    | with_reducible refine block_r ?_
    | refine aw_ret ?_
  refine aw_loop (α := { p : Nat × List Rn // p.1 ≤ rs.length + 1 ∧ p.2.length ≤ p.1 ∧ p.2 ++ mpV (rs.drop p.1) = mpV rs }) (fun p => ⟨[rnL rs, .any, .any, .sl 0 0 p.1.2.length, I p.1.1, .any, .any, .any, .any, .any, .any, .any, .any, .any, .any, .any, .any, .any, .any, .any, .any, .any, .any, .any, .any, .any, .any, .any, .any, .any, .any, .any, .any, .any, .any, .any, .any, .any, .any, .any, .any, .any, .any, .any, .any], rnN p.1.2, 0⟩) (fun p => rs.length + 1 - p.1.1) ⟨(0, []), Nat.zero_le _, Nat.zero_le _, rfl⟩ ?_ ?_
  · exact sub_id rfl (by repeat' first | exact EqS.nil | refine EqS.any ?_ | refine EqS.same rfl ?_)
  · rintro ⟨⟨i, out⟩, hi, ho, hq⟩
    simp only at hi ho hq
    have hnl : (rnN out).length = out.length + 1 := by simp [nR_length]
    repeat' first
      | refine aw_seq ?_
      | refine aw_region ?_
      | refine aw_lex [] ?_
      | (refine isA ?_; refine do_F rfl ?_)
      | (refine isL ?_; refine lex_F rfl (by kernel_rfl) rfl rfl ?_)
      | (refine isLg rfl ?_; refine lex_S rfl (by kernel_rfl) rfl rfl ?_)
      | refine aops_nil ?_
      | refine lex_done _ rfl (by kernel_rfl) ?_
      | refine aw_ct rfl ?_
      | refine aw_cf rfl ?_
      | refine aw_block ?_
      | with_reducible refine then_n ?_
      | refine aw_skip ?_
      | refine aw_exit ?_
      | with_reducible refine then_x ?_
      | with_reducible refine then_r ?_
      | with_reducible refine block_x ?_
      | with_reducible refine block_n ?_
      | with_reducible refine block_r ?_
      | refine aw_ret ?_
    refine aw_cond rfl (fun h => ?_) (fun h => ?_)
    · have hlt : i < rs.length := by have := of_decide_eq_true h; simp only at this; omega
      obtain ⟨x, hx⟩ : ∃ z, rs[i]? = some z := ⟨_, List.getElem?_eq_getElem hlt⟩
      repeat' first
        | refine aw_seq ?_
        | refine aw_region ?_
        | refine aw_lex [] ?_
        | (refine isA ?_; refine do_F rfl ?_)
        | (refine isL ?_; refine lex_F rfl (by kernel_rfl) rfl rfl ?_)
        | (refine isLg rfl ?_; refine lex_S rfl (by kernel_rfl) rfl rfl ?_)
        | refine aops_nil ?_
        | refine lex_done _ rfl (by kernel_rfl) ?_
        | refine aw_ct rfl ?_
        | refine aw_cf rfl ?_
        | refine aw_block ?_
        | with_reducible refine then_n ?_
        | refine aw_skip ?_
        | refine aw_exit ?_
        | with_reducible refine then_x ?_
        | with_reducible refine then_r ?_
        | with_reducible refine block_x ?_
        | with_reducible refine block_n ?_
        | with_reducible refine block_r ?_
        | refine aw_ret ?_
      refine aw_cond rfl (fun k => ?_) (fun k => ?_)
      · have hk : i + 1 = rs.length := by
          have := of_decide_eq_true k
          have e : IntKind.i64.wrap ((i : Int) + 1) = (i : Int) + 1 := by rw [IntKind.wrap_i64]; omega
          simp only [e] at this
          omega
        have l1 := hlx i x hx
        repeat' first
          | (refine isAp ?_; refine do_R rfl (ap_new (H := rnN out) (n := (rnN out).length) (ys := x) rfl rfl rfl rfl (by omega)) rfl ?_)
          | refine aw_seq ?_
          | refine aw_region ?_
          | refine aw_lex [] ?_
          | (refine isA ?_; refine do_F rfl ?_)
          | (refine isL ?_; refine lex_F rfl (by kernel_rfl) rfl rfl ?_)
          | (refine isLg rfl ?_; refine lex_S rfl (by kernel_rfl) rfl rfl ?_)
          | (refine isAi (x := .tmp 19) ?_; refine do_R rfl (ia_l (t := rnT) (z := x) rfl rfl rfl rfl (Int.natCast_nonneg i) hx) rfl ?_)
          | (refine isLi (x := .tmp 19) rfl ?_; refine lex_R rfl (by kernel_rfl) rfl (ia_l (t := rnT) (z := x) rfl rfl rfl rfl (Int.natCast_nonneg i) hx) rfl ?_)
          | (refine isAp ?_; refine do_R rfl (ap_nest (outs := out) (hz := (rnN out ++ [(⟨71, 3, [], 2⟩ : Reg)] ++ [rwR x]).length) (zi := (rnN out).length + 1) (n := x.length) rfl rfl rfl rfl (get_last rfl) (by omega) rfl) rfl ?_)
          | (refine isLp rfl ?_; refine lex_R rfl (by kernel_rfl) rfl (ap_nest (outs := out) (hz := (rnN out ++ [(⟨71, 3, [], 2⟩ : Reg)] ++ [rwR x]).length) (zi := (rnN out).length + 1) (n := x.length) rfl rfl rfl rfl (get_last rfl) (by omega) rfl) rfl ?_)
          | refine aops_nil ?_
          | refine lex_done _ rfl (by kernel_rfl) ?_
          | refine aw_ct rfl ?_
          | refine aw_cf rfl ?_
          | refine aw_block ?_
          | with_reducible refine then_n ?_
          | refine aw_skip ?_
          | refine aw_exit ?_
          | with_reducible refine then_x ?_
          | with_reducible refine then_r ?_
          | with_reducible refine block_x ?_
          | with_reducible refine block_n ?_
          | with_reducible refine block_r ?_
          | refine aw_ret ?_
        refine ⟨⟨(i + 2, out ++ [x]), by simp only; omega, by simp only [List.length_append, List.length_singleton]; omega, by simp only [List.append_assoc, List.singleton_append]; rw [← mp_one hx hk]; exact hq⟩, by simp only; omega, ?_⟩
        exact sub_of (((out.length + 2 + 2) :: (List.range' 1 out.length ++ [out.length + 1 + 1]))) rfl (fun i hi => absurd hi (Nat.not_lt_zero _)) (show HLe _ _ (_ :: (nR rwT 71 out ++ [⟨71, 3, [], 2⟩] ++ [rwR x] ++ [_]) ++ [_]) from by have q := hle_pass (D := ⟨39, 1, nC 1 out, 2⟩) (S := ⟨39, 1, [.sl ((rnN out).length + 1) 0 x.length], 0⟩) (out := out) (z := x) (A := [⟨71, 3, [], 2⟩, rwR x]) (k := 1) rfl; rw [hnl]; rw [hnl, show 1 + out.length + 1 = out.length + 1 + 1 by omega] at q; simp only [List.append_assoc, List.cons_append, List.nil_append] at q ⊢; exact q) (by
          repeat' first
            | exact les_nil
            | refine les_cons ?_ ?_
            | exact le_any
            | exact le_refl rfl
            | exact le_sl (congrArg some (by simp [nR_length])) (by simp)
            | exact le_k (congrArg _ (show ((i + 2 : Nat) : Int) = IntKind.i64.wrap ((i : Int) + 2) by rw [IntKind.wrap_i64]; omega)))
      · have hk : i + 1 < rs.length := by
          have := of_decide_eq_false k
          have e : IntKind.i64.wrap ((i : Int) + 1) = (i : Int) + 1 := by rw [IntKind.wrap_i64]; omega
          simp only [e] at this
          omega
        have e1 : IntKind.i64.wrap ((i : Int) + 1) = ((i + 1 : Nat) : Int) := by rw [IntKind.wrap_i64]; omega
        obtain ⟨y, hy⟩ : ∃ z, rs[i + 1]? = some z := ⟨_, List.getElem?_eq_getElem hk⟩
        have l1 := hlx i x hx
        have l2 := hlx (i + 1) y hy
        have hml := mg_len x y
        repeat' first
          | refine aw_seq ?_
          | refine aw_region ?_
          | (refine isA ?_; refine do_F rfl ?_)
          | (refine isL ?_; refine lex_F rfl (by kernel_rfl) rfl rfl ?_)
          | (refine isLg rfl ?_; refine lex_S rfl (by kernel_rfl) rfl rfl ?_)
          | refine aops_nil ?_
          | refine lex_done _ rfl (by kernel_rfl) ?_
          | refine aw_ct rfl ?_
          | refine aw_cf rfl ?_
          | refine aw_block ?_
          | with_reducible refine then_n ?_
          | refine aw_skip ?_
          | refine aw_exit ?_
          | with_reducible refine then_x ?_
          | with_reducible refine then_r ?_
          | with_reducible refine block_x ?_
          | with_reducible refine block_n ?_
          | with_reducible refine block_r ?_
          | refine aw_ret ?_
        refine aw_per [12, 14, 15] 17 rfl ?_
        refine per_P 0 rfl (by kernel_rfl) rfl (fun _ => rfl) rfl ?_
        refine per_P 1 rfl (by kernel_rfl) rfl (fun _ => rfl) rfl ?_
        refine per_P 2 rfl (by kernel_rfl) rfl (fun _ => rfl) rfl ?_
        refine per_A 3 rfl (by kernel_rfl) rfl (fun _ => ia_l (t := rnT) (z := x) rfl rfl rfl rfl (Int.natCast_nonneg i) hx) rfl ?_
        refine per_P 4 rfl (by kernel_rfl) rfl (fun _ => rfl) rfl ?_
        refine per_P 5 rfl (by kernel_rfl) rfl (fun _ => rfl) rfl ?_
        refine per_P 6 rfl (by kernel_rfl) rfl (fun _ => rfl) rfl ?_
        refine per_P 7 rfl (by kernel_rfl) rfl (fun _ => rfl) rfl ?_
        refine per_P 8 rfl (by kernel_rfl) rfl (fun _ => rfl) rfl ?_
        refine per_A 9 rfl (by kernel_rfl) rfl (fun _ => ia_l (t := rnT) (z := y) rfl rfl rfl rfl (by rw [e1]; exact Int.natCast_nonneg _) (by rw [e1]; exact hy)) rfl ?_
        refine per_P 10 rfl (by kernel_rfl) rfl (fun _ => rfl) rfl ?_
        refine per_P 11 rfl (by kernel_rfl) rfl (fun _ => rfl) rfl ?_
        refine per_W 12 rfl (by kernel_rfl) rfl rfl (st_callK (r' := .sl (1 + out.length) 0 (mgV x y).length) (H' := rnN out ++ [rwR (mgV x y)]) rfl (c_smg x y (by omega) (by omega)) (.cons (.same rfl) (.cons (.same rfl) .nil)) (fun q hq => by simp at hq; subst hq; exact flat_noH _ _) (by simp only [hnl, shV, Nat.zero_add]; rw [Nat.add_comm]) rfl) rfl ?_
        refine per_P 13 rfl (by kernel_rfl) rfl (fun _ => rfl) rfl ?_
        refine per_WF 14 rfl (by kernel_rfl) rfl rfl rfl rfl ?_
        refine per_W 15 rfl (by kernel_rfl) rfl rfl (ap_nest (outs := out) (hz := (rnN out ++ [rwR (mgV x y)]).length) (zi := 1 + out.length) (n := (mgV x y).length) rfl rfl rfl rfl (get_last rfl) (by omega) rfl) rfl ?_
        refine per_P 16 rfl (by kernel_rfl) rfl (fun _ => rfl) rfl ?_
        refine per_done (by kernel_rfl) ?_
        repeat' first
          | refine aw_seq ?_
          | refine aw_region ?_
          | refine aw_lex [] ?_
          | (refine isA ?_; refine do_F rfl ?_)
          | (refine isL ?_; refine lex_F rfl (by kernel_rfl) rfl rfl ?_)
          | (refine isLg rfl ?_; refine lex_S rfl (by kernel_rfl) rfl rfl ?_)
          | refine aops_nil ?_
          | refine lex_done _ rfl (by kernel_rfl) ?_
          | refine aw_ct rfl ?_
          | refine aw_cf rfl ?_
          | refine aw_block ?_
          | with_reducible refine then_n ?_
          | refine aw_skip ?_
          | refine aw_exit ?_
          | with_reducible refine then_x ?_
          | with_reducible refine then_r ?_
          | with_reducible refine block_x ?_
          | with_reducible refine block_n ?_
          | with_reducible refine block_r ?_
          | refine aw_ret ?_
        refine ⟨⟨(i + 2, out ++ [mgV x y]), by simp only; omega, by simp only [List.length_append, List.length_singleton]; omega, by simp only [List.append_assoc, List.singleton_append]; rw [← mp_two hx hy]; exact hq⟩, by simp only; omega, ?_⟩
        exact sub_of (((out.length + 1 + 2) :: (List.range' 1 out.length ++ [1 + out.length + 0]))) rfl (fun i hi => absurd hi (Nat.not_lt_zero _)) (hle_pass (A := [rwR (mgV x y)]) (k := 0) rfl) (by
          repeat' first
            | exact les_nil
            | refine les_cons ?_ ?_
            | exact le_any
            | exact le_refl rfl
            | exact le_sl (congrArg some (by simp [nR_length])) (by simp)
            | exact le_k (congrArg _ (show ((i + 2 : Nat) : Int) = IntKind.i64.wrap ((i : Int) + 2) by rw [IntKind.wrap_i64]; omega)))
    · have hge : rs.length ≤ i := by have := of_decide_eq_false h; simp only at this; omega
      rw [mp_end hge, List.append_nil] at hq
      subst hq
      repeat' first
        | refine aw_seq ?_
        | refine aw_region ?_
        | refine aw_lex [] ?_
        | (refine isA ?_; refine do_F rfl ?_)
        | (refine isL ?_; refine lex_F rfl (by kernel_rfl) rfl rfl ?_)
        | (refine isLg rfl ?_; refine lex_S rfl (by kernel_rfl) rfl rfl ?_)
        | exact finN _ rfl (hle_rn0 _) (le_sl rfl rfl) (Or.inr ⟨rfl, rnN_flatS _⟩)
        | refine aops_nil ?_
        | refine lex_done _ rfl (by kernel_rfl) ?_
        | refine aw_ct rfl ?_
        | refine aw_cf rfl ?_
        | refine aw_block ?_
        | with_reducible refine then_n ?_
        | refine aw_skip ?_
        | refine aw_exit ?_
        | with_reducible refine then_x ?_
        | with_reducible refine then_r ?_
        | with_reducible refine block_x ?_
        | with_reducible refine block_n ?_
        | with_reducible refine block_r ?_
        | refine aw_ret ?_
end Go.Proofs.Ytkcicbigpbdjpaa.Ab

/- MpA -/
namespace Go.Proofs.Ytkcicbigpbdjpaa.Ab
open Go.RowKit

theorem mp_len : ∀ rs : List Rn, (mpV rs).length ≤ rs.length
  | [] => Nat.le_refl _
  | [x] => Nat.le_refl _
  | x :: y :: r => by have := mp_len r; simp only [mpV, List.length_cons]; omega
theorem mp_tot : ∀ rs : List Rn, tot (mpV rs) = tot rs
  | [] => rfl
  | [x] => rfl
  | x :: y :: r => by
    have h1 := mp_tot r
    have h2 := mg_len x y
    simp only [tot] at h1 ⊢
    simp only [mpV, List.map_cons, List.sum_cons, h1, h2]
    omega
theorem mp_ok {rs : List Rn} (h1 : rs.length ≤ 10000000) (h2 : tot rs ≤ 10000000) : okRn (mpV rs) ∧ tot (mpV rs) ≤ 10000000 ∧ (mpV rs).length ≤ 10000000 := by
  have e := mp_tot rs
  have l := mp_len rs
  refine ⟨⟨by omega, fun x hx => ?_⟩, by omega, by omega⟩
  have : x.length ≤ tot (mpV rs) := mem_sum (List.mem_map.2 ⟨x, hx, rfl⟩)
  omega
theorem pur_mkN {H : List Reg} {h b ty : Nat} {rs : List Rn} {k : Int} (hH : H[h]? = some ⟨ty, 1, nC b (mkRu k rs), 0⟩) (hR : ∀ j x, (mkRu k rs)[j]? = some x → H[b + j]? = some (rwR x)) : Pur true H (.sl h 0 rs.length) (rnL (mkRu k rs)) := by
  have := pur_nest (T := rwT) hH hR
  rwa [mkRu_len] at this
/-- Several values handed back, with rows of the walk's own. -/
theorem finNT {l : List V} {H : List Reg} {al : Bool} {ts : List Tmp} {v r : V} {K : List Reg} (ψ : List Nat) (hv : resV ⟨l, H, 0⟩ ts = v) (hH : HLe ψ K H) (hr : Le ψ r v) (hal : al = true ∨ (flatV r = true ∧ ∀ q ∈ K, q.mode ≠ 1 ∧ (q.mode = 0 → FlatS q.cells))) :
    (Exit.ret = .ret ∨ Exit.ret = .normal) ∧ Out al r K (resV ⟨l, H, 0⟩ ts) ⟨l, H, 0⟩ := by
  rw [hv]
  exact ⟨Or.inl rfl, out_ofN ψ (fun i hi => absurd hi (Nat.not_lt_zero _)) hH hr hal⟩
end Go.Proofs.Ytkcicbigpbdjpaa.Ab
