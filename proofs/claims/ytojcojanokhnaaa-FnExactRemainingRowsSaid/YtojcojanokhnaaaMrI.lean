/- Texts SrC in one. -/
import Derived.Test.YtojcojanokhnaaaMrH
set_option linter.unusedVariables false
set_option linter.unusedSimpArgs false
set_option maxRecDepth 20000
set_option maxHeartbeats 4000000
/- SrC -/
namespace Go.Proofs.Ytojcojanokhnaaa.Ab
open Go.RowKit

def rmV (s : So) : Int := cond (vS s) (remV s) 0
theorem rem_lp {s : So} (h : vS s = true) (k : s.ph = 3 ∨ s.ph = 4) : 0 ≤ s.lp ∧ s.lp ≤ s.input.length := by
  cases vS_iff.1 h with
  | read b r => rw [r.ph] at k; omega
  | merge b t ph => rw [ph] at k; omega
  | emit b t ph runs lp hi => omega
  | done b t ph runs lp => omega
theorem c_irem (s : So) (hok : okSo s) : Meets Go.Proofs.Try.prog 21 [.agg (soE s)] [] (I (rmV s)) [] false := by
  have g1 := hok.input
  have a1 := c_ivS s hok
  refine meets_of [2] Go.Proofs.Try.func21 rfl rfl ?_
  simp only [Go.Proofs.Try.ntmps21, List.length_cons, List.length_nil, Nat.reduceAdd, Nat.reduceSub, List.replicate_succ, List.replicate_zero, List.cons_append, List.nil_append]
  repeat' first
    | refine aw_seq ?_
    | refine aw_region ?_
    | refine aw_lex [] ?_
    | (refine isA ?_; refine do_F rfl ?_)
    | (refine isL ?_; refine lex_F rfl (by kernel_rfl) rfl rfl ?_)
    | (refine isLg rfl ?_; refine lex_S rfl (by kernel_rfl) rfl rfl ?_)
    | (refine isAc 17 ?_; refine do_R rfl (st_call rfl a1 (.cons (.same rfl) .nil) rfl) rfl ?_)
    | (refine isLc 17 rfl ?_; refine lex_R rfl (by kernel_rfl) rfl (st_call rfl a1 (.cons (.same rfl) .nil) rfl) rfl ?_)
    | refine aops_nil ?_
    | refine lex_done _ rfl (by kernel_rfl) ?_
    | refine aw_ct rfl ?_
    | refine aw_cf rfl ?_
    | refine aw_block ?_
    | with_reducible refine then_n ?_
    | refine aw_skip ?_
    | refine aw_exit ?_
    | with_reducible refine then_x ?_
    | with_reducible refine then_r ?_
    | with_reducible refine block_x ?_
    | with_reducible refine block_n ?_
    | with_reducible refine block_r ?_
    | refine aw_ret ?_
  refine aw_cond rfl (fun h => ?_) (fun h => ?_)
  · have h : vS s = false := by simpa using h
    repeat' first
      | refine aw_seq ?_
      | refine aw_region ?_
      | refine aw_lex [] ?_
      | (refine isA ?_; refine do_F rfl ?_)
      | (refine isL ?_; refine lex_F rfl (by kernel_rfl) rfl rfl ?_)
      | (refine isLg rfl ?_; refine lex_S rfl (by kernel_rfl) rfl rfl ?_)
      | exact fin1 rfl rfl (by rw [rmV, h, cond_false])
      | refine aops_nil ?_
      | refine lex_done _ rfl (by kernel_rfl) ?_
      | refine aw_ct rfl ?_
      | refine aw_cf rfl ?_
      | refine aw_block ?_
      | with_reducible refine then_n ?_
      | refine aw_skip ?_
      | refine aw_exit ?_
      | with_reducible refine then_x ?_
      | with_reducible refine then_r ?_
      | with_reducible refine block_x ?_
      | with_reducible refine block_n ?_
      | with_reducible refine block_r ?_
      | refine aw_ret ?_
  · have h : vS s = true := by simpa using h
    repeat' first
      | refine aw_seq ?_
      | refine aw_region ?_
      | refine aw_lex [] ?_
      | (refine isA ?_; refine do_F rfl ?_)
      | (refine isL ?_; refine lex_F rfl (by kernel_rfl) rfl rfl ?_)
      | (refine isLg rfl ?_; refine lex_S rfl (by kernel_rfl) rfl rfl ?_)
      | refine aops_nil ?_
      | refine lex_done _ rfl (by kernel_rfl) ?_
      | refine aw_ct rfl ?_
      | refine aw_cf rfl ?_
      | refine aw_block ?_
      | with_reducible refine then_n ?_
      | refine aw_skip ?_
      | refine aw_exit ?_
      | with_reducible refine then_x ?_
      | with_reducible refine then_r ?_
      | with_reducible refine block_x ?_
      | with_reducible refine block_n ?_
      | with_reducible refine block_r ?_
      | refine aw_ret ?_
    refine do_br rfl rfl (fun h3 => ?_) (fun h3 => ?_)
    · have q := rem_lp h (Or.inl (of_decide_eq_true h3))
      repeat' first
        | refine aw_seq ?_
        | refine aw_region ?_
        | refine aw_lex [] ?_
        | (refine isA ?_; refine do_F rfl ?_)
        | (refine isL ?_; refine lex_F rfl (by kernel_rfl) rfl rfl ?_)
        | (refine isLg rfl ?_; refine lex_S rfl (by kernel_rfl) rfl rfl ?_)
        | exact fin1 rfl rfl (by rw [rmV, h, cond_true, rem_3 (of_decide_eq_true h3)]; refine congrArg I ?_; rw [IntKind.wrap_i64]; omega)
        | refine aops_nil ?_
        | refine lex_done _ rfl (by kernel_rfl) ?_
        | refine aw_ct rfl ?_
        | refine aw_cf rfl ?_
        | refine aw_block ?_
        | with_reducible refine then_n ?_
        | refine aw_skip ?_
        | refine aw_exit ?_
        | with_reducible refine then_x ?_
        | with_reducible refine then_r ?_
        | with_reducible refine block_x ?_
        | with_reducible refine block_n ?_
        | with_reducible refine block_r ?_
        | refine aw_ret ?_
    · repeat' first
        | refine aw_seq ?_
        | refine aw_region ?_
        | refine aw_lex [] ?_
        | (refine isA ?_; refine do_F rfl ?_)
        | (refine isL ?_; refine lex_F rfl (by kernel_rfl) rfl rfl ?_)
        | (refine isLg rfl ?_; refine lex_S rfl (by kernel_rfl) rfl rfl ?_)
        | refine aops_nil ?_
        | refine lex_done _ rfl (by kernel_rfl) ?_
        | refine aw_ct rfl ?_
        | refine aw_cf rfl ?_
        | refine aw_block ?_
        | with_reducible refine then_n ?_
        | refine aw_skip ?_
        | refine aw_exit ?_
        | with_reducible refine then_x ?_
        | with_reducible refine then_r ?_
        | with_reducible refine block_x ?_
        | with_reducible refine block_n ?_
        | with_reducible refine block_r ?_
        | refine aw_ret ?_
      refine aw_cond rfl (fun h4 => ?_) (fun h4 => ?_)
      · have q := rem_lp h (Or.inr (of_decide_eq_true h4))
        repeat' first
          | refine aw_seq ?_
          | refine aw_region ?_
          | refine aw_lex [] ?_
          | (refine isA ?_; refine do_F rfl ?_)
          | (refine isL ?_; refine lex_F rfl (by kernel_rfl) rfl rfl ?_)
          | (refine isLg rfl ?_; refine lex_S rfl (by kernel_rfl) rfl rfl ?_)
          | exact fin1 rfl rfl (by rw [rmV, h, cond_true, rem_4 (of_decide_eq_true h4)]; refine congrArg I ?_; rw [IntKind.wrap_i64]; omega)
          | refine aops_nil ?_
          | refine lex_done _ rfl (by kernel_rfl) ?_
          | refine aw_ct rfl ?_
          | refine aw_cf rfl ?_
          | refine aw_block ?_
          | with_reducible refine then_n ?_
          | refine aw_skip ?_
          | refine aw_exit ?_
          | with_reducible refine then_x ?_
          | with_reducible refine then_r ?_
          | with_reducible refine block_x ?_
          | with_reducible refine block_n ?_
          | with_reducible refine block_r ?_
          | refine aw_ret ?_
      · repeat' first
          | refine aw_seq ?_
          | refine aw_region ?_
          | refine aw_lex [] ?_
          | (refine isA ?_; refine do_F rfl ?_)
          | (refine isL ?_; refine lex_F rfl (by kernel_rfl) rfl rfl ?_)
          | (refine isLg rfl ?_; refine lex_S rfl (by kernel_rfl) rfl rfl ?_)
          | exact fin1 rfl rfl (by rw [rmV, h, cond_true, rem_12 (of_decide_eq_false h3) (of_decide_eq_false h4)])
          | refine aops_nil ?_
          | refine lex_done _ rfl (by kernel_rfl) ?_
          | refine aw_ct rfl ?_
          | refine aw_cf rfl ?_
          | refine aw_block ?_
          | with_reducible refine then_n ?_
          | refine aw_skip ?_
          | refine aw_exit ?_
          | with_reducible refine then_x ?_
          | with_reducible refine then_r ?_
          | with_reducible refine block_x ?_
          | with_reducible refine block_n ?_
          | with_reducible refine block_r ?_
          | refine aw_ret ?_
theorem c_srem (s : So) (hok : okSo s) : Meets Go.Proofs.Try.prog 36 [.agg (soE s)] [] (I (rmV s)) [] false := by
  have g1 := hok.input
  have a1 := c_svS s hok
  refine meets_of [2] Go.Proofs.Try.func36 rfl rfl ?_
  simp only [Go.Proofs.Try.ntmps36, List.length_cons, List.length_nil, Nat.reduceAdd, Nat.reduceSub, List.replicate_succ, List.replicate_zero, List.cons_append, List.nil_append]
  repeat' first
    | refine aw_seq ?_
    | refine aw_region ?_
    | refine aw_lex [] ?_
    | (refine isA ?_; refine do_F rfl ?_)
    | (refine isL ?_; refine lex_F rfl (by kernel_rfl) rfl rfl ?_)
    | (refine isLg rfl ?_; refine lex_S rfl (by kernel_rfl) rfl rfl ?_)
    | (refine isAc 18 ?_; refine do_R rfl (st_call rfl a1 (.cons (.same rfl) .nil) rfl) rfl ?_)
    | (refine isLc 18 rfl ?_; refine lex_R rfl (by kernel_rfl) rfl (st_call rfl a1 (.cons (.same rfl) .nil) rfl) rfl ?_)
    | refine aops_nil ?_
    | refine lex_done _ rfl (by kernel_rfl) ?_
    | refine aw_ct rfl ?_
    | refine aw_cf rfl ?_
    | refine aw_block ?_
    | with_reducible refine then_n ?_
    | refine aw_skip ?_
    | refine aw_exit ?_
    | with_reducible refine then_x ?_
    | with_reducible refine then_r ?_
    | with_reducible refine block_x ?_
    | with_reducible refine block_n ?_
    | with_reducible refine block_r ?_
    | refine aw_ret ?_
  refine aw_cond rfl (fun h => ?_) (fun h => ?_)
  · have h : vS s = false := by simpa using h
    repeat' first
      | refine aw_seq ?_
      | refine aw_region ?_
      | refine aw_lex [] ?_
      | (refine isA ?_; refine do_F rfl ?_)
      | (refine isL ?_; refine lex_F rfl (by kernel_rfl) rfl rfl ?_)
      | (refine isLg rfl ?_; refine lex_S rfl (by kernel_rfl) rfl rfl ?_)
      | exact fin1 rfl rfl (by rw [rmV, h, cond_false])
      | refine aops_nil ?_
      | refine lex_done _ rfl (by kernel_rfl) ?_
      | refine aw_ct rfl ?_
      | refine aw_cf rfl ?_
      | refine aw_block ?_
      | with_reducible refine then_n ?_
      | refine aw_skip ?_
      | refine aw_exit ?_
      | with_reducible refine then_x ?_
      | with_reducible refine then_r ?_
      | with_reducible refine block_x ?_
      | with_reducible refine block_n ?_
      | with_reducible refine block_r ?_
      | refine aw_ret ?_
  · have h : vS s = true := by simpa using h
    repeat' first
      | refine aw_seq ?_
      | refine aw_region ?_
      | refine aw_lex [] ?_
      | (refine isA ?_; refine do_F rfl ?_)
      | (refine isL ?_; refine lex_F rfl (by kernel_rfl) rfl rfl ?_)
      | (refine isLg rfl ?_; refine lex_S rfl (by kernel_rfl) rfl rfl ?_)
      | refine aops_nil ?_
      | refine lex_done _ rfl (by kernel_rfl) ?_
      | refine aw_ct rfl ?_
      | refine aw_cf rfl ?_
      | refine aw_block ?_
      | with_reducible refine then_n ?_
      | refine aw_skip ?_
      | refine aw_exit ?_
      | with_reducible refine then_x ?_
      | with_reducible refine then_r ?_
      | with_reducible refine block_x ?_
      | with_reducible refine block_n ?_
      | with_reducible refine block_r ?_
      | refine aw_ret ?_
    refine do_br rfl rfl (fun h3 => ?_) (fun h3 => ?_)
    · have q := rem_lp h (Or.inl (of_decide_eq_true h3))
      repeat' first
        | refine aw_seq ?_
        | refine aw_region ?_
        | refine aw_lex [] ?_
        | (refine isA ?_; refine do_F rfl ?_)
        | (refine isL ?_; refine lex_F rfl (by kernel_rfl) rfl rfl ?_)
        | (refine isLg rfl ?_; refine lex_S rfl (by kernel_rfl) rfl rfl ?_)
        | exact fin1 rfl rfl (by rw [rmV, h, cond_true, rem_3 (of_decide_eq_true h3)]; refine congrArg I ?_; rw [IntKind.wrap_i64]; omega)
        | refine aops_nil ?_
        | refine lex_done _ rfl (by kernel_rfl) ?_
        | refine aw_ct rfl ?_
        | refine aw_cf rfl ?_
        | refine aw_block ?_
        | with_reducible refine then_n ?_
        | refine aw_skip ?_
        | refine aw_exit ?_
        | with_reducible refine then_x ?_
        | with_reducible refine then_r ?_
        | with_reducible refine block_x ?_
        | with_reducible refine block_n ?_
        | with_reducible refine block_r ?_
        | refine aw_ret ?_
    · repeat' first
        | refine aw_seq ?_
        | refine aw_region ?_
        | refine aw_lex [] ?_
        | (refine isA ?_; refine do_F rfl ?_)
        | (refine isL ?_; refine lex_F rfl (by kernel_rfl) rfl rfl ?_)
        | (refine isLg rfl ?_; refine lex_S rfl (by kernel_rfl) rfl rfl ?_)
        | refine aops_nil ?_
        | refine lex_done _ rfl (by kernel_rfl) ?_
        | refine aw_ct rfl ?_
        | refine aw_cf rfl ?_
        | refine aw_block ?_
        | with_reducible refine then_n ?_
        | refine aw_skip ?_
        | refine aw_exit ?_
        | with_reducible refine then_x ?_
        | with_reducible refine then_r ?_
        | with_reducible refine block_x ?_
        | with_reducible refine block_n ?_
        | with_reducible refine block_r ?_
        | refine aw_ret ?_
      refine aw_cond rfl (fun h4 => ?_) (fun h4 => ?_)
      · have q := rem_lp h (Or.inr (of_decide_eq_true h4))
        repeat' first
          | refine aw_seq ?_
          | refine aw_region ?_
          | refine aw_lex [] ?_
          | (refine isA ?_; refine do_F rfl ?_)
          | (refine isL ?_; refine lex_F rfl (by kernel_rfl) rfl rfl ?_)
          | (refine isLg rfl ?_; refine lex_S rfl (by kernel_rfl) rfl rfl ?_)
          | exact fin1 rfl rfl (by rw [rmV, h, cond_true, rem_4 (of_decide_eq_true h4)]; refine congrArg I ?_; rw [IntKind.wrap_i64]; omega)
          | refine aops_nil ?_
          | refine lex_done _ rfl (by kernel_rfl) ?_
          | refine aw_ct rfl ?_
          | refine aw_cf rfl ?_
          | refine aw_block ?_
          | with_reducible refine then_n ?_
          | refine aw_skip ?_
          | refine aw_exit ?_
          | with_reducible refine then_x ?_
          | with_reducible refine then_r ?_
          | with_reducible refine block_x ?_
          | with_reducible refine block_n ?_
          | with_reducible refine block_r ?_
          | refine aw_ret ?_
      · repeat' first
          | refine aw_seq ?_
          | refine aw_region ?_
          | refine aw_lex [] ?_
          | (refine isA ?_; refine do_F rfl ?_)
          | (refine isL ?_; refine lex_F rfl (by kernel_rfl) rfl rfl ?_)
          | (refine isLg rfl ?_; refine lex_S rfl (by kernel_rfl) rfl rfl ?_)
          | exact fin1 rfl rfl (by rw [rmV, h, cond_true, rem_12 (of_decide_eq_false h3) (of_decide_eq_false h4)])
          | refine aops_nil ?_
          | refine lex_done _ rfl (by kernel_rfl) ?_
          | refine aw_ct rfl ?_
          | refine aw_cf rfl ?_
          | refine aw_block ?_
          | with_reducible refine then_n ?_
          | refine aw_skip ?_
          | refine aw_exit ?_
          | with_reducible refine then_x ?_
          | with_reducible refine then_r ?_
          | with_reducible refine block_x ?_
          | with_reducible refine block_n ?_
          | with_reducible refine block_r ?_
          | refine aw_ret ?_

theorem law_IsValidSorter (s : So) (hs : rdSo s) : Meets Go.Proofs.Try.prog 5 [.agg (soE s)] [] (B true) [] false := by
  refine meets_of [2] Go.Proofs.Try.func5 rfl rfl ?_
  simp only [Go.Proofs.Try.ntmps5, List.length_cons, List.length_nil, Nat.reduceAdd, Nat.reduceSub, List.replicate_succ, List.replicate_zero, List.cons_append, List.nil_append]
  repeat' first
    | refine aw_seq ?_
    | refine aw_region ?_
    | refine aw_lex [] ?_
    | (refine isA ?_; refine do_F rfl ?_)
    | (refine isL ?_; refine lex_F rfl (by kernel_rfl) rfl rfl ?_)
    | (refine isLg rfl ?_; refine lex_S rfl (by kernel_rfl) rfl rfl ?_)
    | (refine isAc 33 ?_; refine do_R rfl (st_call rfl (c_szSorter s _ hs.runs) (.cons (.same rfl) (.cons (.same rfl) .nil)) rfl) rfl ?_)
    | (refine isLc 33 rfl ?_; refine lex_R rfl (by kernel_rfl) rfl (st_call rfl (c_szSorter s _ hs.runs) (.cons (.same rfl) (.cons (.same rfl) .nil)) rfl) rfl ?_)
    | refine aops_nil ?_
    | refine lex_done _ rfl (by kernel_rfl) ?_
    | refine aw_ct rfl ?_
    | refine aw_cf rfl ?_
    | refine aw_block ?_
    | with_reducible refine then_n ?_
    | refine aw_skip ?_
    | refine aw_exit ?_
    | with_reducible refine then_x ?_
    | with_reducible refine then_r ?_
    | with_reducible refine block_x ?_
    | with_reducible refine block_n ?_
    | with_reducible refine block_r ?_
    | refine aw_ret ?_
  refine aw_cond rfl (fun h => ?_) (fun h => ?_)
  · repeat' first
      | refine aw_seq ?_
      | refine aw_region ?_
      | refine aw_lex [] ?_
      | (refine isA ?_; refine do_F rfl ?_)
      | (refine isL ?_; refine lex_F rfl (by kernel_rfl) rfl rfl ?_)
      | (refine isLg rfl ?_; refine lex_S rfl (by kernel_rfl) rfl rfl ?_)
      | exact fin1 rfl rfl rfl
      | refine aops_nil ?_
      | refine lex_done _ rfl (by kernel_rfl) ?_
      | refine aw_ct rfl ?_
      | refine aw_cf rfl ?_
      | refine aw_block ?_
      | with_reducible refine then_n ?_
      | refine aw_skip ?_
      | refine aw_exit ?_
      | with_reducible refine then_x ?_
      | with_reducible refine then_r ?_
      | with_reducible refine block_x ?_
      | with_reducible refine block_n ?_
      | with_reducible refine block_r ?_
      | refine aw_ret ?_
  obtain ⟨g1, _, h0, h1⟩ := szS_ok hs (by omega) (by omega) h
  repeat' first
    | (refine isA ?_; refine do_R rfl (neqB_same rfl rfl rfl (by kernel_rfl)) rfl ?_)
    | refine aw_seq ?_
    | refine aw_region ?_
    | refine aw_lex [] ?_
    | (refine isA ?_; refine do_F rfl ?_)
    | (refine isL ?_; refine lex_F rfl (by kernel_rfl) rfl rfl ?_)
    | (refine isLg rfl ?_; refine lex_S rfl (by kernel_rfl) rfl rfl ?_)
    | (refine isAc 34 ?_; refine do_R rfl (st_call rfl (c_toSorter s g1) (.cons (.same rfl) .nil) rfl) rfl ?_)
    | (refine isLc 34 rfl ?_; refine lex_R rfl (by kernel_rfl) rfl (st_call rfl (c_toSorter s g1) (.cons (.same rfl) .nil) rfl) rfl ?_)
    | (refine isAc 18 ?_; refine do_R rfl (st_call rfl (c_svS s g1) (.cons (.same rfl) .nil) rfl) rfl ?_)
    | (refine isLc 18 rfl ?_; refine lex_R rfl (by kernel_rfl) rfl (st_call rfl (c_svS s g1) (.cons (.same rfl) .nil) rfl) rfl ?_)
    | (refine isAc 17 ?_; refine do_R rfl (st_call rfl (c_ivS s g1) (.cons (.same rfl) .nil) rfl) rfl ?_)
    | (refine isLc 17 rfl ?_; refine lex_R rfl (by kernel_rfl) rfl (st_call rfl (c_ivS s g1) (.cons (.same rfl) .nil) rfl) rfl ?_)
    | (refine isAc 35 ?_; refine do_R rfl (st_call rfl (c_eqSorter s g1) (.cons (.same rfl) (.cons (.same rfl) .nil)) rfl) rfl ?_)
    | (refine isLc 35 rfl ?_; refine lex_R rfl (by kernel_rfl) rfl (st_call rfl (c_eqSorter s g1) (.cons (.same rfl) (.cons (.same rfl) .nil)) rfl) rfl ?_)
    | exact fin1 rfl rfl rfl
    | refine aops_nil ?_
    | refine lex_done _ rfl (by kernel_rfl) ?_
    | refine aw_ct rfl ?_
    | refine aw_cf rfl ?_
    | refine aw_block ?_
    | with_reducible refine then_n ?_
    | refine aw_skip ?_
    | refine aw_exit ?_
    | with_reducible refine then_x ?_
    | with_reducible refine then_r ?_
    | with_reducible refine block_x ?_
    | with_reducible refine block_n ?_
    | with_reducible refine block_r ?_
    | refine aw_ret ?_
theorem law_RemainingRows (s : So) (hs : rdSo s) : Meets Go.Proofs.Try.prog 6 [.agg (soE s)] [] (B true) [] false := by
  refine meets_of [2] Go.Proofs.Try.func6 rfl rfl ?_
  simp only [Go.Proofs.Try.ntmps6, List.length_cons, List.length_nil, Nat.reduceAdd, Nat.reduceSub, List.replicate_succ, List.replicate_zero, List.cons_append, List.nil_append]
  repeat' first
    | refine aw_seq ?_
    | refine aw_region ?_
    | refine aw_lex [] ?_
    | (refine isA ?_; refine do_F rfl ?_)
    | (refine isL ?_; refine lex_F rfl (by kernel_rfl) rfl rfl ?_)
    | (refine isLg rfl ?_; refine lex_S rfl (by kernel_rfl) rfl rfl ?_)
    | (refine isAc 33 ?_; refine do_R rfl (st_call rfl (c_szSorter s _ hs.runs) (.cons (.same rfl) (.cons (.same rfl) .nil)) rfl) rfl ?_)
    | (refine isLc 33 rfl ?_; refine lex_R rfl (by kernel_rfl) rfl (st_call rfl (c_szSorter s _ hs.runs) (.cons (.same rfl) (.cons (.same rfl) .nil)) rfl) rfl ?_)
    | refine aops_nil ?_
    | refine lex_done _ rfl (by kernel_rfl) ?_
    | refine aw_ct rfl ?_
    | refine aw_cf rfl ?_
    | refine aw_block ?_
    | with_reducible refine then_n ?_
    | refine aw_skip ?_
    | refine aw_exit ?_
    | with_reducible refine then_x ?_
    | with_reducible refine then_r ?_
    | with_reducible refine block_x ?_
    | with_reducible refine block_n ?_
    | with_reducible refine block_r ?_
    | refine aw_ret ?_
  refine aw_cond rfl (fun h => ?_) (fun h => ?_)
  · repeat' first
      | refine aw_seq ?_
      | refine aw_region ?_
      | refine aw_lex [] ?_
      | (refine isA ?_; refine do_F rfl ?_)
      | (refine isL ?_; refine lex_F rfl (by kernel_rfl) rfl rfl ?_)
      | (refine isLg rfl ?_; refine lex_S rfl (by kernel_rfl) rfl rfl ?_)
      | exact fin1 rfl rfl rfl
      | refine aops_nil ?_
      | refine lex_done _ rfl (by kernel_rfl) ?_
      | refine aw_ct rfl ?_
      | refine aw_cf rfl ?_
      | refine aw_block ?_
      | with_reducible refine then_n ?_
      | refine aw_skip ?_
      | refine aw_exit ?_
      | with_reducible refine then_x ?_
      | with_reducible refine then_r ?_
      | with_reducible refine block_x ?_
      | with_reducible refine block_n ?_
      | with_reducible refine block_r ?_
      | refine aw_ret ?_
  obtain ⟨g1, _, h0, h1⟩ := szS_ok hs (by omega) (by omega) h
  repeat' first
    | (refine isA ?_; refine do_R rfl (neqI_same rfl rfl rfl) rfl ?_)
    | refine aw_seq ?_
    | refine aw_region ?_
    | refine aw_lex [] ?_
    | (refine isA ?_; refine do_F rfl ?_)
    | (refine isL ?_; refine lex_F rfl (by kernel_rfl) rfl rfl ?_)
    | (refine isLg rfl ?_; refine lex_S rfl (by kernel_rfl) rfl rfl ?_)
    | (refine isAc 34 ?_; refine do_R rfl (st_call rfl (c_toSorter s g1) (.cons (.same rfl) .nil) rfl) rfl ?_)
    | (refine isLc 34 rfl ?_; refine lex_R rfl (by kernel_rfl) rfl (st_call rfl (c_toSorter s g1) (.cons (.same rfl) .nil) rfl) rfl ?_)
    | (refine isAc 36 ?_; refine do_R rfl (st_call rfl (c_srem s g1) (.cons (.same rfl) .nil) rfl) rfl ?_)
    | (refine isLc 36 rfl ?_; refine lex_R rfl (by kernel_rfl) rfl (st_call rfl (c_srem s g1) (.cons (.same rfl) .nil) rfl) rfl ?_)
    | (refine isAc 21 ?_; refine do_R rfl (st_call rfl (c_irem s g1) (.cons (.same rfl) .nil) rfl) rfl ?_)
    | (refine isLc 21 rfl ?_; refine lex_R rfl (by kernel_rfl) rfl (st_call rfl (c_irem s g1) (.cons (.same rfl) .nil) rfl) rfl ?_)
    | (refine isAc 35 ?_; refine do_R rfl (st_call rfl (c_eqSorter s g1) (.cons (.same rfl) (.cons (.same rfl) .nil)) rfl) rfl ?_)
    | (refine isLc 35 rfl ?_; refine lex_R rfl (by kernel_rfl) rfl (st_call rfl (c_eqSorter s g1) (.cons (.same rfl) (.cons (.same rfl) .nil)) rfl) rfl ?_)
    | exact fin1 rfl rfl rfl
    | refine aops_nil ?_
    | refine lex_done _ rfl (by kernel_rfl) ?_
    | refine aw_ct rfl ?_
    | refine aw_cf rfl ?_
    | refine aw_block ?_
    | with_reducible refine then_n ?_
    | refine aw_skip ?_
    | refine aw_exit ?_
    | with_reducible refine then_x ?_
    | with_reducible refine then_r ?_
    | with_reducible refine block_x ?_
    | with_reducible refine block_n ?_
    | with_reducible refine block_r ?_
    | refine aw_ret ?_
end Go.Proofs.Ytojcojanokhnaaa.Ab
