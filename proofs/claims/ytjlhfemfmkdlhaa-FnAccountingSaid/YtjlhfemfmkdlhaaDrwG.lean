/-
  Draws of charges, releases, grants.
-/
import Derived.Test.YtjlhfemfmkdlhaaDrwF
namespace Go.Proofs.Ytjlhfemfmkdlhaa.Ab
open Go.RowKit
set_option linter.unusedVariables false
set_option linter.unusedSimpArgs false
set_option maxRecDepth 20000
set_option maxHeartbeats 2000000

theorem turnsA_code2 (c : Cur) : (drawA c).2.code = c.code := by
  unfold drawA lastA
  generalize hq : turnsA ((naV (pkV [8, 20, 60] c)).1, beC 6 (beC 3 c)) (beV 6 (beC 3 c)).toNat = q
  have hc : q.2.code = c.code := by rw [← hq, turnsA_code]; show (beC 6 (beC 3 c)).code = _; rw [beC_code, beC_code]
  cases decide (beV 12 q.2 = 0) <;> cases decide (beV 12 q.2 = 1) <;> cases decide (beV 12 q.2 = 2) <;> simp [beC_code, hc]

def dcV (xs : List Int) : Ac × Int := ((drawA (newC xs)).1, pkV [0, 1, 8, 60, 61, -1, beV 30 (drawA (newC xs)).2] (beC 30 (drawA (newC xs)).2))

theorem c_drawCh (xs : List Int) (hl : xs.length ≤ 1000000000) : Meets Go.Proofs.Try.prog 49 [lstOf u8T xs] [] (.tup [.agg (acE (dcV xs).1), I (dcV xs).2]) [] true := by
  have h1 : (newC xs).code.length ≤ 1000000000 := hl
  have h2 : (drawA (newC xs)).2.code.length ≤ 1000000000 := by rw [turnsA_code2]; exact hl
  have h3 : (beC 30 (drawA (newC xs)).2).code.length ≤ 1000000000 := by rw [beC_code]; exact h2
  refine meets_ofCT 2 64 [3] Go.Proofs.Try.func49 rfl rfl rfl ?_
  simp only [Go.Proofs.Try.ntmps49, List.length_cons, List.length_nil, Nat.reduceAdd, Nat.reduceSub, List.replicate_succ, List.replicate_zero, List.cons_append, List.nil_append]
  repeat' first
    | (refine isA ?_; refine do_R rfl (lit_of rfl rfl rfl rfl rfl) rfl ?_)
    | refine aw_seq ?_
    | refine aw_region ?_
    | refine aw_lex [] ?_
    | (refine isA ?_; refine do_F rfl ?_)
    | (refine isL ?_; refine lex_F rfl (by kernel_rfl) rfl rfl ?_)
    | (refine isLg rfl ?_; refine lex_S rfl (by kernel_rfl) rfl rfl ?_)
    | (refine isAc 83 ?_; refine do_R rfl (st_callK rfl (c_new xs hl) (.cons (.same rfl) .nil) (fun q hq => by simp at hq; subst hq; exact curR_noH _) rfl rfl) rfl ?_)
    | (refine isLc 83 rfl ?_; refine lex_R rfl (by kernel_rfl) rfl (st_callK rfl (c_new xs hl) (.cons (.same rfl) .nil) (fun q hq => by simp at hq; subst hq; exact curR_noH _) rfl rfl) rfl ?_)
    | (refine isAc 91 ?_; refine do_R rfl (step_callMs (K := []) (Rs' := [_]) [1] (by decide) rfl (c_acct (newC xs) h1) (.cons rfl rfl rfl (curR_noH _) (curR_noH _) .nil) (.cons (.ptr rfl) .nil) (fun q hq => by cases hq) rfl) rfl ?_)
    | (refine isLc 91 rfl ?_; refine lex_R rfl (by kernel_rfl) rfl (step_callMs (K := []) (Rs' := [_]) [1] (by decide) rfl (c_acct (newC xs) h1) (.cons rfl rfl rfl (curR_noH _) (curR_noH _) .nil) (.cons (.ptr rfl) .nil) (fun q hq => by cases hq) rfl) rfl ?_)
    | (refine isAc 90 ?_; refine do_R rfl (step_callMs (K := []) (Rs' := [_]) [1] (by decide) rfl (c_below 30 (drawA (newC xs)).2 h2) (.cons rfl rfl rfl (curR_noH _) (curR_noH _) .nil) (.cons (.ptr rfl) (.cons (.same rfl) .nil)) (fun q hq => by cases hq) rfl) rfl ?_)
    | (refine isLc 90 rfl ?_; refine lex_R rfl (by kernel_rfl) rfl (step_callMs (K := []) (Rs' := [_]) [1] (by decide) rfl (c_below 30 (drawA (newC xs)).2 h2) (.cons rfl rfl rfl (curR_noH _) (curR_noH _) .nil) (.cons (.ptr rfl) (.cons (.same rfl) .nil)) (fun q hq => by cases hq) rfl) rfl ?_)
    | (refine isAc 88 ?_; refine do_R rfl (step_callMs (K := []) (Rs' := [_]) [1] (by decide) rfl (c_pickL [0, 1, 8, 60, 61, -1, beV 30 (drawA (newC xs)).2] (beC 30 (drawA (newC xs)).2) h3 (Nat.zero_lt_succ _)) (.cons rfl rfl rfl (curR_noH _) (curR_noH _) .nil) (.cons (.ptr rfl) (.cons (.same rfl) .nil)) (fun q hq => by cases hq) rfl) rfl ?_)
    | (refine isLc 88 rfl ?_; refine lex_R rfl (by kernel_rfl) rfl (step_callMs (K := []) (Rs' := [_]) [1] (by decide) rfl (c_pickL [0, 1, 8, 60, 61, -1, beV 30 (drawA (newC xs)).2] (beC 30 (drawA (newC xs)).2) h3 (Nat.zero_lt_succ _)) (.cons rfl rfl rfl (curR_noH _) (curR_noH _) .nil) (.cons (.ptr rfl) (.cons (.same rfl) .nil)) (fun q hq => by cases hq) rfl) rfl ?_)
    | exact finCT (cell_is rfl rfl rfl rfl rfl) (.same rfl)
    | refine aops_nil ?_
    | refine lex_done _ rfl (by kernel_rfl) ?_
    | refine aw_ct rfl ?_
    | refine aw_cf rfl ?_
    | refine aw_block ?_
    | refine then_n ?_
    | refine aw_skip ?_
    | refine aw_exit ?_
    | refine then_x ?_
    | refine then_r ?_
    | refine block_x ?_
    | refine block_n ?_
    | refine block_r ?_
    | refine aw_ret ?_

theorem c_drawSg (xs : List Int) (hl : xs.length ≤ 1000000000) : Meets Go.Proofs.Try.prog 56 [lstOf u8T xs] [] (.tup [.agg (acE (dcV xs).1), I (dcV xs).2]) [] true := by
  refine meets_ofCT 2 64 [3] Go.Proofs.Try.func56 rfl rfl rfl ?_
  simp only [Go.Proofs.Try.ntmps56, List.length_cons, List.length_nil, Nat.reduceAdd, Nat.reduceSub, List.replicate_succ, List.replicate_zero, List.cons_append, List.nil_append]
  repeat' first
    | refine aw_seq ?_
    | refine aw_region ?_
    | refine aw_lex [] ?_
    | (refine isA ?_; refine do_F rfl ?_)
    | (refine isL ?_; refine lex_F rfl (by kernel_rfl) rfl rfl ?_)
    | (refine isLg rfl ?_; refine lex_S rfl (by kernel_rfl) rfl rfl ?_)
    | (refine isAc 49 ?_; refine do_R rfl (st_call rfl (c_drawCh xs hl) (.cons (.same rfl) .nil) rfl) rfl ?_)
    | (refine isLc 49 rfl ?_; refine lex_R rfl (by kernel_rfl) rfl (st_call rfl (c_drawCh xs hl) (.cons (.same rfl) .nil) rfl) rfl ?_)
    | exact finCT (cell_is rfl rfl rfl rfl rfl) (.same rfl)
    | refine aops_nil ?_
    | refine lex_done _ rfl (by kernel_rfl) ?_
    | refine aw_ct rfl ?_
    | refine aw_cf rfl ?_
    | refine aw_block ?_
    | refine then_n ?_
    | refine aw_skip ?_
    | refine aw_exit ?_
    | refine then_x ?_
    | refine then_r ?_
    | refine block_x ?_
    | refine block_n ?_
    | refine block_r ?_
    | refine aw_ret ?_

theorem c_drawRe (xs : List Int) (hl : xs.length ≤ 1000000000) : Meets Go.Proofs.Try.prog 59 [lstOf u8T xs] [] (.tup [.agg (acE (dcV xs).1), I (dcV xs).2]) [] true := by
  refine meets_ofCT 2 64 [3] Go.Proofs.Try.func59 rfl rfl rfl ?_
  simp only [Go.Proofs.Try.ntmps59, List.length_cons, List.length_nil, Nat.reduceAdd, Nat.reduceSub, List.replicate_succ, List.replicate_zero, List.cons_append, List.nil_append]
  repeat' first
    | refine aw_seq ?_
    | refine aw_region ?_
    | refine aw_lex [] ?_
    | (refine isA ?_; refine do_F rfl ?_)
    | (refine isL ?_; refine lex_F rfl (by kernel_rfl) rfl rfl ?_)
    | (refine isLg rfl ?_; refine lex_S rfl (by kernel_rfl) rfl rfl ?_)
    | (refine isAc 49 ?_; refine do_R rfl (st_call rfl (c_drawCh xs hl) (.cons (.same rfl) .nil) rfl) rfl ?_)
    | (refine isLc 49 rfl ?_; refine lex_R rfl (by kernel_rfl) rfl (st_call rfl (c_drawCh xs hl) (.cons (.same rfl) .nil) rfl) rfl ?_)
    | exact finCT (cell_is rfl rfl rfl rfl rfl) (.same rfl)
    | refine aops_nil ?_
    | refine lex_done _ rfl (by kernel_rfl) ?_
    | refine aw_ct rfl ?_
    | refine aw_cf rfl ?_
    | refine aw_block ?_
    | refine then_n ?_
    | refine aw_skip ?_
    | refine aw_exit ?_
    | refine then_x ?_
    | refine then_r ?_
    | refine block_x ?_
    | refine block_n ?_
    | refine block_r ?_
    | refine aw_ret ?_

theorem c_big (xs : List Int) : Meets Go.Proofs.Try.prog 37 [lstOf u8T xs] [] (B (decide ((1048576 : Int) < xs.length))) [] false := by
  refine meets_of [2] Go.Proofs.Try.func37 rfl rfl ?_
  simp only [Go.Proofs.Try.ntmps37, List.length_cons, List.length_nil, Nat.reduceAdd, Nat.reduceSub, List.replicate_succ, List.replicate_zero, List.cons_append, List.nil_append]
  repeat' first
    | refine aw_seq ?_
    | refine aw_region ?_
    | refine aw_lex [] ?_
    | (refine isA ?_; refine do_F rfl ?_)
    | (refine isL ?_; refine lex_F rfl (by kernel_rfl) rfl rfl ?_)
    | (refine isLg rfl ?_; refine lex_S rfl (by kernel_rfl) rfl rfl ?_)
    | exact fin1 rfl rfl rfl
    | refine aops_nil ?_
    | refine lex_done _ rfl (by kernel_rfl) ?_
    | refine aw_ct rfl ?_
    | refine aw_cf rfl ?_
    | refine aw_block ?_
    | refine then_n ?_
    | refine aw_skip ?_
    | refine aw_exit ?_
    | refine then_x ?_
    | refine then_r ?_
    | refine block_x ?_
    | refine block_n ?_
    | refine block_r ?_
    | refine aw_ret ?_

end Go.Proofs.Ytjlhfemfmkdlhaa.Ab
