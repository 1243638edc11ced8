/-
  NewSorter: the law.
-/
import Derived.Test.YtngeppmincgebaaNsA
namespace Go.Proofs.Ytngeppmincgebaa.Ab
open Go.RowKit
set_option linter.unusedVariables false
set_option linter.unusedSimpArgs false
set_option maxRecDepth 20000
set_option maxHeartbeats 2000000

theorem ok_soN {xs : List Rw} (h : xs.length ≤ 10000000) : okSo (soN xs) := ⟨h, Nat.zero_le _, Nat.zero_le _, Nat.zero_le _, Nat.zero_le _, Nat.zero_le _⟩
theorem ok_soZ : okSo soZ := ⟨Nat.zero_le _, Nat.zero_le _, Nat.zero_le _, Nat.zero_le _, Nat.zero_le _, Nat.zero_le _⟩
theorem c_heldN (xs : List Rw) (h : xs.length ≤ 10000000) : Meets Go.Proofs.Try.prog 50 [.agg (soE (soN (mkC 1 xs xs.length))), I 1] [] (I (kk 1 (3 * xs.length))) [] false := by
  have q := c_heldSorter (soN xs) (ok_soN h)
  have e : totS (soN xs) = xs.length := by simp [totS, soN, tot]
  rw [e] at q
  exact q
theorem c_heldZ : Meets Go.Proofs.Try.prog 50 [.agg (soE soZ), I 1] [] (I 1) [] false := by
  have q := c_heldSorter soZ ok_soZ
  exact q

theorem pur_mk {H : List Reg} {h : Nat} {k : Int} {xs : List Rw} (hH : H[h]? = some (rwR (mkC k xs xs.length))) : Pur true H (.sl h 0 xs.length) (rwL (mkC k xs xs.length)) := by
  have := pur_row hH
  rw [mkC_len k (Nat.le_refl _)] at this
  exact this
theorem law_NewSorter (xs : List Rw) (hl0 : xs.length ≤ 9223372036854775807) : Meets Go.Proofs.Try.prog 10 [rwL xs] [] (B true) [] false := by
  refine meets_of [2] Go.Proofs.Try.func10 rfl rfl ?_
  simp only [Go.Proofs.Try.ntmps10, List.length_cons, List.length_nil, Nat.reduceAdd, Nat.reduceSub, List.replicate_succ, List.replicate_zero, List.cons_append, List.nil_append]
  repeat' first
    | refine aw_seq ?_
    | refine aw_region ?_
    | refine aw_lex [] ?_
    | (refine isA ?_; refine do_F rfl ?_)
    | (refine isL ?_; refine lex_F rfl (by kernel_rfl) rfl rfl ?_)
    | (refine isLg rfl ?_; refine lex_S rfl (by kernel_rfl) rfl rfl ?_)
    | (refine isAc 15 ?_; refine do_R rfl (st_call rfl (c_szRowS xs _) (.cons (.same rfl) (.cons (.same rfl) .nil)) rfl) rfl ?_)
    | (refine isLc 15 rfl ?_; refine lex_R rfl (by kernel_rfl) rfl (st_call rfl (c_szRowS xs _) (.cons (.same rfl) (.cons (.same rfl) .nil)) rfl) rfl ?_)
    | refine aops_nil ?_
    | refine lex_done _ rfl (by kernel_rfl) ?_
    | refine aw_ct rfl ?_
    | refine aw_cf rfl ?_
    | refine aw_block ?_
    | refine then_n ?_
    | refine aw_skip ?_
    | refine aw_exit ?_
    | refine then_x ?_
    | refine then_r ?_
    | refine block_x ?_
    | refine block_n ?_
    | refine block_r ?_
    | refine aw_ret ?_
  refine aw_cond rfl (fun h => ?_) (fun h => ?_)
  · repeat' first
      | refine aw_seq ?_
      | refine aw_region ?_
      | refine aw_lex [] ?_
      | (refine isA ?_; refine do_F rfl ?_)
      | (refine isL ?_; refine lex_F rfl (by kernel_rfl) rfl rfl ?_)
      | (refine isLg rfl ?_; refine lex_S rfl (by kernel_rfl) rfl rfl ?_)
      | exact fin1 rfl rfl rfl
      | refine aops_nil ?_
      | refine lex_done _ rfl (by kernel_rfl) ?_
      | refine aw_ct rfl ?_
      | refine aw_cf rfl ?_
      | refine aw_block ?_
      | refine then_n ?_
      | refine aw_skip ?_
      | refine aw_exit ?_
      | refine then_x ?_
      | refine then_r ?_
      | refine block_x ?_
      | refine block_n ?_
      | refine block_r ?_
      | refine aw_ret ?_
  obtain ⟨q1, _⟩ := szL_ok hl0 (by omega) (by omega) h
  have hl : xs.length ≤ 1000000000 := by omega
  have hk : xs.length ≤ 10000000 := by omega
  have hneg : decide (kk 1 (3 * xs.length) < 0) = false := kk_neg (by omega) (by omega) (by omega)
  have s1 := c_sns xs hl
  rcases Bool.eq_false_or_eq_true (avR xs) with hv | hv
  · skip
    rw [nsS, hv, cond_true] at s1
    repeat' first
      | (refine isA ?_; refine do_R rfl (neqB_same rfl rfl rfl (by kernel_rfl)) rfl ?_)
      | refine aw_seq ?_
      | refine aw_region ?_
      | refine aw_lex [] ?_
      | (refine isA ?_; refine do_F rfl ?_)
      | (refine isL ?_; refine lex_F rfl (by kernel_rfl) rfl rfl ?_)
      | (refine isLg rfl ?_; refine lex_S rfl (by kernel_rfl) rfl rfl ?_)
      | (refine isAc 17 (x := #[.tmp 25]) ?_; refine do_R rfl (st_callK rfl (c_toRowSO xs hl) (.cons (.same rfl) .nil) (fun q hq => by simp at hq; subst hq; exact flat_noH _ _) rfl rfl) rfl ?_)
      | (refine isLc 17 (x := #[.tmp 25]) rfl ?_; refine lex_R rfl (by kernel_rfl) rfl (st_callK rfl (c_toRowSO xs hl) (.cons (.same rfl) .nil) (fun q hq => by simp at hq; subst hq; exact flat_noH _ _) rfl rfl) rfl ?_)
      | (refine isAc 17 ?_; refine do_R rfl (st_call rfl (c_toRowS xs hl) (.cons (.same rfl) .nil) rfl) rfl ?_)
      | (refine isLc 17 rfl ?_; refine lex_R rfl (by kernel_rfl) rfl (st_call rfl (c_toRowS xs hl) (.cons (.same rfl) .nil) rfl) rfl ?_)
      | (refine isAc 46 ?_; refine do_R rfl (st_call rfl s1 (.cons (.same rfl) .nil) rfl) rfl ?_)
      | (refine isLc 46 rfl ?_; refine lex_R rfl (by kernel_rfl) rfl (st_call rfl s1 (.cons (.same rfl) .nil) rfl) rfl ?_)
      | (refine isAc 47 (x := #[.tmp 28]) ?_; refine do_R rfl (st_callK rfl (c_ins xs hl hv) (.cons (pur_row rfl) .nil) (fun q hq => by simp at hq; subst hq; exact flat_noH _ _) rfl rfl) rfl ?_)
      | (refine isLc 47 (x := #[.tmp 28]) rfl ?_; refine lex_R rfl (by kernel_rfl) rfl (st_callK rfl (c_ins xs hl hv) (.cons (pur_row rfl) .nil) (fun q hq => by simp at hq; subst hq; exact flat_noH _ _) rfl rfl) rfl ?_)
      | (refine isAc 47 (x := #[.tmp 75]) ?_; refine do_R rfl (st_call rfl ((c_ins xs hl hv).frozen (r' := .tup [.agg (soE (soN xs)), B true]) (.tup (.cons (.agg (.cons (pur_row rfl) (.cons (.same rfl) (.cons .nil (.cons .nil (.cons .nil (.cons .nil (.cons (.same rfl) (.cons (.same rfl) (.cons (.same rfl) (.cons (.same rfl) .nil))))))))))) (.cons (.same rfl) .nil)))) (.cons (.same rfl) .nil) rfl) rfl ?_)
      | (refine isLc 47 (x := #[.tmp 75]) rfl ?_; refine lex_R rfl (by kernel_rfl) rfl (st_call rfl ((c_ins xs hl hv).frozen (r' := .tup [.agg (soE (soN xs)), B true]) (.tup (.cons (.agg (.cons (pur_row rfl) (.cons (.same rfl) (.cons .nil (.cons .nil (.cons .nil (.cons .nil (.cons (.same rfl) (.cons (.same rfl) (.cons (.same rfl) (.cons (.same rfl) .nil))))))))))) (.cons (.same rfl) .nil)))) (.cons (.same rfl) .nil) rfl) rfl ?_)
      | (refine isAc 48 (x := #[.tmp 32, .tmp 33]) ?_; refine do_R rfl (st_call rfl (c_eqSorter (soN xs) (ok_soN hk)) (.cons (.agg (.cons (pur_row rfl) (.cons (.same rfl) (.cons .nil (.cons .nil (.cons .nil (.cons .nil (.cons (.same rfl) (.cons (.same rfl) (.cons (.same rfl) (.cons (.same rfl) .nil))))))))))) (.cons (.same rfl) .nil)) rfl) rfl ?_)
      | (refine isLc 48 (x := #[.tmp 32, .tmp 33]) rfl ?_; refine lex_R rfl (by kernel_rfl) rfl (st_call rfl (c_eqSorter (soN xs) (ok_soN hk)) (.cons (.agg (.cons (pur_row rfl) (.cons (.same rfl) (.cons .nil (.cons .nil (.cons .nil (.cons .nil (.cons (.same rfl) (.cons (.same rfl) (.cons (.same rfl) (.cons (.same rfl) .nil))))))))))) (.cons (.same rfl) .nil)) rfl) rfl ?_)
      | (refine isAc 19 ?_; refine do_R rfl (st_call rfl (c_eqRowS xs hl) (.cons (pur_row rfl) (.cons (.same rfl) .nil)) rfl) rfl ?_)
      | (refine isLc 19 rfl ?_; refine lex_R rfl (by kernel_rfl) rfl (st_call rfl (c_eqRowS xs hl) (.cons (pur_row rfl) (.cons (.same rfl) .nil)) rfl) rfl ?_)
      | (refine isAc 27 ?_; refine do_R rfl (step_callMs (K := []) (Rs' := [rwR (mkC 1 xs xs.length)]) [1] (by decide) rfl (c_markRowS xs 1 hl) (.cons rfl rfl rfl (flat_noH _ _) (flat_noH _ _) .nil) (.cons (.sl rfl) (.cons (.same rfl) .nil)) (fun q hq => by cases hq) rfl) rfl ?_)
      | (refine isLc 27 rfl ?_; refine lex_R rfl (by kernel_rfl) rfl (step_callMs (K := []) (Rs' := [rwR (mkC 1 xs xs.length)]) [1] (by decide) rfl (c_markRowS xs 1 hl) (.cons rfl rfl rfl (flat_noH _ _) (flat_noH _ _) .nil) (.cons (.sl rfl) (.cons (.same rfl) .nil)) (fun q hq => by cases hq) rfl) rfl ?_)
      | refine aops_nil ?_
      | refine lex_done _ rfl (by kernel_rfl) ?_
      | refine aw_ct rfl ?_
      | refine aw_cf rfl ?_
      | refine aw_block ?_
      | refine then_n ?_
      | refine aw_skip ?_
      | refine aw_exit ?_
      | refine then_x ?_
      | refine then_r ?_
      | refine block_x ?_
      | refine block_n ?_
      | refine block_r ?_
      | refine aw_ret ?_
    refine do_br rfl rfl (fun h => by rw [hneg] at h; cases h) (fun _ => ?_)
    have hml : (mkC 1 xs xs.length).length = xs.length := mkC_len 1 (Nat.le_refl _)
    repeat' first
      | (refine isA ?_; refine do_R rfl (neqB_same rfl rfl rfl (by kernel_rfl)) rfl ?_)
      | (refine isA ?_; refine do_R rfl (neqI_same rfl rfl rfl) rfl ?_)
      | refine aw_seq ?_
      | refine aw_region ?_
      | refine aw_lex [] ?_
      | (refine isA ?_; refine do_F rfl ?_)
      | (refine isL ?_; refine lex_F rfl (by kernel_rfl) rfl rfl ?_)
      | (refine isLg rfl ?_; refine lex_S rfl (by kernel_rfl) rfl rfl ?_)
      | (refine isAc 17 ?_; refine do_R rfl (st_call rfl (c_toRowS xs hl) (.cons (.same rfl) .nil) rfl) rfl ?_)
      | (refine isLc 17 rfl ?_; refine lex_R rfl (by kernel_rfl) rfl (st_call rfl (c_toRowS xs hl) (.cons (.same rfl) .nil) rfl) rfl ?_)
      | (refine isAc 47 (x := #[.tmp 75]) ?_; refine do_R rfl (st_call rfl ((c_ins xs hl hv).frozen (r' := .tup [.agg (soE (soN xs)), B true]) (.tup (.cons (.agg (.cons (pur_row rfl) (.cons (.same rfl) (.cons .nil (.cons .nil (.cons .nil (.cons .nil (.cons (.same rfl) (.cons (.same rfl) (.cons (.same rfl) (.cons (.same rfl) .nil))))))))))) (.cons (.same rfl) .nil)))) (.cons (.same rfl) .nil) rfl) rfl ?_)
      | (refine isLc 47 (x := #[.tmp 75]) rfl ?_; refine lex_R rfl (by kernel_rfl) rfl (st_call rfl ((c_ins xs hl hv).frozen (r' := .tup [.agg (soE (soN xs)), B true]) (.tup (.cons (.agg (.cons (pur_row rfl) (.cons (.same rfl) (.cons .nil (.cons .nil (.cons .nil (.cons .nil (.cons (.same rfl) (.cons (.same rfl) (.cons (.same rfl) (.cons (.same rfl) .nil))))))))))) (.cons (.same rfl) .nil)))) (.cons (.same rfl) .nil) rfl) rfl ?_)
      | (refine isAc 48 (x := #[.tmp 52, .tmp 53]) ?_; refine do_R rfl (st_call rfl (c_eqSorter (soN xs) (ok_soN hk)) (.cons (.agg (.cons (pur_row rfl) (.cons (.same rfl) (.cons .nil (.cons .nil (.cons .nil (.cons .nil (.cons (.same rfl) (.cons (.same rfl) (.cons (.same rfl) (.cons (.same rfl) .nil))))))))))) (.cons (.same rfl) .nil)) rfl) rfl ?_)
      | (refine isLc 48 (x := #[.tmp 52, .tmp 53]) rfl ?_; refine lex_R rfl (by kernel_rfl) rfl (st_call rfl (c_eqSorter (soN xs) (ok_soN hk)) (.cons (.agg (.cons (pur_row rfl) (.cons (.same rfl) (.cons .nil (.cons .nil (.cons .nil (.cons .nil (.cons (.same rfl) (.cons (.same rfl) (.cons (.same rfl) (.cons (.same rfl) .nil))))))))))) (.cons (.same rfl) .nil)) rfl) rfl ?_)
      | (refine isAc 48 (x := #[.tmp 79, .tmp 80]) ?_; refine do_R rfl (st_call rfl (c_eqSorter (soN xs) (ok_soN hk)) (.cons (.same rfl) (.cons (.same rfl) .nil)) rfl) rfl ?_)
      | (refine isLc 48 (x := #[.tmp 79, .tmp 80]) rfl ?_; refine lex_R rfl (by kernel_rfl) rfl (st_call rfl (c_eqSorter (soN xs) (ok_soN hk)) (.cons (.same rfl) (.cons (.same rfl) .nil)) rfl) rfl ?_)
      | (refine isAc 49 ?_; refine do_R rfl (step_callMs (K := []) (Rs' := [rwR (mkC 1 xs xs.length)]) [2] (by decide) rfl (c_markSo1 xs 1 hl) (.cons rfl rfl rfl (flat_noH _ _) (flat_noH _ _) .nil) (.cons (.agg (.cons (.sl rfl) (.cons (.same rfl) (.cons (.same rfl) (.cons (.same rfl) (.cons (.same rfl) (.cons (.same rfl) (.cons (.same rfl) (.cons (.same rfl) (.cons (.same rfl) (.cons (.same rfl) .nil))))))))))) (.cons (.same rfl) .nil)) (fun q hq => by cases hq) rfl) rfl ?_)
      | (refine isLc 49 rfl ?_; refine lex_R rfl (by kernel_rfl) rfl (step_callMs (K := []) (Rs' := [rwR (mkC 1 xs xs.length)]) [2] (by decide) rfl (c_markSo1 xs 1 hl) (.cons rfl rfl rfl (flat_noH _ _) (flat_noH _ _) .nil) (.cons (.agg (.cons (.sl rfl) (.cons (.same rfl) (.cons (.same rfl) (.cons (.same rfl) (.cons (.same rfl) (.cons (.same rfl) (.cons (.same rfl) (.cons (.same rfl) (.cons (.same rfl) (.cons (.same rfl) .nil))))))))))) (.cons (.same rfl) .nil)) (fun q hq => by cases hq) rfl) rfl ?_)
      | (refine isAc 50 ?_; refine do_R rfl (st_call rfl (c_heldN xs hk) (.cons (.agg (.cons (pur_mk rfl) (.cons (.same rfl) (.cons .nil (.cons .nil (.cons .nil (.cons .nil (.cons (.same rfl) (.cons (.same rfl) (.cons (.same rfl) (.cons (.same rfl) .nil))))))))))) (.cons (.same rfl) .nil)) rfl) rfl ?_)
      | (refine isLc 50 rfl ?_; refine lex_R rfl (by kernel_rfl) rfl (st_call rfl (c_heldN xs hk) (.cons (.agg (.cons (pur_mk rfl) (.cons (.same rfl) (.cons .nil (.cons .nil (.cons .nil (.cons .nil (.cons (.same rfl) (.cons (.same rfl) (.cons (.same rfl) (.cons (.same rfl) .nil))))))))))) (.cons (.same rfl) .nil)) rfl) rfl ?_)
      | refine aops_nil ?_
      | refine lex_done _ rfl (by kernel_rfl) ?_
      | refine aw_ct rfl ?_
      | refine aw_cf rfl ?_
      | refine aw_block ?_
      | refine then_n ?_
      | refine aw_skip ?_
      | refine aw_exit ?_
      | refine then_x ?_
      | refine then_r ?_
      | refine block_x ?_
      | refine block_n ?_
      | refine block_r ?_
      | refine aw_ret ?_
    refine aw_cond rfl (fun h => by rw [hneg] at h; cases h) (fun _ => ?_)
    repeat' first
      | (refine isA ?_; refine do_R rfl (neqB_same rfl rfl rfl (by kernel_rfl)) rfl ?_)
      | (refine isA ?_; refine do_R rfl (neqI_same rfl rfl rfl) rfl ?_)
      | refine aw_seq ?_
      | refine aw_region ?_
      | refine aw_lex [] ?_
      | (refine isA ?_; refine do_F rfl ?_)
      | (refine isL ?_; refine lex_F rfl (by kernel_rfl) rfl rfl ?_)
      | (refine isLg rfl ?_; refine lex_S rfl (by kernel_rfl) rfl rfl ?_)
      | (refine isAc 17 ?_; refine do_R rfl (st_call rfl (c_toRowS xs hl) (.cons (.same rfl) .nil) rfl) rfl ?_)
      | (refine isLc 17 rfl ?_; refine lex_R rfl (by kernel_rfl) rfl (st_call rfl (c_toRowS xs hl) (.cons (.same rfl) .nil) rfl) rfl ?_)
      | (refine isAc 47 (x := #[.tmp 75]) ?_; refine do_R rfl (st_call rfl ((c_ins xs hl hv).frozen (r' := .tup [.agg (soE (soN xs)), B true]) (.tup (.cons (.agg (.cons (pur_row rfl) (.cons (.same rfl) (.cons .nil (.cons .nil (.cons .nil (.cons .nil (.cons (.same rfl) (.cons (.same rfl) (.cons (.same rfl) (.cons (.same rfl) .nil))))))))))) (.cons (.same rfl) .nil)))) (.cons (.same rfl) .nil) rfl) rfl ?_)
      | (refine isLc 47 (x := #[.tmp 75]) rfl ?_; refine lex_R rfl (by kernel_rfl) rfl (st_call rfl ((c_ins xs hl hv).frozen (r' := .tup [.agg (soE (soN xs)), B true]) (.tup (.cons (.agg (.cons (pur_row rfl) (.cons (.same rfl) (.cons .nil (.cons .nil (.cons .nil (.cons .nil (.cons (.same rfl) (.cons (.same rfl) (.cons (.same rfl) (.cons (.same rfl) .nil))))))))))) (.cons (.same rfl) .nil)))) (.cons (.same rfl) .nil) rfl) rfl ?_)
      | (refine isAc 48 ?_; refine do_R rfl (st_call rfl (c_eqSorter (soN xs) (ok_soN hk)) (.cons (.same rfl) (.cons (.same rfl) .nil)) rfl) rfl ?_)
      | (refine isLc 48 rfl ?_; refine lex_R rfl (by kernel_rfl) rfl (st_call rfl (c_eqSorter (soN xs) (ok_soN hk)) (.cons (.same rfl) (.cons (.same rfl) .nil)) rfl) rfl ?_)
      | (refine isAc 50 ?_; refine do_R rfl (st_call rfl (c_heldN xs hk) (.cons (.agg (.cons (pur_mk rfl) (.cons (.same rfl) (.cons .nil (.cons .nil (.cons .nil (.cons .nil (.cons (.same rfl) (.cons (.same rfl) (.cons (.same rfl) (.cons (.same rfl) .nil))))))))))) (.cons (.same rfl) .nil)) rfl) rfl ?_)
      | (refine isLc 50 rfl ?_; refine lex_R rfl (by kernel_rfl) rfl (st_call rfl (c_heldN xs hk) (.cons (.agg (.cons (pur_mk rfl) (.cons (.same rfl) (.cons .nil (.cons .nil (.cons .nil (.cons .nil (.cons (.same rfl) (.cons (.same rfl) (.cons (.same rfl) (.cons (.same rfl) .nil))))))))))) (.cons (.same rfl) .nil)) rfl) rfl ?_)
      | refine aops_nil ?_
      | refine lex_done _ rfl (by kernel_rfl) ?_
      | refine aw_ct rfl ?_
      | refine aw_cf rfl ?_
      | refine aw_block ?_
      | refine then_n ?_
      | refine aw_skip ?_
      | refine aw_exit ?_
      | refine then_x ?_
      | refine then_r ?_
      | refine block_x ?_
      | refine block_n ?_
      | refine block_r ?_
      | refine aw_ret ?_
    refine aw_cond rfl (fun h => by rw [hneg] at h; cases h) (fun _ => ?_)
    repeat' first
      | (refine isA ?_; refine do_R rfl (neqI_same rfl rfl rfl) rfl ?_)
      | refine aw_seq ?_
      | refine aw_region ?_
      | refine aw_lex [] ?_
      | (refine isA ?_; refine do_F rfl ?_)
      | (refine isL ?_; refine lex_F rfl (by kernel_rfl) rfl rfl ?_)
      | (refine isLg rfl ?_; refine lex_S rfl (by kernel_rfl) rfl rfl ?_)
      | exact fin1 rfl rfl rfl
      | refine aops_nil ?_
      | refine lex_done _ rfl (by kernel_rfl) ?_
      | refine aw_ct rfl ?_
      | refine aw_cf rfl ?_
      | refine aw_block ?_
      | refine then_n ?_
      | refine aw_skip ?_
      | refine aw_exit ?_
      | refine then_x ?_
      | refine then_r ?_
      | refine block_x ?_
      | refine block_n ?_
      | refine block_r ?_
      | refine aw_ret ?_
  · rw [nsS, hv, cond_false] at s1
    repeat' first
      | (refine isA ?_; refine do_R rfl (neqB_same rfl rfl rfl (by kernel_rfl)) rfl ?_)
      | (refine isA ?_; refine do_R rfl (neqI_same rfl rfl rfl) rfl ?_)
      | refine aw_seq ?_
      | refine aw_region ?_
      | refine aw_lex [] ?_
      | (refine isA ?_; refine do_F rfl ?_)
      | (refine isL ?_; refine lex_F rfl (by kernel_rfl) rfl rfl ?_)
      | (refine isLg rfl ?_; refine lex_S rfl (by kernel_rfl) rfl rfl ?_)
      | (refine isAc 17 (x := #[.tmp 25]) ?_; refine do_R rfl (st_callK rfl (c_toRowSO xs hl) (.cons (.same rfl) .nil) (fun q hq => by simp at hq; subst hq; exact flat_noH _ _) rfl rfl) rfl ?_)
      | (refine isLc 17 (x := #[.tmp 25]) rfl ?_; refine lex_R rfl (by kernel_rfl) rfl (st_callK rfl (c_toRowSO xs hl) (.cons (.same rfl) .nil) (fun q hq => by simp at hq; subst hq; exact flat_noH _ _) rfl rfl) rfl ?_)
      | (refine isAc 17 ?_; refine do_R rfl (st_call rfl (c_toRowS xs hl) (.cons (.same rfl) .nil) rfl) rfl ?_)
      | (refine isLc 17 rfl ?_; refine lex_R rfl (by kernel_rfl) rfl (st_call rfl (c_toRowS xs hl) (.cons (.same rfl) .nil) rfl) rfl ?_)
      | (refine isAc 46 ?_; refine do_R rfl (st_call rfl s1 (.cons (.same rfl) .nil) rfl) rfl ?_)
      | (refine isLc 46 rfl ?_; refine lex_R rfl (by kernel_rfl) rfl (st_call rfl s1 (.cons (.same rfl) .nil) rfl) rfl ?_)
      | (refine isAc 47 (x := #[.tmp 28]) ?_; refine do_R rfl (st_call rfl (c_ins0 xs hl hv) (.cons (pur_row rfl) .nil) rfl) rfl ?_)
      | (refine isLc 47 (x := #[.tmp 28]) rfl ?_; refine lex_R rfl (by kernel_rfl) rfl (st_call rfl (c_ins0 xs hl hv) (.cons (pur_row rfl) .nil) rfl) rfl ?_)
      | (refine isAc 47 (x := #[.tmp 75]) ?_; refine do_R rfl (st_call rfl (c_ins0 xs hl hv) (.cons (.same rfl) .nil) rfl) rfl ?_)
      | (refine isLc 47 (x := #[.tmp 75]) rfl ?_; refine lex_R rfl (by kernel_rfl) rfl (st_call rfl (c_ins0 xs hl hv) (.cons (.same rfl) .nil) rfl) rfl ?_)
      | (refine isAc 48 ?_; refine do_R rfl (st_call rfl (c_eqSorter soZ ok_soZ) (.cons (.agg (.cons .nil (.cons (.same rfl) (.cons .nil (.cons .nil (.cons .nil (.cons .nil (.cons (.same rfl) (.cons (.same rfl) (.cons (.same rfl) (.cons (.same rfl) .nil))))))))))) (.cons (.same rfl) .nil)) rfl) rfl ?_)
      | (refine isLc 48 rfl ?_; refine lex_R rfl (by kernel_rfl) rfl (st_call rfl (c_eqSorter soZ ok_soZ) (.cons (.agg (.cons .nil (.cons (.same rfl) (.cons .nil (.cons .nil (.cons .nil (.cons .nil (.cons (.same rfl) (.cons (.same rfl) (.cons (.same rfl) (.cons (.same rfl) .nil))))))))))) (.cons (.same rfl) .nil)) rfl) rfl ?_)
      | (refine isAc 19 ?_; refine do_R rfl (st_call rfl (c_eqRowS xs hl) (.cons (pur_row rfl) (.cons (.same rfl) .nil)) rfl) rfl ?_)
      | (refine isLc 19 rfl ?_; refine lex_R rfl (by kernel_rfl) rfl (st_call rfl (c_eqRowS xs hl) (.cons (pur_row rfl) (.cons (.same rfl) .nil)) rfl) rfl ?_)
      | (refine isAc 27 ?_; refine do_R rfl (step_callMs (K := []) (Rs' := [rwR (mkC 1 xs xs.length)]) [1] (by decide) rfl (c_markRowS xs 1 hl) (.cons rfl rfl rfl (flat_noH _ _) (flat_noH _ _) .nil) (.cons (.sl rfl) (.cons (.same rfl) .nil)) (fun q hq => by cases hq) rfl) rfl ?_)
      | (refine isLc 27 rfl ?_; refine lex_R rfl (by kernel_rfl) rfl (step_callMs (K := []) (Rs' := [rwR (mkC 1 xs xs.length)]) [1] (by decide) rfl (c_markRowS xs 1 hl) (.cons rfl rfl rfl (flat_noH _ _) (flat_noH _ _) .nil) (.cons (.sl rfl) (.cons (.same rfl) .nil)) (fun q hq => by cases hq) rfl) rfl ?_)
      | refine aops_nil ?_
      | refine lex_done _ rfl (by kernel_rfl) ?_
      | refine aw_ct rfl ?_
      | refine aw_cf rfl ?_
      | refine aw_block ?_
      | refine then_n ?_
      | refine aw_skip ?_
      | refine aw_exit ?_
      | refine then_x ?_
      | refine then_r ?_
      | refine block_x ?_
      | refine block_n ?_
      | refine block_r ?_
      | refine aw_ret ?_
    refine do_br rfl rfl (fun h => by rw [hneg] at h; cases h) (fun _ => ?_)
    repeat' first
      | (refine isA ?_; refine do_R rfl (neqB_same rfl rfl rfl (by kernel_rfl)) rfl ?_)
      | (refine isA ?_; refine do_R rfl (neqI_same rfl rfl rfl) rfl ?_)
      | refine aw_seq ?_
      | refine aw_region ?_
      | refine aw_lex [] ?_
      | (refine isA ?_; refine do_F rfl ?_)
      | (refine isL ?_; refine lex_F rfl (by kernel_rfl) rfl rfl ?_)
      | (refine isLg rfl ?_; refine lex_S rfl (by kernel_rfl) rfl rfl ?_)
      | (refine isAc 17 ?_; refine do_R rfl (st_call rfl (c_toRowS xs hl) (.cons (.same rfl) .nil) rfl) rfl ?_)
      | (refine isLc 17 rfl ?_; refine lex_R rfl (by kernel_rfl) rfl (st_call rfl (c_toRowS xs hl) (.cons (.same rfl) .nil) rfl) rfl ?_)
      | (refine isAc 47 (x := #[.tmp 75]) ?_; refine do_R rfl (st_call rfl (c_ins0 xs hl hv) (.cons (.same rfl) .nil) rfl) rfl ?_)
      | (refine isLc 47 (x := #[.tmp 75]) rfl ?_; refine lex_R rfl (by kernel_rfl) rfl (st_call rfl (c_ins0 xs hl hv) (.cons (.same rfl) .nil) rfl) rfl ?_)
      | (refine isAc 48 ?_; refine do_R rfl (st_call rfl (c_eqSorter soZ ok_soZ) (.cons (.agg (.cons .nil (.cons (.same rfl) (.cons .nil (.cons .nil (.cons .nil (.cons .nil (.cons (.same rfl) (.cons (.same rfl) (.cons (.same rfl) (.cons (.same rfl) .nil))))))))))) (.cons (.same rfl) .nil)) rfl) rfl ?_)
      | (refine isLc 48 rfl ?_; refine lex_R rfl (by kernel_rfl) rfl (st_call rfl (c_eqSorter soZ ok_soZ) (.cons (.agg (.cons .nil (.cons (.same rfl) (.cons .nil (.cons .nil (.cons .nil (.cons .nil (.cons (.same rfl) (.cons (.same rfl) (.cons (.same rfl) (.cons (.same rfl) .nil))))))))))) (.cons (.same rfl) .nil)) rfl) rfl ?_)
      | (refine isAc 49 ?_; refine do_R rfl (st_call rfl (c_markSo0 1) (.cons (.same rfl) (.cons (.same rfl) .nil)) rfl) rfl ?_)
      | (refine isLc 49 rfl ?_; refine lex_R rfl (by kernel_rfl) rfl (st_call rfl (c_markSo0 1) (.cons (.same rfl) (.cons (.same rfl) .nil)) rfl) rfl ?_)
      | (refine isAc 50 ?_; refine do_R rfl (st_call rfl c_heldZ (.cons (.agg (.cons .nil (.cons (.same rfl) (.cons .nil (.cons .nil (.cons .nil (.cons .nil (.cons (.same rfl) (.cons (.same rfl) (.cons (.same rfl) (.cons (.same rfl) .nil))))))))))) (.cons (.same rfl) .nil)) rfl) rfl ?_)
      | (refine isLc 50 rfl ?_; refine lex_R rfl (by kernel_rfl) rfl (st_call rfl c_heldZ (.cons (.agg (.cons .nil (.cons (.same rfl) (.cons .nil (.cons .nil (.cons .nil (.cons .nil (.cons (.same rfl) (.cons (.same rfl) (.cons (.same rfl) (.cons (.same rfl) .nil))))))))))) (.cons (.same rfl) .nil)) rfl) rfl ?_)
      | exact fin1 rfl rfl rfl
      | refine aops_nil ?_
      | refine lex_done _ rfl (by kernel_rfl) ?_
      | refine aw_ct rfl ?_
      | refine aw_cf rfl ?_
      | refine aw_block ?_
      | refine then_n ?_
      | refine aw_skip ?_
      | refine aw_exit ?_
      | refine then_x ?_
      | refine then_r ?_
      | refine block_x ?_
      | refine block_n ?_
      | refine block_r ?_
      | refine aw_ret ?_
end Go.Proofs.Ytngeppmincgebaa.Ab
