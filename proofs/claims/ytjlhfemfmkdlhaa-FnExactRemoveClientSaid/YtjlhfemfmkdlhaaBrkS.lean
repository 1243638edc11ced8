/-
  FnExactAddClient: the law.
-/
import Derived.Test.YtjlhfemfmkdlhaaBrkR
namespace Go.Proofs.Ytjlhfemfmkdlhaa.Ab
open Go.RowKit
set_option linter.unusedVariables false
set_option linter.unusedSimpArgs false
set_option maxRecDepth 20000
set_option maxHeartbeats 2000000

theorem law_AddClient (b : Br) (g r : Int) (ha : b.act.length ≤ 9223372036854775807) (hw : b.wait.length ≤ 9223372036854775807) : Meets Go.Proofs.Try.prog 7 [.agg (brE b), I g, I r] [] (B true) [] false := by
  refine meets_of [6] Go.Proofs.Try.func7 rfl rfl ?_
  simp only [Go.Proofs.Try.ntmps7, List.length_cons, List.length_nil, Nat.reduceAdd, Nat.reduceSub, List.replicate_succ, List.replicate_zero, List.cons_append, List.nil_append]
  repeat' first
    | refine aw_seq ?_
    | refine aw_region ?_
    | refine aw_lex [] ?_
    | (refine isA ?_; refine do_F rfl ?_)
    | (refine isL ?_; refine lex_F rfl (by kernel_rfl) rfl rfl ?_)
    | (refine isLg rfl ?_; refine lex_S rfl (by kernel_rfl) rfl rfl ?_)
    | (refine isAc 20 ?_; refine do_R rfl (st_call rfl (c_szBroker _ _) (.cons (.same rfl) (.cons (.same rfl) .nil)) rfl) rfl ?_)
    | (refine isLc 20 rfl ?_; refine lex_R rfl (by kernel_rfl) rfl (st_call rfl (c_szBroker _ _) (.cons (.same rfl) (.cons (.same rfl) .nil)) rfl) rfl ?_)
    | refine aops_nil ?_
    | refine lex_done _ rfl (by kernel_rfl) ?_
    | refine aw_ct rfl ?_
    | refine aw_cf rfl ?_
    | refine aw_block ?_
    | refine then_n ?_
    | refine aw_skip ?_
    | refine aw_exit ?_
    | refine then_x ?_
    | refine then_r ?_
    | refine block_x ?_
    | refine block_n ?_
    | refine block_r ?_
    | refine aw_ret ?_
  refine aw_cond rfl (fun h => ?_) (fun h => ?_)
  · repeat' first
      | refine aw_seq ?_
      | refine aw_region ?_
      | refine aw_lex [] ?_
      | (refine isA ?_; refine do_F rfl ?_)
      | (refine isL ?_; refine lex_F rfl (by kernel_rfl) rfl rfl ?_)
      | (refine isLg rfl ?_; refine lex_S rfl (by kernel_rfl) rfl rfl ?_)
      | exact fin1 rfl rfl rfl
      | refine aops_nil ?_
      | refine lex_done _ rfl (by kernel_rfl) ?_
      | refine aw_ct rfl ?_
      | refine aw_cf rfl ?_
      | refine aw_block ?_
      | refine then_n ?_
      | refine aw_skip ?_
      | refine aw_exit ?_
      | refine then_x ?_
      | refine then_r ?_
      | refine block_x ?_
      | refine block_n ?_
      | refine block_r ?_
      | refine aw_ret ?_
  · obtain ⟨h1, h2⟩ := sz_len ha hw h
    have g1 : b.act.length ≤ 1000000000 := by omega
    have g2 : b.wait.length ≤ 1000000000 := by omega
    obtain ⟨e1, e2⟩ := adV_len b g r
    have r1 : (adV b g r).1.act.length ≤ 1000000000 := by omega
    have r2 : (adV b g r).1.wait.length ≤ 1000000000 := by omega
    have hm := mkN_pos b g1 g2
    have hm' := mkN_pos (adV b g r).1 r1 r2
    have hA := mkA_len 1 (adV b g r).1
    have hW := mkW_len 1 (adV b g r).1
    repeat' first
      | refine aw_seq ?_
      | refine aw_region ?_
      | refine aw_lex [] ?_
      | (refine isA ?_; refine do_F rfl ?_)
      | (refine isL ?_; refine lex_F rfl (by kernel_rfl) rfl rfl ?_)
      | (refine isLg rfl ?_; refine lex_S rfl (by kernel_rfl) rfl rfl ?_)
      | (refine isAc 22 (x := #[.tmp 27]) ?_; refine do_R rfl (st_call rfl (c_toBroker _ g1 g2) (.cons (.same rfl) .nil) rfl) rfl ?_)
      | (refine isLc 22 (x := #[.tmp 27]) rfl ?_; refine lex_R rfl (by kernel_rfl) rfl (st_call rfl (c_toBroker _ g1 g2) (.cons (.same rfl) .nil) rfl) rfl ?_)
      | (refine isAc 28 ?_; refine do_R rfl (st_call rfl ((c_sadd _ _ _ g1 g2).frozen (pur_br rfl)) (.cons (.same rfl) (.cons (.same rfl) (.cons (.same rfl) .nil))) rfl) rfl ?_)
      | (refine isLc 28 rfl ?_; refine lex_R rfl (by kernel_rfl) rfl (st_call rfl ((c_sadd _ _ _ g1 g2).frozen (pur_br rfl)) (.cons (.same rfl) (.cons (.same rfl) (.cons (.same rfl) .nil))) rfl) rfl ?_)
      | (refine isAc 22 (x := #[.tmp 35]) ?_; refine do_R rfl (st_callK rfl (c_toBrokerO _ g1 g2) (.cons (.same rfl) .nil) (brK_noH _ _) rfl rfl) rfl ?_)
      | (refine isLc 22 (x := #[.tmp 35]) rfl ?_; refine lex_R rfl (by kernel_rfl) rfl (st_callK rfl (c_toBrokerO _ g1 g2) (.cons (.same rfl) .nil) (brK_noH _ _) rfl rfl) rfl ?_)
      | (refine isAc 29 ?_; refine do_R rfl (st_callK rfl (c_iadd _ _ _ g1 g2) (.cons (.agg (.cons (.same rfl) (.cons (.same rfl) (.cons (pur_l rfl rfl) (.cons (pur_l rfl rfl) .nil))))) (.cons (.same rfl) (.cons (.same rfl) .nil))) (brK_noH _ _) rfl rfl) rfl ?_)
      | (refine isLc 29 rfl ?_; refine lex_R rfl (by kernel_rfl) rfl (st_callK rfl (c_iadd _ _ _ g1 g2) (.cons (.agg (.cons (.same rfl) (.cons (.same rfl) (.cons (pur_l rfl rfl) (.cons (pur_l rfl rfl) .nil))))) (.cons (.same rfl) (.cons (.same rfl) .nil))) (brK_noH _ _) rfl rfl) rfl ?_)
      | (refine isAc 17 ?_; refine do_R rfl (st_call rfl (c_eqBroker (adV b g r).1 r1 r2) (.cons (.agg (.cons (.same rfl) (.cons (.same rfl) (.cons (pur_l rfl rfl) (.cons (pur_l rfl rfl) .nil))))) (.cons (.same rfl) .nil)) rfl) rfl ?_)
      | (refine isLc 17 rfl ?_; refine lex_R rfl (by kernel_rfl) rfl (st_call rfl (c_eqBroker (adV b g r).1 r1 r2) (.cons (.agg (.cons (.same rfl) (.cons (.same rfl) (.cons (pur_l rfl rfl) (.cons (pur_l rfl rfl) .nil))))) (.cons (.same rfl) .nil)) rfl) rfl ?_)
      | refine aops_nil ?_
      | refine lex_done _ rfl (by kernel_rfl) ?_
      | refine aw_ct rfl ?_
      | refine aw_cf rfl ?_
      | refine aw_block ?_
      | refine then_n ?_
      | refine aw_skip ?_
      | refine aw_exit ?_
      | refine then_x ?_
      | refine then_r ?_
      | refine block_x ?_
      | refine block_n ?_
      | refine block_r ?_
      | refine aw_ret ?_
    refine do_br rfl rfl (fun h => by simp at h) (fun _ => ?_)
    repeat' first
      | refine aw_seq ?_
      | refine aw_region ?_
      | refine aw_lex [] ?_
      | (refine isA ?_; refine do_F rfl ?_)
      | (refine isL ?_; refine lex_F rfl (by kernel_rfl) rfl rfl ?_)
      | (refine isLg rfl ?_; refine lex_S rfl (by kernel_rfl) rfl rfl ?_)
      | refine aops_nil ?_
      | refine lex_done _ rfl (by kernel_rfl) ?_
      | refine aw_ct rfl ?_
      | refine aw_cf rfl ?_
      | refine aw_block ?_
      | refine then_n ?_
      | refine aw_skip ?_
      | refine aw_exit ?_
      | refine then_x ?_
      | refine then_r ?_
      | refine block_x ?_
      | refine block_n ?_
      | refine block_r ?_
      | refine aw_ret ?_
    refine aw_cond rfl (fun h => by simp at h) (fun _ => ?_)
    repeat' first
      | refine aw_seq ?_
      | refine aw_region ?_
      | refine aw_lex [] ?_
      | (refine isA ?_; refine do_F rfl ?_)
      | (refine isL ?_; refine lex_F rfl (by kernel_rfl) rfl rfl ?_)
      | (refine isLg rfl ?_; refine lex_S rfl (by kernel_rfl) rfl rfl ?_)
      | (refine isAc 22 ?_; refine do_R rfl (st_call rfl (c_toBroker _ g1 g2) (.cons (.same rfl) .nil) rfl) rfl ?_)
      | (refine isLc 22 rfl ?_; refine lex_R rfl (by kernel_rfl) rfl (st_call rfl (c_toBroker _ g1 g2) (.cons (.same rfl) .nil) rfl) rfl ?_)
      | (refine isAc 17 ?_; refine do_R rfl (st_call rfl (c_eqBroker b g1 g2) (.cons (.agg (.cons (.same rfl) (.cons (.same rfl) (.cons (pur_l rfl rfl) (.cons (pur_l rfl rfl) .nil))))) (.cons (.same rfl) .nil)) rfl) rfl ?_)
      | (refine isLc 17 rfl ?_; refine lex_R rfl (by kernel_rfl) rfl (st_call rfl (c_eqBroker b g1 g2) (.cons (.agg (.cons (.same rfl) (.cons (.same rfl) (.cons (pur_l rfl rfl) (.cons (pur_l rfl rfl) .nil))))) (.cons (.same rfl) .nil)) rfl) rfl ?_)
      | (refine isAc 18 ?_; refine do_R rfl (step_callMs (K := []) (Rs' := brK (mkA 1 b) (mkW 1 b)) [2, 3] (by decide) rfl (c_markBroker b 1 g1 g2) (.cons rfl rfl rfl (flat_noH _ _) (flat_noH _ _) (.cons rfl rfl rfl (flat_noH _ _) (flat_noH _ _) .nil)) (.cons (.agg (.cons (.same rfl) (.cons (.same rfl) (.cons (.sl rfl) (.cons (.sl rfl) .nil))))) (.cons (.same rfl) .nil)) (fun q hq => by cases hq) rfl) rfl ?_)
      | (refine isLc 18 rfl ?_; refine lex_R rfl (by kernel_rfl) rfl (step_callMs (K := []) (Rs' := brK (mkA 1 b) (mkW 1 b)) [2, 3] (by decide) rfl (c_markBroker b 1 g1 g2) (.cons rfl rfl rfl (flat_noH _ _) (flat_noH _ _) (.cons rfl rfl rfl (flat_noH _ _) (flat_noH _ _) .nil)) (.cons (.agg (.cons (.same rfl) (.cons (.same rfl) (.cons (.sl rfl) (.cons (.sl rfl) .nil))))) (.cons (.same rfl) .nil)) (fun q hq => by cases hq) rfl) rfl ?_)
      | refine aops_nil ?_
      | refine lex_done _ rfl (by kernel_rfl) ?_
      | refine aw_ct rfl ?_
      | refine aw_cf rfl ?_
      | refine aw_block ?_
      | refine then_n ?_
      | refine aw_skip ?_
      | refine aw_exit ?_
      | refine then_x ?_
      | refine then_r ?_
      | refine block_x ?_
      | refine block_n ?_
      | refine block_r ?_
      | refine aw_ret ?_
    refine do_br rfl rfl (fun h => by rw [hm] at h; cases h) (fun _ => ?_)
    repeat' first
      | refine aw_seq ?_
      | refine aw_region ?_
      | refine aw_lex [] ?_
      | (refine isA ?_; refine do_F rfl ?_)
      | (refine isL ?_; refine lex_F rfl (by kernel_rfl) rfl rfl ?_)
      | (refine isLg rfl ?_; refine lex_S rfl (by kernel_rfl) rfl rfl ?_)
      | (refine isAc 17 ?_; refine do_R rfl (st_call rfl (c_eqBroker (adV b g r).1 r1 r2) (.cons (.agg (.cons (.same rfl) (.cons (.same rfl) (.cons (pur_l rfl rfl) (.cons (pur_l rfl rfl) .nil))))) (.cons (.same rfl) .nil)) rfl) rfl ?_)
      | (refine isLc 17 rfl ?_; refine lex_R rfl (by kernel_rfl) rfl (st_call rfl (c_eqBroker (adV b g r).1 r1 r2) (.cons (.agg (.cons (.same rfl) (.cons (.same rfl) (.cons (pur_l rfl rfl) (.cons (pur_l rfl rfl) .nil))))) (.cons (.same rfl) .nil)) rfl) rfl ?_)
      | refine aops_nil ?_
      | refine lex_done _ rfl (by kernel_rfl) ?_
      | refine aw_ct rfl ?_
      | refine aw_cf rfl ?_
      | refine aw_block ?_
      | refine then_n ?_
      | refine aw_skip ?_
      | refine aw_exit ?_
      | refine then_x ?_
      | refine then_r ?_
      | refine block_x ?_
      | refine block_n ?_
      | refine block_r ?_
      | refine aw_ret ?_
    refine do_br rfl rfl (fun h => by simp at h) (fun _ => ?_)
    repeat' first
      | refine aw_seq ?_
      | refine aw_region ?_
      | refine aw_lex [] ?_
      | (refine isA ?_; refine do_F rfl ?_)
      | (refine isL ?_; refine lex_F rfl (by kernel_rfl) rfl rfl ?_)
      | (refine isLg rfl ?_; refine lex_S rfl (by kernel_rfl) rfl rfl ?_)
      | refine aops_nil ?_
      | refine lex_done _ rfl (by kernel_rfl) ?_
      | refine aw_ct rfl ?_
      | refine aw_cf rfl ?_
      | refine aw_block ?_
      | refine then_n ?_
      | refine aw_skip ?_
      | refine aw_exit ?_
      | refine then_x ?_
      | refine then_r ?_
      | refine block_x ?_
      | refine block_n ?_
      | refine block_r ?_
      | refine aw_ret ?_
    refine aw_cond rfl (fun h => by simp at h) (fun _ => ?_)
    repeat' first
      | refine aw_seq ?_
      | refine aw_region ?_
      | refine aw_lex [] ?_
      | (refine isA ?_; refine do_F rfl ?_)
      | (refine isL ?_; refine lex_F rfl (by kernel_rfl) rfl rfl ?_)
      | (refine isLg rfl ?_; refine lex_S rfl (by kernel_rfl) rfl rfl ?_)
      | (refine isAc 18 ?_; refine do_R rfl (step_callMs (K := []) (Rs' := brK (mkA 1 (adV b g r).1) (mkW 1 (adV b g r).1)) [5, 6] (by decide) rfl (c_markBroker (adV b g r).1 1 r1 r2) (.cons rfl rfl rfl (flat_noH _ _) (flat_noH _ _) (.cons rfl rfl rfl (flat_noH _ _) (flat_noH _ _) .nil)) (.cons (.agg (.cons (.same rfl) (.cons (.same rfl) (.cons (.sl rfl) (.cons (.sl rfl) .nil))))) (.cons (.same rfl) .nil)) (fun q hq => by cases hq) rfl) rfl ?_)
      | (refine isLc 18 rfl ?_; refine lex_R rfl (by kernel_rfl) rfl (step_callMs (K := []) (Rs' := brK (mkA 1 (adV b g r).1) (mkW 1 (adV b g r).1)) [5, 6] (by decide) rfl (c_markBroker (adV b g r).1 1 r1 r2) (.cons rfl rfl rfl (flat_noH _ _) (flat_noH _ _) (.cons rfl rfl rfl (flat_noH _ _) (flat_noH _ _) .nil)) (.cons (.agg (.cons (.same rfl) (.cons (.same rfl) (.cons (.sl rfl) (.cons (.sl rfl) .nil))))) (.cons (.same rfl) .nil)) (fun q hq => by cases hq) rfl) rfl ?_)
      | (refine isAc 19 ?_; refine do_R rfl (st_call rfl (c_heldBroker (adV b g r).1 r1 r2) (.cons (.agg (.cons (.same rfl) (.cons (.same rfl) (.cons (pur_L rfl rfl rfl hA.symm) (.cons (pur_L rfl rfl rfl hW.symm) .nil))))) (.cons (.same rfl) .nil)) rfl) rfl ?_)
      | (refine isLc 19 rfl ?_; refine lex_R rfl (by kernel_rfl) rfl (st_call rfl (c_heldBroker (adV b g r).1 r1 r2) (.cons (.agg (.cons (.same rfl) (.cons (.same rfl) (.cons (pur_L rfl rfl rfl hA.symm) (.cons (pur_L rfl rfl rfl hW.symm) .nil))))) (.cons (.same rfl) .nil)) rfl) rfl ?_)
      | refine aops_nil ?_
      | refine lex_done _ rfl (by kernel_rfl) ?_
      | refine aw_ct rfl ?_
      | refine aw_cf rfl ?_
      | refine aw_block ?_
      | refine then_n ?_
      | refine aw_skip ?_
      | refine aw_exit ?_
      | refine then_x ?_
      | refine then_r ?_
      | refine block_x ?_
      | refine block_n ?_
      | refine block_r ?_
      | refine aw_ret ?_
    refine aw_cond rfl (fun h => by rw [hm'] at h; cases h) (fun _ => ?_)
    repeat' first
      | refine aw_seq ?_
      | refine aw_region ?_
      | refine aw_lex [] ?_
      | (refine isA ?_; refine do_F rfl ?_)
      | (refine isL ?_; refine lex_F rfl (by kernel_rfl) rfl rfl ?_)
      | (refine isLg rfl ?_; refine lex_S rfl (by kernel_rfl) rfl rfl ?_)
      | refine aops_nil ?_
      | refine lex_done _ rfl (by kernel_rfl) ?_
      | refine aw_ct rfl ?_
      | refine aw_cf rfl ?_
      | refine aw_block ?_
      | refine then_n ?_
      | refine aw_skip ?_
      | refine aw_exit ?_
      | refine then_x ?_
      | refine then_r ?_
      | refine block_x ?_
      | refine block_n ?_
      | refine block_r ?_
      | refine aw_ret ?_
    refine aw_cond rfl (fun h => by simp at h) (fun _ => ?_)
    repeat' first
      | refine aw_seq ?_
      | refine aw_region ?_
      | refine aw_lex [] ?_
      | (refine isA ?_; refine do_F rfl ?_)
      | (refine isL ?_; refine lex_F rfl (by kernel_rfl) rfl rfl ?_)
      | (refine isLg rfl ?_; refine lex_S rfl (by kernel_rfl) rfl rfl ?_)
      | (refine isAc 22 ?_; refine do_R rfl (st_call rfl (c_toBroker _ g1 g2) (.cons (.same rfl) .nil) rfl) rfl ?_)
      | (refine isLc 22 rfl ?_; refine lex_R rfl (by kernel_rfl) rfl (st_call rfl (c_toBroker _ g1 g2) (.cons (.same rfl) .nil) rfl) rfl ?_)
      | (refine isAc 29 ?_; refine do_R rfl (st_call rfl ((c_iadd _ _ _ g1 g2).frozen (pur_br rfl)) (.cons (.same rfl) (.cons (.same rfl) (.cons (.same rfl) .nil))) rfl) rfl ?_)
      | (refine isLc 29 rfl ?_; refine lex_R rfl (by kernel_rfl) rfl (st_call rfl ((c_iadd _ _ _ g1 g2).frozen (pur_br rfl)) (.cons (.same rfl) (.cons (.same rfl) (.cons (.same rfl) .nil))) rfl) rfl ?_)
      | (refine isAc 17 ?_; refine do_R rfl (st_call rfl (c_eqBroker (adV b g r).1 r1 r2) (.cons (.same rfl) (.cons (.same rfl) .nil)) rfl) rfl ?_)
      | (refine isLc 17 rfl ?_; refine lex_R rfl (by kernel_rfl) rfl (st_call rfl (c_eqBroker (adV b g r).1 r1 r2) (.cons (.same rfl) (.cons (.same rfl) .nil)) rfl) rfl ?_)
      | refine aops_nil ?_
      | refine lex_done _ rfl (by kernel_rfl) ?_
      | refine aw_ct rfl ?_
      | refine aw_cf rfl ?_
      | refine aw_block ?_
      | refine then_n ?_
      | refine aw_skip ?_
      | refine aw_exit ?_
      | refine then_x ?_
      | refine then_r ?_
      | refine block_x ?_
      | refine block_n ?_
      | refine block_r ?_
      | refine aw_ret ?_
    refine do_br rfl rfl (fun h => by simp at h) (fun _ => ?_)
    repeat' first
      | refine aw_seq ?_
      | refine aw_region ?_
      | refine aw_lex [] ?_
      | (refine isA ?_; refine do_F rfl ?_)
      | (refine isL ?_; refine lex_F rfl (by kernel_rfl) rfl rfl ?_)
      | (refine isLg rfl ?_; refine lex_S rfl (by kernel_rfl) rfl rfl ?_)
      | refine aops_nil ?_
      | refine lex_done _ rfl (by kernel_rfl) ?_
      | refine aw_ct rfl ?_
      | refine aw_cf rfl ?_
      | refine aw_block ?_
      | refine then_n ?_
      | refine aw_skip ?_
      | refine aw_exit ?_
      | refine then_x ?_
      | refine then_r ?_
      | refine block_x ?_
      | refine block_n ?_
      | refine block_r ?_
      | refine aw_ret ?_
    refine aw_cond rfl (fun h => by simp at h) (fun _ => ?_)
    repeat' first
      | refine aw_seq ?_
      | refine aw_region ?_
      | refine aw_lex [] ?_
      | (refine isA ?_; refine do_F rfl ?_)
      | (refine isL ?_; refine lex_F rfl (by kernel_rfl) rfl rfl ?_)
      | (refine isLg rfl ?_; refine lex_S rfl (by kernel_rfl) rfl rfl ?_)
      | (refine isAc 19 ?_; refine do_R rfl (st_call rfl (c_heldBroker (adV b g r).1 r1 r2) (.cons (.agg (.cons (.same rfl) (.cons (.same rfl) (.cons (pur_L rfl rfl rfl hA.symm) (.cons (pur_L rfl rfl rfl hW.symm) .nil))))) (.cons (.same rfl) .nil)) rfl) rfl ?_)
      | (refine isLc 19 rfl ?_; refine lex_R rfl (by kernel_rfl) rfl (st_call rfl (c_heldBroker (adV b g r).1 r1 r2) (.cons (.agg (.cons (.same rfl) (.cons (.same rfl) (.cons (pur_L rfl rfl rfl hA.symm) (.cons (pur_L rfl rfl rfl hW.symm) .nil))))) (.cons (.same rfl) .nil)) rfl) rfl ?_)
      | refine aops_nil ?_
      | refine lex_done _ rfl (by kernel_rfl) ?_
      | refine aw_ct rfl ?_
      | refine aw_cf rfl ?_
      | refine aw_block ?_
      | refine then_n ?_
      | refine aw_skip ?_
      | refine aw_exit ?_
      | refine then_x ?_
      | refine then_r ?_
      | refine block_x ?_
      | refine block_n ?_
      | refine block_r ?_
      | refine aw_ret ?_
    refine aw_cond rfl (fun h => by rw [hm'] at h; cases h) (fun _ => ?_)
    repeat' first
      | refine aw_seq ?_
      | refine aw_region ?_
      | refine aw_lex [] ?_
      | (refine isA ?_; refine do_F rfl ?_)
      | (refine isL ?_; refine lex_F rfl (by kernel_rfl) rfl rfl ?_)
      | (refine isLg rfl ?_; refine lex_S rfl (by kernel_rfl) rfl rfl ?_)
      | refine aops_nil ?_
      | refine lex_done _ rfl (by kernel_rfl) ?_
      | refine aw_ct rfl ?_
      | refine aw_cf rfl ?_
      | refine aw_block ?_
      | refine then_n ?_
      | refine aw_skip ?_
      | refine aw_exit ?_
      | refine then_x ?_
      | refine then_r ?_
      | refine block_x ?_
      | refine block_n ?_
      | refine block_r ?_
      | refine aw_ret ?_
    refine aw_cond rfl (fun h => by simp at h) (fun _ => ?_)
    repeat' first
      | refine aw_seq ?_
      | refine aw_region ?_
      | refine aw_lex [] ?_
      | (refine isA ?_; refine do_F rfl ?_)
      | (refine isL ?_; refine lex_F rfl (by kernel_rfl) rfl rfl ?_)
      | (refine isLg rfl ?_; refine lex_S rfl (by kernel_rfl) rfl rfl ?_)
      | exact fin1 rfl rfl rfl
      | refine aops_nil ?_
      | refine lex_done _ rfl (by kernel_rfl) ?_
      | refine aw_ct rfl ?_
      | refine aw_cf rfl ?_
      | refine aw_block ?_
      | refine then_n ?_
      | refine aw_skip ?_
      | refine aw_exit ?_
      | refine then_x ?_
      | refine then_r ?_
      | refine block_x ?_
      | refine block_n ?_
      | refine block_r ?_
      | refine aw_ret ?_
end Go.Proofs.Ytjlhfemfmkdlhaa.Ab
