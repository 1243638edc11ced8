/-
  Brokers copied.
-/
import Derived.Test.YtjlhfemfmkdlhaaBrkJ
import Derived.Test.YtjlhfemfmkdlhaaAbV
namespace Go.Proofs.Ytjlhfemfmkdlhaa.Ab
open Go.RowKit
set_option linter.unusedVariables false
set_option linter.unusedSimpArgs false
set_option maxRecDepth 20000
set_option maxHeartbeats 2000000

theorem c_clone (b : Br) (h1 : b.act.length ≤ 1000000000) (h2 : b.wait.length ≤ 1000000000) : Meets Go.Proofs.Try.prog 80 [.agg (brE b)] [] (.agg (brO b)) (brK b.act b.wait) true := by
  refine meets_ofC 2 24 Go.Proofs.Try.func80 rfl rfl ?_
  simp only [Go.Proofs.Try.ntmps80, List.length_cons, List.length_nil, Nat.reduceAdd, Nat.reduceSub, List.replicate_succ, List.replicate_zero, List.cons_append, List.nil_append]
  repeat' first
    | refine aw_seq ?_
    | refine aw_region ?_
    | refine aw_lex [] ?_
    | (refine isA ?_; refine do_F rfl ?_)
    | (refine isL ?_; refine lex_F rfl (by kernel_rfl) rfl rfl ?_)
    | (refine isLg rfl ?_; refine lex_S rfl (by kernel_rfl) rfl rfl ?_)
    | (refine isAp ?_; refine do_R rfl (apn_l (T := clT) (xs := b.act) rfl rfl rfl rfl h1 rfl) rfl ?_)
    | (refine isAp ?_; refine do_R rfl (apn_l (T := clT) (xs := b.wait) rfl rfl rfl rfl h2 rfl) rfl ?_)
    | exact finMC [2, 3] (by decide) (cell_is rfl rfl rfl rfl rfl) (le_agg (les_cons (le_refl rfl) (les_cons (le_refl rfl) (les_cons (le_sl rfl rfl) (les_cons (le_sl rfl rfl) les_nil))))) (.cons rfl rfl rfl rfl (les_eq rfl (flat_noH _ _)) (.cons rfl rfl rfl rfl (les_eq rfl (flat_noH _ _)) .nil))
    | refine aops_nil ?_
    | refine lex_done _ rfl (by kernel_rfl) ?_
    | refine aw_ct rfl ?_
    | refine aw_cf rfl ?_
    | refine aw_block ?_
    | refine then_n ?_
    | refine aw_skip ?_
    | refine aw_exit ?_
    | refine then_x ?_
    | refine then_r ?_
    | refine block_x ?_
    | refine block_n ?_
    | refine block_r ?_
    | refine aw_ret ?_

theorem c_copy (b : Br) (h1 : b.act.length ≤ 1000000000) (h2 : b.wait.length ≤ 1000000000) : Meets Go.Proofs.Try.prog 79 [.agg (brE b)] [] (.agg (brO b)) (brK b.act b.wait) true := by
  refine meets_ofC 2 24 Go.Proofs.Try.func79 rfl rfl ?_
  simp only [Go.Proofs.Try.ntmps79, List.length_cons, List.length_nil, Nat.reduceAdd, Nat.reduceSub, List.replicate_succ, List.replicate_zero, List.cons_append, List.nil_append]
  refine aw_seq ?_
  refine aw_region ?_
  refine do_F rfl ?_
  refine do_F rfl ?_
  refine aops_nil ?_
  refine then_n ?_
  refine aw_seq ?_
  refine aw_perG (fun H => H[0]? = some ⟨24, 4, brE b, 0⟩) 14 rfl ?_
  refine perG_P 0 rfl rfl (by kernel_rfl) rfl (fun _ => rfl) rfl ?_
  refine perG_R 1 rfl rfl (by kernel_rfl) rfl (fun H hG => step_load_ptr rfl rfl hG (Nat.zero_le _) rfl) rfl ?_
  refine perG_P 2 rfl rfl (by kernel_rfl) rfl (fun _ => rfl) rfl ?_
  refine perG_R 3 rfl rfl (by kernel_rfl) rfl (fun H hG => step_load_ptr rfl rfl hG (Nat.zero_le _) rfl) rfl ?_
  refine perG_P 5 rfl rfl (by kernel_rfl) rfl (fun _ => rfl) rfl ?_
  refine perG_R 6 rfl rfl (by kernel_rfl) rfl (fun H hG => step_load_ptr rfl rfl hG (Nat.zero_le _) rfl) rfl ?_
  refine perG_P 9 rfl rfl (by kernel_rfl) rfl (fun _ => rfl) rfl ?_
  refine perG_R 10 rfl rfl (by kernel_rfl) rfl (fun H hG => step_load_ptr rfl rfl hG (Nat.zero_le _) rfl) rfl ?_
  refine perG_2 4 8 (by kernel_rfl) ?_ ?_
  · refine br_WF rfl rfl rfl rfl rfl ?_
    refine perG_2 7 8 (by kernel_rfl) ?_ ?_
    · refine br_W rfl rfl (ap_l (t := clT) (xs := []) (ys := b.act) rfl rfl rfl rfl (Src.lst _ _) (by simp; omega) rfl) rfl rfl ?_
      refine perG_1 8 (by kernel_rfl) ?_
      refine br_WF rfl rfl rfl rfl rfl ?_
      refine perG_1 11 (by kernel_rfl) ?_
      refine br_W rfl rfl (ap_l (t := clT) (xs := []) (ys := b.wait) rfl rfl rfl rfl (Src.lst _ _) (by simp; omega) rfl) rfl rfl ?_
      refine perG_P 12 rfl rfl (by kernel_rfl) rfl (fun _ => rfl) rfl ?_
      refine perG_1 13 (by kernel_rfl) ?_
      refine br_WF rfl rfl rfl rfl rfl ?_
      refine perG_done (by kernel_rfl) ?_
      repeat' first
        | refine aw_seq ?_
        | refine aw_region ?_
        | refine aw_lex [] ?_
        | (refine isA ?_; refine do_F rfl ?_)
        | (refine isL ?_; refine lex_F rfl (by kernel_rfl) rfl rfl ?_)
        | (refine isLg rfl ?_; refine lex_S rfl (by kernel_rfl) rfl rfl ?_)
        | exact finMC [3, 5] (by decide) (cell_is rfl rfl rfl rfl rfl) (le_agg (les_cons (le_refl rfl) (les_cons (le_refl rfl) (les_cons (le_sl rfl (by simp)) (les_cons (le_sl rfl (by simp)) les_nil))))) (.cons rfl rfl rfl rfl (les_eq rfl (flat_noH _ _)) (.cons rfl rfl rfl rfl (les_eq rfl (flat_noH _ _)) .nil))
        | refine aops_nil ?_
        | refine lex_done _ rfl (by kernel_rfl) ?_
        | refine aw_ct rfl ?_
        | refine aw_cf rfl ?_
        | refine aw_block ?_
        | refine then_n ?_
        | refine aw_skip ?_
        | refine aw_exit ?_
        | refine then_x ?_
        | refine then_r ?_
        | refine block_x ?_
        | refine block_n ?_
        | refine block_r ?_
        | refine aw_ret ?_
    · refine br_WF rfl rfl rfl rfl rfl ?_
      refine perG_1 7 (by kernel_rfl) ?_
      refine br_W rfl rfl (ap_l (t := clT) (xs := []) (ys := b.act) rfl rfl rfl rfl (Src.lst _ _) (by simp; omega) rfl) rfl rfl ?_
      refine perG_1 11 (by kernel_rfl) ?_
      refine br_W rfl rfl (ap_l (t := clT) (xs := []) (ys := b.wait) rfl rfl rfl rfl (Src.lst _ _) (by simp; omega) rfl) rfl rfl ?_
      refine perG_P 12 rfl rfl (by kernel_rfl) rfl (fun _ => rfl) rfl ?_
      refine perG_1 13 (by kernel_rfl) ?_
      refine br_WF rfl rfl rfl rfl rfl ?_
      refine perG_done (by kernel_rfl) ?_
      repeat' first
        | refine aw_seq ?_
        | refine aw_region ?_
        | refine aw_lex [] ?_
        | (refine isA ?_; refine do_F rfl ?_)
        | (refine isL ?_; refine lex_F rfl (by kernel_rfl) rfl rfl ?_)
        | (refine isLg rfl ?_; refine lex_S rfl (by kernel_rfl) rfl rfl ?_)
        | exact finMC [4, 5] (by decide) (cell_is rfl rfl rfl rfl rfl) (le_agg (les_cons (le_refl rfl) (les_cons (le_refl rfl) (les_cons (le_sl rfl (by simp)) (les_cons (le_sl rfl (by simp)) les_nil))))) (.cons rfl rfl rfl rfl (les_eq rfl (flat_noH _ _)) (.cons rfl rfl rfl rfl (les_eq rfl (flat_noH _ _)) .nil))
        | refine aops_nil ?_
        | refine lex_done _ rfl (by kernel_rfl) ?_
        | refine aw_ct rfl ?_
        | refine aw_cf rfl ?_
        | refine aw_block ?_
        | refine then_n ?_
        | refine aw_skip ?_
        | refine aw_exit ?_
        | refine then_x ?_
        | refine then_r ?_
        | refine block_x ?_
        | refine block_n ?_
        | refine block_r ?_
        | refine aw_ret ?_
  · refine br_WF rfl rfl rfl rfl rfl ?_
    refine perG_1 4 (by kernel_rfl) ?_
    refine br_WF rfl rfl rfl rfl rfl ?_
    refine perG_1 7 (by kernel_rfl) ?_
    refine br_W rfl rfl (ap_l (t := clT) (xs := []) (ys := b.act) rfl rfl rfl rfl (Src.lst _ _) (by simp; omega) rfl) rfl rfl ?_
    refine perG_1 11 (by kernel_rfl) ?_
    refine br_W rfl rfl (ap_l (t := clT) (xs := []) (ys := b.wait) rfl rfl rfl rfl (Src.lst _ _) (by simp; omega) rfl) rfl rfl ?_
    refine perG_P 12 rfl rfl (by kernel_rfl) rfl (fun _ => rfl) rfl ?_
    refine perG_1 13 (by kernel_rfl) ?_
    refine br_WF rfl rfl rfl rfl rfl ?_
    refine perG_done (by kernel_rfl) ?_
    repeat' first
      | refine aw_seq ?_
      | refine aw_region ?_
      | refine aw_lex [] ?_
      | (refine isA ?_; refine do_F rfl ?_)
      | (refine isL ?_; refine lex_F rfl (by kernel_rfl) rfl rfl ?_)
      | (refine isLg rfl ?_; refine lex_S rfl (by kernel_rfl) rfl rfl ?_)
      | exact finMC [4, 5] (by decide) (cell_is rfl rfl rfl rfl rfl) (le_agg (les_cons (le_refl rfl) (les_cons (le_refl rfl) (les_cons (le_sl rfl (by simp)) (les_cons (le_sl rfl (by simp)) les_nil))))) (.cons rfl rfl rfl rfl (les_eq rfl (flat_noH _ _)) (.cons rfl rfl rfl rfl (les_eq rfl (flat_noH _ _)) .nil))
      | refine aops_nil ?_
      | refine lex_done _ rfl (by kernel_rfl) ?_
      | refine aw_ct rfl ?_
      | refine aw_cf rfl ?_
      | refine aw_block ?_
      | refine then_n ?_
      | refine aw_skip ?_
      | refine aw_exit ?_
      | refine then_x ?_
      | refine then_r ?_
      | refine block_x ?_
      | refine block_n ?_
      | refine block_r ?_
      | refine aw_ret ?_
end Go.Proofs.Ytjlhfemfmkdlhaa.Ab
