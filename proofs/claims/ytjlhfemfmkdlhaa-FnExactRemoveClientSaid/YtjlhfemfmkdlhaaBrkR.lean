/-
  FnExactAddClient: both sides.
-/
import Derived.Test.YtjlhfemfmkdlhaaBrkP
namespace Go.Proofs.Ytjlhfemfmkdlhaa.Ab
open Go.RowKit
set_option linter.unusedVariables false
set_option linter.unusedSimpArgs false
set_option maxRecDepth 20000
set_option maxHeartbeats 2000000

def badA (b : Br) (g r : Int) : Bool := !validB b || (!inV g 8 60 || (!inV r 0 9 || (decide (b.next = 1000) || decide ((b.wait.length : Int) = 5))))
def adV (b : Br) (g r : Int) : Br × Int × Bool := cond (badA b g r) (b, 0, false) (cond (decide ((b.act.length : Int) < roomV b.pool)) (⟨b.pool, IntKind.i64.wrap (b.next + 1), b.act ++ [⟨b.next, g, r⟩], b.wait⟩, b.next, true) (⟨b.pool, IntKind.i64.wrap (b.next + 1), b.act, b.wait ++ [⟨b.next, g, r⟩]⟩, b.next, true))
theorem ad_no {b : Br} {g r : Int} (h : badA b g r = true) : adV b g r = (b, 0, false) := by rw [adV, h]; rfl
theorem ad_act {b : Br} {g r : Int} (h : badA b g r = false) (h' : decide ((b.act.length : Int) < roomV b.pool) = true) : adV b g r = (⟨b.pool, IntKind.i64.wrap (b.next + 1), b.act ++ [⟨b.next, g, r⟩], b.wait⟩, b.next, true) := by rw [adV, h, h']; rfl
theorem ad_wait {b : Br} {g r : Int} (h : badA b g r = false) (h' : decide ((b.act.length : Int) < roomV b.pool) = false) : adV b g r = (⟨b.pool, IntKind.i64.wrap (b.next + 1), b.act, b.wait ++ [⟨b.next, g, r⟩]⟩, b.next, true) := by rw [adV, h, h']; rfl
theorem adV_len (b : Br) (g r : Int) : (adV b g r).1.act.length ≤ b.act.length + 1 ∧ (adV b g r).1.wait.length ≤ b.wait.length + 1 := by
  unfold adV
  cases badA b g r <;> cases decide ((b.act.length : Int) < roomV b.pool) <;> simp
abbrev adR (p : Br × Int × Bool) : V := .tup [.agg (brO p.1), I p.2.1, B p.2.2]

theorem c_sadd (b : Br) (g r : Int) (h1 : b.act.length ≤ 1000000000) (h2 : b.wait.length ≤ 1000000000) : Meets Go.Proofs.Try.prog 28 [.agg (brE b), I g, I r] [] (adR (adV b g r)) (brK (adV b g r).1.act (adV b g r).1.wait) false := by
  refine meets_ofCT 6 24 [7, 8] Go.Proofs.Try.func28 rfl rfl rfl ?_
  simp only [Go.Proofs.Try.ntmps28, List.length_cons, List.length_nil, Nat.reduceAdd, Nat.reduceSub, List.replicate_succ, List.replicate_zero, List.cons_append, List.nil_append]
  repeat' first
    | refine aw_seq ?_
    | refine aw_region ?_
    | refine aw_lex [] ?_
    | (refine isA ?_; refine do_F rfl ?_)
    | (refine isL ?_; refine lex_F rfl (by kernel_rfl) rfl rfl ?_)
    | (refine isLg rfl ?_; refine lex_S rfl (by kernel_rfl) rfl rfl ?_)
    | (refine isAc 79 ?_; refine do_R rfl (st_callK rfl (c_copy _ h1 h2) (.cons (.same rfl) .nil) (brK_noH _ _) rfl rfl) rfl ?_)
    | (refine isLc 79 rfl ?_; refine lex_R rfl (by kernel_rfl) rfl (st_callK rfl (c_copy _ h1 h2) (.cons (.same rfl) .nil) (brK_noH _ _) rfl rfl) rfl ?_)
    | (refine isAc 24 ?_; refine do_R rfl (st_call rfl (c_svalid _ h1 h2) (.cons (.same rfl) .nil) rfl) rfl ?_)
    | (refine isLc 24 rfl ?_; refine lex_R rfl (by kernel_rfl) rfl (st_call rfl (c_svalid _ h1 h2) (.cons (.same rfl) .nil) rfl) rfl ?_)
    | refine aops_nil ?_
    | refine lex_done _ rfl (by kernel_rfl) ?_
    | refine aw_ct rfl ?_
    | refine aw_cf rfl ?_
    | refine aw_block ?_
    | refine then_n ?_
    | refine aw_skip ?_
    | refine aw_exit ?_
    | refine then_x ?_
    | refine then_r ?_
    | refine block_x ?_
    | refine block_n ?_
    | refine block_r ?_
    | refine aw_ret ?_
  refine do_br rfl rfl (fun k1 => ?_) (fun k1 => ?_)
  · repeat' first
      | refine aw_seq ?_
      | refine aw_region ?_
      | refine aw_lex [] ?_
      | (refine isA ?_; refine do_F rfl ?_)
      | (refine isL ?_; refine lex_F rfl (by kernel_rfl) rfl rfl ?_)
      | (refine isLg rfl ?_; refine lex_S rfl (by kernel_rfl) rfl rfl ?_)
      | exact (by rw [ad_no (by simp [badA, k1])]; exact finMCTf [2, 3] (by decide) (cell_is rfl rfl rfl rfl rfl) (le_tup (les_cons (le_agg (les_cons (le_refl rfl) (les_cons (le_refl rfl) (les_cons (le_sl rfl rfl) (les_cons (le_sl rfl rfl) les_nil))))) (les_cons (le_refl rfl) (les_cons (le_refl rfl) les_nil)))) (.cons rfl rfl rfl rfl (les_eq rfl (flat_noH _ _)) (.cons rfl rfl rfl rfl (les_eq rfl (flat_noH _ _)) .nil)) rfl (brK_flat _ _))
      | refine aops_nil ?_
      | refine lex_done _ rfl (by kernel_rfl) ?_
      | refine aw_ct rfl ?_
      | refine aw_cf rfl ?_
      | refine aw_block ?_
      | refine then_n ?_
      | refine aw_skip ?_
      | refine aw_exit ?_
      | refine then_x ?_
      | refine then_r ?_
      | refine block_x ?_
      | refine block_n ?_
      | refine block_r ?_
      | refine aw_ret ?_
  repeat' first
    | refine aw_seq ?_
    | refine aw_region ?_
    | refine aw_lex [] ?_
    | (refine isA ?_; refine do_F rfl ?_)
    | (refine isL ?_; refine lex_F rfl (by kernel_rfl) rfl rfl ?_)
    | (refine isLg rfl ?_; refine lex_S rfl (by kernel_rfl) rfl rfl ?_)
    | (refine isAc 65 ?_; refine do_R rfl (st_call rfl (c_in _ _ _) (.cons (.same rfl) (.cons (.same rfl) (.cons (.same rfl) .nil))) rfl) rfl ?_)
    | (refine isLc 65 rfl ?_; refine lex_R rfl (by kernel_rfl) rfl (st_call rfl (c_in _ _ _) (.cons (.same rfl) (.cons (.same rfl) (.cons (.same rfl) .nil))) rfl) rfl ?_)
    | refine aops_nil ?_
    | refine lex_done _ rfl (by kernel_rfl) ?_
    | refine aw_ct rfl ?_
    | refine aw_cf rfl ?_
    | refine aw_block ?_
    | refine then_n ?_
    | refine aw_skip ?_
    | refine aw_exit ?_
    | refine then_x ?_
    | refine then_r ?_
    | refine block_x ?_
    | refine block_n ?_
    | refine block_r ?_
    | refine aw_ret ?_
  refine do_br rfl rfl (fun k2 => ?_) (fun k2 => ?_)
  · repeat' first
      | refine aw_seq ?_
      | refine aw_region ?_
      | refine aw_lex [] ?_
      | (refine isA ?_; refine do_F rfl ?_)
      | (refine isL ?_; refine lex_F rfl (by kernel_rfl) rfl rfl ?_)
      | (refine isLg rfl ?_; refine lex_S rfl (by kernel_rfl) rfl rfl ?_)
      | exact (by rw [ad_no (by simp [badA, k2])]; exact finMCTf [2, 3] (by decide) (cell_is rfl rfl rfl rfl rfl) (le_tup (les_cons (le_agg (les_cons (le_refl rfl) (les_cons (le_refl rfl) (les_cons (le_sl rfl rfl) (les_cons (le_sl rfl rfl) les_nil))))) (les_cons (le_refl rfl) (les_cons (le_refl rfl) les_nil)))) (.cons rfl rfl rfl rfl (les_eq rfl (flat_noH _ _)) (.cons rfl rfl rfl rfl (les_eq rfl (flat_noH _ _)) .nil)) rfl (brK_flat _ _))
      | refine aops_nil ?_
      | refine lex_done _ rfl (by kernel_rfl) ?_
      | refine aw_ct rfl ?_
      | refine aw_cf rfl ?_
      | refine aw_block ?_
      | refine then_n ?_
      | refine aw_skip ?_
      | refine aw_exit ?_
      | refine then_x ?_
      | refine then_r ?_
      | refine block_x ?_
      | refine block_n ?_
      | refine block_r ?_
      | refine aw_ret ?_
  repeat' first
    | refine aw_seq ?_
    | refine aw_region ?_
    | refine aw_lex [] ?_
    | (refine isA ?_; refine do_F rfl ?_)
    | (refine isL ?_; refine lex_F rfl (by kernel_rfl) rfl rfl ?_)
    | (refine isLg rfl ?_; refine lex_S rfl (by kernel_rfl) rfl rfl ?_)
    | (refine isAc 65 ?_; refine do_R rfl (st_call rfl (c_in _ _ _) (.cons (.same rfl) (.cons (.same rfl) (.cons (.same rfl) .nil))) rfl) rfl ?_)
    | (refine isLc 65 rfl ?_; refine lex_R rfl (by kernel_rfl) rfl (st_call rfl (c_in _ _ _) (.cons (.same rfl) (.cons (.same rfl) (.cons (.same rfl) .nil))) rfl) rfl ?_)
    | refine aops_nil ?_
    | refine lex_done _ rfl (by kernel_rfl) ?_
    | refine aw_ct rfl ?_
    | refine aw_cf rfl ?_
    | refine aw_block ?_
    | refine then_n ?_
    | refine aw_skip ?_
    | refine aw_exit ?_
    | refine then_x ?_
    | refine then_r ?_
    | refine block_x ?_
    | refine block_n ?_
    | refine block_r ?_
    | refine aw_ret ?_
  refine do_br rfl rfl (fun k3 => ?_) (fun k3 => ?_)
  · repeat' first
      | refine aw_seq ?_
      | refine aw_region ?_
      | refine aw_lex [] ?_
      | (refine isA ?_; refine do_F rfl ?_)
      | (refine isL ?_; refine lex_F rfl (by kernel_rfl) rfl rfl ?_)
      | (refine isLg rfl ?_; refine lex_S rfl (by kernel_rfl) rfl rfl ?_)
      | exact (by rw [ad_no (by simp [badA, k3])]; exact finMCTf [2, 3] (by decide) (cell_is rfl rfl rfl rfl rfl) (le_tup (les_cons (le_agg (les_cons (le_refl rfl) (les_cons (le_refl rfl) (les_cons (le_sl rfl rfl) (les_cons (le_sl rfl rfl) les_nil))))) (les_cons (le_refl rfl) (les_cons (le_refl rfl) les_nil)))) (.cons rfl rfl rfl rfl (les_eq rfl (flat_noH _ _)) (.cons rfl rfl rfl rfl (les_eq rfl (flat_noH _ _)) .nil)) rfl (brK_flat _ _))
      | refine aops_nil ?_
      | refine lex_done _ rfl (by kernel_rfl) ?_
      | refine aw_ct rfl ?_
      | refine aw_cf rfl ?_
      | refine aw_block ?_
      | refine then_n ?_
      | refine aw_skip ?_
      | refine aw_exit ?_
      | refine then_x ?_
      | refine then_r ?_
      | refine block_x ?_
      | refine block_n ?_
      | refine block_r ?_
      | refine aw_ret ?_
  repeat' first
    | refine aw_seq ?_
    | refine aw_region ?_
    | refine aw_lex [] ?_
    | (refine isA ?_; refine do_F rfl ?_)
    | (refine isL ?_; refine lex_F rfl (by kernel_rfl) rfl rfl ?_)
    | (refine isLg rfl ?_; refine lex_S rfl (by kernel_rfl) rfl rfl ?_)
    | (refine isAc 65 ?_; refine do_R rfl (st_call rfl (c_in _ _ _) (.cons (.same rfl) (.cons (.same rfl) (.cons (.same rfl) .nil))) rfl) rfl ?_)
    | (refine isLc 65 rfl ?_; refine lex_R rfl (by kernel_rfl) rfl (st_call rfl (c_in _ _ _) (.cons (.same rfl) (.cons (.same rfl) (.cons (.same rfl) .nil))) rfl) rfl ?_)
    | refine aops_nil ?_
    | refine lex_done _ rfl (by kernel_rfl) ?_
    | refine aw_ct rfl ?_
    | refine aw_cf rfl ?_
    | refine aw_block ?_
    | refine then_n ?_
    | refine aw_skip ?_
    | refine aw_exit ?_
    | refine then_x ?_
    | refine then_r ?_
    | refine block_x ?_
    | refine block_n ?_
    | refine block_r ?_
    | refine aw_ret ?_
  refine do_br rfl rfl (fun k4 => ?_) (fun k4 => ?_)
  · repeat' first
      | refine aw_seq ?_
      | refine aw_region ?_
      | refine aw_lex [] ?_
      | (refine isA ?_; refine do_F rfl ?_)
      | (refine isL ?_; refine lex_F rfl (by kernel_rfl) rfl rfl ?_)
      | (refine isLg rfl ?_; refine lex_S rfl (by kernel_rfl) rfl rfl ?_)
      | exact (by rw [ad_no (by simp [badA, k4])]; exact finMCTf [2, 3] (by decide) (cell_is rfl rfl rfl rfl rfl) (le_tup (les_cons (le_agg (les_cons (le_refl rfl) (les_cons (le_refl rfl) (les_cons (le_sl rfl rfl) (les_cons (le_sl rfl rfl) les_nil))))) (les_cons (le_refl rfl) (les_cons (le_refl rfl) les_nil)))) (.cons rfl rfl rfl rfl (les_eq rfl (flat_noH _ _)) (.cons rfl rfl rfl rfl (les_eq rfl (flat_noH _ _)) .nil)) rfl (brK_flat _ _))
      | refine aops_nil ?_
      | refine lex_done _ rfl (by kernel_rfl) ?_
      | refine aw_ct rfl ?_
      | refine aw_cf rfl ?_
      | refine aw_block ?_
      | refine then_n ?_
      | refine aw_skip ?_
      | refine aw_exit ?_
      | refine then_x ?_
      | refine then_r ?_
      | refine block_x ?_
      | refine block_n ?_
      | refine block_r ?_
      | refine aw_ret ?_
  repeat' first
    | refine aw_seq ?_
    | refine aw_region ?_
    | refine aw_lex [] ?_
    | (refine isA ?_; refine do_F rfl ?_)
    | (refine isL ?_; refine lex_F rfl (by kernel_rfl) rfl rfl ?_)
    | (refine isLg rfl ?_; refine lex_S rfl (by kernel_rfl) rfl rfl ?_)
    | (refine isAc 65 ?_; refine do_R rfl (st_call rfl (c_in _ _ _) (.cons (.same rfl) (.cons (.same rfl) (.cons (.same rfl) .nil))) rfl) rfl ?_)
    | (refine isLc 65 rfl ?_; refine lex_R rfl (by kernel_rfl) rfl (st_call rfl (c_in _ _ _) (.cons (.same rfl) (.cons (.same rfl) (.cons (.same rfl) .nil))) rfl) rfl ?_)
    | refine aops_nil ?_
    | refine lex_done _ rfl (by kernel_rfl) ?_
    | refine aw_ct rfl ?_
    | refine aw_cf rfl ?_
    | refine aw_block ?_
    | refine then_n ?_
    | refine aw_skip ?_
    | refine aw_exit ?_
    | refine then_x ?_
    | refine then_r ?_
    | refine block_x ?_
    | refine block_n ?_
    | refine block_r ?_
    | refine aw_ret ?_
  refine aw_cond rfl (fun k5 => ?_) (fun k5 => ?_)
  · repeat' first
      | refine aw_seq ?_
      | refine aw_region ?_
      | refine aw_lex [] ?_
      | (refine isA ?_; refine do_F rfl ?_)
      | (refine isL ?_; refine lex_F rfl (by kernel_rfl) rfl rfl ?_)
      | (refine isLg rfl ?_; refine lex_S rfl (by kernel_rfl) rfl rfl ?_)
      | exact (by rw [ad_no (by simp [badA, k5])]; exact finMCTf [2, 3] (by decide) (cell_is rfl rfl rfl rfl rfl) (le_tup (les_cons (le_agg (les_cons (le_refl rfl) (les_cons (le_refl rfl) (les_cons (le_sl rfl rfl) (les_cons (le_sl rfl rfl) les_nil))))) (les_cons (le_refl rfl) (les_cons (le_refl rfl) les_nil)))) (.cons rfl rfl rfl rfl (les_eq rfl (flat_noH _ _)) (.cons rfl rfl rfl rfl (les_eq rfl (flat_noH _ _)) .nil)) rfl (brK_flat _ _))
      | refine aops_nil ?_
      | refine lex_done _ rfl (by kernel_rfl) ?_
      | refine aw_ct rfl ?_
      | refine aw_cf rfl ?_
      | refine aw_block ?_
      | refine then_n ?_
      | refine aw_skip ?_
      | refine aw_exit ?_
      | refine then_x ?_
      | refine then_r ?_
      | refine block_x ?_
      | refine block_n ?_
      | refine block_r ?_
      | refine aw_ret ?_
  have hb : badA b g r = false := by first | ((try simp only [Bool.not_eq_true', Bool.not_eq_false'] at *); simp only [badA, *, Bool.true_and, Bool.false_and, Bool.and_true, Bool.and_false, Bool.true_or, Bool.false_or, Bool.or_true, Bool.or_false, Bool.not_true, Bool.not_false, cond_true, cond_false]; done) | (simp_all [badA]; done) | (simp_all [badA]; intros; omega)
  repeat' first
    | refine aw_seq ?_
    | refine aw_region ?_
    | refine aw_lex [] ?_
    | (refine isA ?_; refine do_F rfl ?_)
    | (refine isL ?_; refine lex_F rfl (by kernel_rfl) rfl rfl ?_)
    | (refine isLg rfl ?_; refine lex_S rfl (by kernel_rfl) rfl rfl ?_)
    | (refine isAc 74 ?_; refine do_R rfl (st_call rfl (c_room _) (.cons (.same rfl) .nil) rfl) rfl ?_)
    | (refine isLc 74 rfl ?_; refine lex_R rfl (by kernel_rfl) rfl (st_call rfl (c_room _) (.cons (.same rfl) .nil) rfl) rfl ?_)
    | refine aops_nil ?_
    | refine lex_done _ rfl (by kernel_rfl) ?_
    | refine aw_ct rfl ?_
    | refine aw_cf rfl ?_
    | refine aw_block ?_
    | refine then_n ?_
    | refine aw_skip ?_
    | refine aw_exit ?_
    | refine then_x ?_
    | refine then_r ?_
    | refine block_x ?_
    | refine block_n ?_
    | refine block_r ?_
    | refine aw_ret ?_
  refine aw_cond rfl (fun k6 => ?_) (fun k6 => ?_)
  · repeat' first
      | refine aw_seq ?_
      | refine aw_region ?_
      | (refine isA ?_; refine do_F rfl ?_)
      | (refine isL ?_; refine lex_F rfl (by kernel_rfl) rfl rfl ?_)
      | (refine isLg rfl ?_; refine lex_S rfl (by kernel_rfl) rfl rfl ?_)
      | (refine isAp ?_; refine do_R rfl (ap_l (t := clT) (xs := b.act) (ys := [⟨b.next, g, r⟩]) rfl rfl rfl rfl (src_of rfl rfl rfl rfl) (by simp; omega) rfl) rfl ?_)
      | (refine isLp rfl ?_; refine lex_R rfl (by kernel_rfl) rfl (ap_l (t := clT) (xs := b.act) (ys := [⟨b.next, g, r⟩]) rfl rfl rfl rfl (src_of rfl rfl rfl rfl) (by simp; omega) rfl) rfl ?_)
      | refine aops_nil ?_
      | refine lex_done _ rfl (by kernel_rfl) ?_
      | refine aw_ct rfl ?_
      | refine aw_cf rfl ?_
      | refine aw_block ?_
      | refine then_n ?_
      | refine aw_skip ?_
      | refine aw_exit ?_
      | refine then_x ?_
      | refine then_r ?_
      | refine block_x ?_
      | refine block_n ?_
      | refine block_r ?_
      | refine aw_ret ?_
    refine aw_perG2 4 5 6 rfl ?_
    refine perG_R 0 ⟨rfl, rfl⟩ rfl (by kernel_rfl) rfl (fun H hG => rd_ag rfl rfl (hG.1.trans rfl) rfl rfl rfl) rfl ?_
    refine perG_P 1 ⟨rfl, rfl⟩ rfl (by kernel_rfl) rfl (fun _ => rfl) rfl ?_
    refine perG_R 2 ⟨rfl, rfl⟩ rfl (by kernel_rfl) rfl (fun H hG => rd_sc rfl rfl (hG.2.trans rfl) rfl rfl) rfl ?_
    refine perG_1 3 (by kernel_rfl) ?_
    refine br_W rfl rfl (store_ok (m := 0) (T := tab) TabC.ok rfl rfl rfl rfl rfl rfl rfl rfl rfl rfl) ⟨rfl, rfl⟩ rfl ?_
    refine perG_P 4 ⟨rfl, rfl⟩ rfl (by kernel_rfl) rfl (fun _ => rfl) rfl ?_
    refine perG_P 5 ⟨rfl, rfl⟩ rfl (by kernel_rfl) rfl (fun _ => rfl) rfl ?_
    refine perG_done (by kernel_rfl) ?_
    repeat' first
      | refine aw_seq ?_
      | refine aw_region ?_
      | refine aw_lex [] ?_
      | (refine isA ?_; refine do_F rfl ?_)
      | (refine isL ?_; refine lex_F rfl (by kernel_rfl) rfl rfl ?_)
      | (refine isLg rfl ?_; refine lex_S rfl (by kernel_rfl) rfl rfl ?_)
      | exact (by rw [ad_act hb k6]; exact finMCTf [7, 3] (by decide) (cell_is rfl rfl rfl rfl rfl) (le_tup (les_cons (le_agg (les_cons (le_refl rfl) (les_cons (le_refl rfl) (les_cons (le_sl rfl rfl) (les_cons (le_sl rfl rfl) les_nil))))) (les_cons (le_refl rfl) (les_cons (le_refl rfl) les_nil)))) (.cons rfl rfl rfl rfl (les_eq rfl (flat_noH _ _)) (.cons rfl rfl rfl rfl (les_eq rfl (flat_noH _ _)) .nil)) rfl (brK_flat _ _))
      | refine aops_nil ?_
      | refine lex_done _ rfl (by kernel_rfl) ?_
      | refine aw_ct rfl ?_
      | refine aw_cf rfl ?_
      | refine aw_block ?_
      | refine then_n ?_
      | refine aw_skip ?_
      | refine aw_exit ?_
      | refine then_x ?_
      | refine then_r ?_
      | refine block_x ?_
      | refine block_n ?_
      | refine block_r ?_
      | refine aw_ret ?_
  · repeat' first
      | refine aw_seq ?_
      | refine aw_region ?_
      | (refine isA ?_; refine do_F rfl ?_)
      | (refine isL ?_; refine lex_F rfl (by kernel_rfl) rfl rfl ?_)
      | (refine isLg rfl ?_; refine lex_S rfl (by kernel_rfl) rfl rfl ?_)
      | (refine isAp ?_; refine do_R rfl (ap_l (t := clT) (xs := b.wait) (ys := [⟨b.next, g, r⟩]) rfl rfl rfl rfl (src_of rfl rfl rfl rfl) (by simp; omega) rfl) rfl ?_)
      | (refine isLp rfl ?_; refine lex_R rfl (by kernel_rfl) rfl (ap_l (t := clT) (xs := b.wait) (ys := [⟨b.next, g, r⟩]) rfl rfl rfl rfl (src_of rfl rfl rfl rfl) (by simp; omega) rfl) rfl ?_)
      | refine aops_nil ?_
      | refine lex_done _ rfl (by kernel_rfl) ?_
      | refine aw_ct rfl ?_
      | refine aw_cf rfl ?_
      | refine aw_block ?_
      | refine then_n ?_
      | refine aw_skip ?_
      | refine aw_exit ?_
      | refine then_x ?_
      | refine then_r ?_
      | refine block_x ?_
      | refine block_n ?_
      | refine block_r ?_
      | refine aw_ret ?_
    refine aw_perG2 4 5 6 rfl ?_
    refine perG_R 0 ⟨rfl, rfl⟩ rfl (by kernel_rfl) rfl (fun H hG => rd_ag rfl rfl (hG.1.trans rfl) rfl rfl rfl) rfl ?_
    refine perG_P 1 ⟨rfl, rfl⟩ rfl (by kernel_rfl) rfl (fun _ => rfl) rfl ?_
    refine perG_R 2 ⟨rfl, rfl⟩ rfl (by kernel_rfl) rfl (fun H hG => rd_sc rfl rfl (hG.2.trans rfl) rfl rfl) rfl ?_
    refine perG_1 3 (by kernel_rfl) ?_
    refine br_W rfl rfl (store_ok (m := 0) (T := tab) TabC.ok rfl rfl rfl rfl rfl rfl rfl rfl rfl rfl) ⟨rfl, rfl⟩ rfl ?_
    refine perG_P 4 ⟨rfl, rfl⟩ rfl (by kernel_rfl) rfl (fun _ => rfl) rfl ?_
    refine perG_P 5 ⟨rfl, rfl⟩ rfl (by kernel_rfl) rfl (fun _ => rfl) rfl ?_
    refine perG_done (by kernel_rfl) ?_
    repeat' first
      | refine aw_seq ?_
      | refine aw_region ?_
      | refine aw_lex [] ?_
      | (refine isA ?_; refine do_F rfl ?_)
      | (refine isL ?_; refine lex_F rfl (by kernel_rfl) rfl rfl ?_)
      | (refine isLg rfl ?_; refine lex_S rfl (by kernel_rfl) rfl rfl ?_)
      | exact (by rw [ad_wait hb k6]; exact finMCTf [2, 7] (by decide) (cell_is rfl rfl rfl rfl rfl) (le_tup (les_cons (le_agg (les_cons (le_refl rfl) (les_cons (le_refl rfl) (les_cons (le_sl rfl rfl) (les_cons (le_sl rfl rfl) les_nil))))) (les_cons (le_refl rfl) (les_cons (le_refl rfl) les_nil)))) (.cons rfl rfl rfl rfl (les_eq rfl (flat_noH _ _)) (.cons rfl rfl rfl rfl (les_eq rfl (flat_noH _ _)) .nil)) rfl (brK_flat _ _))
      | refine aops_nil ?_
      | refine lex_done _ rfl (by kernel_rfl) ?_
      | refine aw_ct rfl ?_
      | refine aw_cf rfl ?_
      | refine aw_block ?_
      | refine then_n ?_
      | refine aw_skip ?_
      | refine aw_exit ?_
      | refine then_x ?_
      | refine then_r ?_
      | refine block_x ?_
      | refine block_n ?_
      | refine block_r ?_
      | refine aw_ret ?_

theorem c_iadd (b : Br) (g r : Int) (h1 : b.act.length ≤ 1000000000) (h2 : b.wait.length ≤ 1000000000) : Meets Go.Proofs.Try.prog 29 [.agg (brE b), I g, I r] [] (adR (adV b g r)) (brK (adV b g r).1.act (adV b g r).1.wait) false := by
  refine meets_ofCT 6 24 [7, 8] Go.Proofs.Try.func29 rfl rfl rfl ?_
  simp only [Go.Proofs.Try.ntmps29, List.length_cons, List.length_nil, Nat.reduceAdd, Nat.reduceSub, List.replicate_succ, List.replicate_zero, List.cons_append, List.nil_append]
  repeat' first
    | refine aw_seq ?_
    | refine aw_region ?_
    | refine aw_lex [] ?_
    | (refine isA ?_; refine do_F rfl ?_)
    | (refine isL ?_; refine lex_F rfl (by kernel_rfl) rfl rfl ?_)
    | (refine isLg rfl ?_; refine lex_S rfl (by kernel_rfl) rfl rfl ?_)
    | (refine isAc 80 ?_; refine do_R rfl (st_callK rfl (c_clone _ h1 h2) (.cons (.same rfl) .nil) (brK_noH _ _) rfl rfl) rfl ?_)
    | (refine isLc 80 rfl ?_; refine lex_R rfl (by kernel_rfl) rfl (st_callK rfl (c_clone _ h1 h2) (.cons (.same rfl) .nil) (brK_noH _ _) rfl rfl) rfl ?_)
    | (refine isAc 25 ?_; refine do_R rfl (st_call rfl (c_ivalid _ h1 h2) (.cons (.same rfl) .nil) rfl) rfl ?_)
    | (refine isLc 25 rfl ?_; refine lex_R rfl (by kernel_rfl) rfl (st_call rfl (c_ivalid _ h1 h2) (.cons (.same rfl) .nil) rfl) rfl ?_)
    | refine aops_nil ?_
    | refine lex_done _ rfl (by kernel_rfl) ?_
    | refine aw_ct rfl ?_
    | refine aw_cf rfl ?_
    | refine aw_block ?_
    | refine then_n ?_
    | refine aw_skip ?_
    | refine aw_exit ?_
    | refine then_x ?_
    | refine then_r ?_
    | refine block_x ?_
    | refine block_n ?_
    | refine block_r ?_
    | refine aw_ret ?_
  refine do_br rfl rfl (fun k1 => ?_) (fun k1 => ?_)
  · repeat' first
      | refine aw_seq ?_
      | refine aw_region ?_
      | refine aw_lex [] ?_
      | (refine isA ?_; refine do_F rfl ?_)
      | (refine isL ?_; refine lex_F rfl (by kernel_rfl) rfl rfl ?_)
      | (refine isLg rfl ?_; refine lex_S rfl (by kernel_rfl) rfl rfl ?_)
      | exact (by rw [ad_no (by simp [badA, k1])]; exact finMCTf [2, 3] (by decide) (cell_is rfl rfl rfl rfl rfl) (le_tup (les_cons (le_agg (les_cons (le_refl rfl) (les_cons (le_refl rfl) (les_cons (le_sl rfl rfl) (les_cons (le_sl rfl rfl) les_nil))))) (les_cons (le_refl rfl) (les_cons (le_refl rfl) les_nil)))) (.cons rfl rfl rfl rfl (les_eq rfl (flat_noH _ _)) (.cons rfl rfl rfl rfl (les_eq rfl (flat_noH _ _)) .nil)) rfl (brK_flat _ _))
      | refine aops_nil ?_
      | refine lex_done _ rfl (by kernel_rfl) ?_
      | refine aw_ct rfl ?_
      | refine aw_cf rfl ?_
      | refine aw_block ?_
      | refine then_n ?_
      | refine aw_skip ?_
      | refine aw_exit ?_
      | refine then_x ?_
      | refine then_r ?_
      | refine block_x ?_
      | refine block_n ?_
      | refine block_r ?_
      | refine aw_ret ?_
  repeat' first
    | refine aw_seq ?_
    | refine aw_region ?_
    | refine aw_lex [] ?_
    | (refine isA ?_; refine do_F rfl ?_)
    | (refine isL ?_; refine lex_F rfl (by kernel_rfl) rfl rfl ?_)
    | (refine isLg rfl ?_; refine lex_S rfl (by kernel_rfl) rfl rfl ?_)
    | (refine isAc 66 ?_; refine do_R rfl (st_call rfl (c_within _ _ _) (.cons (.same rfl) (.cons (.same rfl) (.cons (.same rfl) .nil))) rfl) rfl ?_)
    | (refine isLc 66 rfl ?_; refine lex_R rfl (by kernel_rfl) rfl (st_call rfl (c_within _ _ _) (.cons (.same rfl) (.cons (.same rfl) (.cons (.same rfl) .nil))) rfl) rfl ?_)
    | (refine isAc 81 ?_; refine do_R rfl (st_call rfl (c_isGrant _) (.cons (.same rfl) .nil) rfl) rfl ?_)
    | (refine isLc 81 rfl ?_; refine lex_R rfl (by kernel_rfl) rfl (st_call rfl (c_isGrant _) (.cons (.same rfl) .nil) rfl) rfl ?_)
    | refine aops_nil ?_
    | refine lex_done _ rfl (by kernel_rfl) ?_
    | refine aw_ct rfl ?_
    | refine aw_cf rfl ?_
    | refine aw_block ?_
    | refine then_n ?_
    | refine aw_skip ?_
    | refine aw_exit ?_
    | refine then_x ?_
    | refine then_r ?_
    | refine block_x ?_
    | refine block_n ?_
    | refine block_r ?_
    | refine aw_ret ?_
  refine do_br rfl rfl (fun k2 => ?_) (fun k2 => ?_)
  · repeat' first
      | refine aw_seq ?_
      | refine aw_region ?_
      | refine aw_lex [] ?_
      | (refine isA ?_; refine do_F rfl ?_)
      | (refine isL ?_; refine lex_F rfl (by kernel_rfl) rfl rfl ?_)
      | (refine isLg rfl ?_; refine lex_S rfl (by kernel_rfl) rfl rfl ?_)
      | exact (by rw [ad_no (by simp [badA, k2])]; exact finMCTf [2, 3] (by decide) (cell_is rfl rfl rfl rfl rfl) (le_tup (les_cons (le_agg (les_cons (le_refl rfl) (les_cons (le_refl rfl) (les_cons (le_sl rfl rfl) (les_cons (le_sl rfl rfl) les_nil))))) (les_cons (le_refl rfl) (les_cons (le_refl rfl) les_nil)))) (.cons rfl rfl rfl rfl (les_eq rfl (flat_noH _ _)) (.cons rfl rfl rfl rfl (les_eq rfl (flat_noH _ _)) .nil)) rfl (brK_flat _ _))
      | refine aops_nil ?_
      | refine lex_done _ rfl (by kernel_rfl) ?_
      | refine aw_ct rfl ?_
      | refine aw_cf rfl ?_
      | refine aw_block ?_
      | refine then_n ?_
      | refine aw_skip ?_
      | refine aw_exit ?_
      | refine then_x ?_
      | refine then_r ?_
      | refine block_x ?_
      | refine block_n ?_
      | refine block_r ?_
      | refine aw_ret ?_
  repeat' first
    | refine aw_seq ?_
    | refine aw_region ?_
    | refine aw_lex [] ?_
    | (refine isA ?_; refine do_F rfl ?_)
    | (refine isL ?_; refine lex_F rfl (by kernel_rfl) rfl rfl ?_)
    | (refine isLg rfl ?_; refine lex_S rfl (by kernel_rfl) rfl rfl ?_)
    | (refine isAc 66 ?_; refine do_R rfl (st_call rfl (c_within _ _ _) (.cons (.same rfl) (.cons (.same rfl) (.cons (.same rfl) .nil))) rfl) rfl ?_)
    | (refine isLc 66 rfl ?_; refine lex_R rfl (by kernel_rfl) rfl (st_call rfl (c_within _ _ _) (.cons (.same rfl) (.cons (.same rfl) (.cons (.same rfl) .nil))) rfl) rfl ?_)
    | (refine isAc 81 ?_; refine do_R rfl (st_call rfl (c_isGrant _) (.cons (.same rfl) .nil) rfl) rfl ?_)
    | (refine isLc 81 rfl ?_; refine lex_R rfl (by kernel_rfl) rfl (st_call rfl (c_isGrant _) (.cons (.same rfl) .nil) rfl) rfl ?_)
    | refine aops_nil ?_
    | refine lex_done _ rfl (by kernel_rfl) ?_
    | refine aw_ct rfl ?_
    | refine aw_cf rfl ?_
    | refine aw_block ?_
    | refine then_n ?_
    | refine aw_skip ?_
    | refine aw_exit ?_
    | refine then_x ?_
    | refine then_r ?_
    | refine block_x ?_
    | refine block_n ?_
    | refine block_r ?_
    | refine aw_ret ?_
  refine do_br rfl rfl (fun k3 => ?_) (fun k3 => ?_)
  · repeat' first
      | refine aw_seq ?_
      | refine aw_region ?_
      | refine aw_lex [] ?_
      | (refine isA ?_; refine do_F rfl ?_)
      | (refine isL ?_; refine lex_F rfl (by kernel_rfl) rfl rfl ?_)
      | (refine isLg rfl ?_; refine lex_S rfl (by kernel_rfl) rfl rfl ?_)
      | exact (by rw [ad_no (by simp [badA, k3])]; exact finMCTf [2, 3] (by decide) (cell_is rfl rfl rfl rfl rfl) (le_tup (les_cons (le_agg (les_cons (le_refl rfl) (les_cons (le_refl rfl) (les_cons (le_sl rfl rfl) (les_cons (le_sl rfl rfl) les_nil))))) (les_cons (le_refl rfl) (les_cons (le_refl rfl) les_nil)))) (.cons rfl rfl rfl rfl (les_eq rfl (flat_noH _ _)) (.cons rfl rfl rfl rfl (les_eq rfl (flat_noH _ _)) .nil)) rfl (brK_flat _ _))
      | refine aops_nil ?_
      | refine lex_done _ rfl (by kernel_rfl) ?_
      | refine aw_ct rfl ?_
      | refine aw_cf rfl ?_
      | refine aw_block ?_
      | refine then_n ?_
      | refine aw_skip ?_
      | refine aw_exit ?_
      | refine then_x ?_
      | refine then_r ?_
      | refine block_x ?_
      | refine block_n ?_
      | refine block_r ?_
      | refine aw_ret ?_
  repeat' first
    | refine aw_seq ?_
    | refine aw_region ?_
    | refine aw_lex [] ?_
    | (refine isA ?_; refine do_F rfl ?_)
    | (refine isL ?_; refine lex_F rfl (by kernel_rfl) rfl rfl ?_)
    | (refine isLg rfl ?_; refine lex_S rfl (by kernel_rfl) rfl rfl ?_)
    | (refine isAc 66 ?_; refine do_R rfl (st_call rfl (c_within _ _ _) (.cons (.same rfl) (.cons (.same rfl) (.cons (.same rfl) .nil))) rfl) rfl ?_)
    | (refine isLc 66 rfl ?_; refine lex_R rfl (by kernel_rfl) rfl (st_call rfl (c_within _ _ _) (.cons (.same rfl) (.cons (.same rfl) (.cons (.same rfl) .nil))) rfl) rfl ?_)
    | (refine isAc 81 ?_; refine do_R rfl (st_call rfl (c_isGrant _) (.cons (.same rfl) .nil) rfl) rfl ?_)
    | (refine isLc 81 rfl ?_; refine lex_R rfl (by kernel_rfl) rfl (st_call rfl (c_isGrant _) (.cons (.same rfl) .nil) rfl) rfl ?_)
    | refine aops_nil ?_
    | refine lex_done _ rfl (by kernel_rfl) ?_
    | refine aw_ct rfl ?_
    | refine aw_cf rfl ?_
    | refine aw_block ?_
    | refine then_n ?_
    | refine aw_skip ?_
    | refine aw_exit ?_
    | refine then_x ?_
    | refine then_r ?_
    | refine block_x ?_
    | refine block_n ?_
    | refine block_r ?_
    | refine aw_ret ?_
  refine do_br rfl rfl (fun k4 => ?_) (fun k4 => ?_)
  · repeat' first
      | refine aw_seq ?_
      | refine aw_region ?_
      | refine aw_lex [] ?_
      | (refine isA ?_; refine do_F rfl ?_)
      | (refine isL ?_; refine lex_F rfl (by kernel_rfl) rfl rfl ?_)
      | (refine isLg rfl ?_; refine lex_S rfl (by kernel_rfl) rfl rfl ?_)
      | exact (by rw [ad_no (by simp [badA, k4])]; exact finMCTf [2, 3] (by decide) (cell_is rfl rfl rfl rfl rfl) (le_tup (les_cons (le_agg (les_cons (le_refl rfl) (les_cons (le_refl rfl) (les_cons (le_sl rfl rfl) (les_cons (le_sl rfl rfl) les_nil))))) (les_cons (le_refl rfl) (les_cons (le_refl rfl) les_nil)))) (.cons rfl rfl rfl rfl (les_eq rfl (flat_noH _ _)) (.cons rfl rfl rfl rfl (les_eq rfl (flat_noH _ _)) .nil)) rfl (brK_flat _ _))
      | refine aops_nil ?_
      | refine lex_done _ rfl (by kernel_rfl) ?_
      | refine aw_ct rfl ?_
      | refine aw_cf rfl ?_
      | refine aw_block ?_
      | refine then_n ?_
      | refine aw_skip ?_
      | refine aw_exit ?_
      | refine then_x ?_
      | refine then_r ?_
      | refine block_x ?_
      | refine block_n ?_
      | refine block_r ?_
      | refine aw_ret ?_
  repeat' first
    | refine aw_seq ?_
    | refine aw_region ?_
    | refine aw_lex [] ?_
    | (refine isA ?_; refine do_F rfl ?_)
    | (refine isL ?_; refine lex_F rfl (by kernel_rfl) rfl rfl ?_)
    | (refine isLg rfl ?_; refine lex_S rfl (by kernel_rfl) rfl rfl ?_)
    | (refine isAc 66 ?_; refine do_R rfl (st_call rfl (c_within _ _ _) (.cons (.same rfl) (.cons (.same rfl) (.cons (.same rfl) .nil))) rfl) rfl ?_)
    | (refine isLc 66 rfl ?_; refine lex_R rfl (by kernel_rfl) rfl (st_call rfl (c_within _ _ _) (.cons (.same rfl) (.cons (.same rfl) (.cons (.same rfl) .nil))) rfl) rfl ?_)
    | (refine isAc 81 ?_; refine do_R rfl (st_call rfl (c_isGrant _) (.cons (.same rfl) .nil) rfl) rfl ?_)
    | (refine isLc 81 rfl ?_; refine lex_R rfl (by kernel_rfl) rfl (st_call rfl (c_isGrant _) (.cons (.same rfl) .nil) rfl) rfl ?_)
    | refine aops_nil ?_
    | refine lex_done _ rfl (by kernel_rfl) ?_
    | refine aw_ct rfl ?_
    | refine aw_cf rfl ?_
    | refine aw_block ?_
    | refine then_n ?_
    | refine aw_skip ?_
    | refine aw_exit ?_
    | refine then_x ?_
    | refine then_r ?_
    | refine block_x ?_
    | refine block_n ?_
    | refine block_r ?_
    | refine aw_ret ?_
  refine aw_cond rfl (fun k5 => ?_) (fun k5 => ?_)
  · repeat' first
      | refine aw_seq ?_
      | refine aw_region ?_
      | refine aw_lex [] ?_
      | (refine isA ?_; refine do_F rfl ?_)
      | (refine isL ?_; refine lex_F rfl (by kernel_rfl) rfl rfl ?_)
      | (refine isLg rfl ?_; refine lex_S rfl (by kernel_rfl) rfl rfl ?_)
      | exact (by rw [ad_no (by simp [badA, k5])]; exact finMCTf [2, 3] (by decide) (cell_is rfl rfl rfl rfl rfl) (le_tup (les_cons (le_agg (les_cons (le_refl rfl) (les_cons (le_refl rfl) (les_cons (le_sl rfl rfl) (les_cons (le_sl rfl rfl) les_nil))))) (les_cons (le_refl rfl) (les_cons (le_refl rfl) les_nil)))) (.cons rfl rfl rfl rfl (les_eq rfl (flat_noH _ _)) (.cons rfl rfl rfl rfl (les_eq rfl (flat_noH _ _)) .nil)) rfl (brK_flat _ _))
      | refine aops_nil ?_
      | refine lex_done _ rfl (by kernel_rfl) ?_
      | refine aw_ct rfl ?_
      | refine aw_cf rfl ?_
      | refine aw_block ?_
      | refine then_n ?_
      | refine aw_skip ?_
      | refine aw_exit ?_
      | refine then_x ?_
      | refine then_r ?_
      | refine block_x ?_
      | refine block_n ?_
      | refine block_r ?_
      | refine aw_ret ?_
  have hb : badA b g r = false := by first | ((try simp only [Bool.not_eq_true', Bool.not_eq_false'] at *); simp only [badA, *, Bool.true_and, Bool.false_and, Bool.and_true, Bool.and_false, Bool.true_or, Bool.false_or, Bool.or_true, Bool.or_false, Bool.not_true, Bool.not_false, cond_true, cond_false]; done) | (simp_all [badA]; done) | (simp_all [badA]; intros; omega)
  repeat' first
    | refine aw_seq ?_
    | refine aw_region ?_
    | refine aw_lex [] ?_
    | (refine isA ?_; refine do_F rfl ?_)
    | (refine isL ?_; refine lex_F rfl (by kernel_rfl) rfl rfl ?_)
    | (refine isLg rfl ?_; refine lex_S rfl (by kernel_rfl) rfl rfl ?_)
    | (refine isAc 77 ?_; refine do_R rfl (st_call rfl (c_iroom ⟨b.pool, IntKind.i64.wrap (b.next + 1), b.act, b.wait⟩) (.cons (.agg (.cons (.same rfl) (.cons (.same rfl) (.cons (pur_l rfl rfl) (.cons (pur_l rfl rfl) .nil))))) .nil) rfl) rfl ?_)
    | (refine isLc 77 rfl ?_; refine lex_R rfl (by kernel_rfl) rfl (st_call rfl (c_iroom ⟨b.pool, IntKind.i64.wrap (b.next + 1), b.act, b.wait⟩) (.cons (.agg (.cons (.same rfl) (.cons (.same rfl) (.cons (pur_l rfl rfl) (.cons (pur_l rfl rfl) .nil))))) .nil) rfl) rfl ?_)
    | refine aops_nil ?_
    | refine lex_done _ rfl (by kernel_rfl) ?_
    | refine aw_ct rfl ?_
    | refine aw_cf rfl ?_
    | refine aw_block ?_
    | refine then_n ?_
    | refine aw_skip ?_
    | refine aw_exit ?_
    | refine then_x ?_
    | refine then_r ?_
    | refine block_x ?_
    | refine block_n ?_
    | refine block_r ?_
    | refine aw_ret ?_
  refine aw_cond rfl (fun k6 => ?_) (fun k6 => ?_)
  · repeat' first
      | refine aw_seq ?_
      | refine aw_region ?_
      | (refine isA ?_; refine do_F rfl ?_)
      | (refine isL ?_; refine lex_F rfl (by kernel_rfl) rfl rfl ?_)
      | (refine isLg rfl ?_; refine lex_S rfl (by kernel_rfl) rfl rfl ?_)
      | (refine isAp ?_; refine do_R rfl (ap_l (t := clT) (xs := b.act) (ys := [⟨b.next, g, r⟩]) rfl rfl rfl rfl (src_of rfl rfl rfl rfl) (by simp; omega) rfl) rfl ?_)
      | (refine isLp rfl ?_; refine lex_R rfl (by kernel_rfl) rfl (ap_l (t := clT) (xs := b.act) (ys := [⟨b.next, g, r⟩]) rfl rfl rfl rfl (src_of rfl rfl rfl rfl) (by simp; omega) rfl) rfl ?_)
      | refine aops_nil ?_
      | refine lex_done _ rfl (by kernel_rfl) ?_
      | refine aw_ct rfl ?_
      | refine aw_cf rfl ?_
      | refine aw_block ?_
      | refine then_n ?_
      | refine aw_skip ?_
      | refine aw_exit ?_
      | refine then_x ?_
      | refine then_r ?_
      | refine block_x ?_
      | refine block_n ?_
      | refine block_r ?_
      | refine aw_ret ?_
    refine aw_perG2 4 5 6 rfl ?_
    refine perG_R 0 ⟨rfl, rfl⟩ rfl (by kernel_rfl) rfl (fun H hG => rd_ag rfl rfl (hG.1.trans rfl) rfl rfl rfl) rfl ?_
    refine perG_P 1 ⟨rfl, rfl⟩ rfl (by kernel_rfl) rfl (fun _ => rfl) rfl ?_
    refine perG_R 2 ⟨rfl, rfl⟩ rfl (by kernel_rfl) rfl (fun H hG => rd_sc rfl rfl (hG.2.trans rfl) rfl rfl) rfl ?_
    refine perG_1 3 (by kernel_rfl) ?_
    refine br_W rfl rfl (store_ok (m := 0) (T := tab) TabC.ok rfl rfl rfl rfl rfl rfl rfl rfl rfl rfl) ⟨rfl, rfl⟩ rfl ?_
    refine perG_P 4 ⟨rfl, rfl⟩ rfl (by kernel_rfl) rfl (fun _ => rfl) rfl ?_
    refine perG_P 5 ⟨rfl, rfl⟩ rfl (by kernel_rfl) rfl (fun _ => rfl) rfl ?_
    refine perG_done (by kernel_rfl) ?_
    repeat' first
      | refine aw_seq ?_
      | refine aw_region ?_
      | refine aw_lex [] ?_
      | (refine isA ?_; refine do_F rfl ?_)
      | (refine isL ?_; refine lex_F rfl (by kernel_rfl) rfl rfl ?_)
      | (refine isLg rfl ?_; refine lex_S rfl (by kernel_rfl) rfl rfl ?_)
      | exact (by rw [ad_act hb k6]; exact finMCTf [7, 3] (by decide) (cell_is rfl rfl rfl rfl rfl) (le_tup (les_cons (le_agg (les_cons (le_refl rfl) (les_cons (le_refl rfl) (les_cons (le_sl rfl rfl) (les_cons (le_sl rfl rfl) les_nil))))) (les_cons (le_refl rfl) (les_cons (le_refl rfl) les_nil)))) (.cons rfl rfl rfl rfl (les_eq rfl (flat_noH _ _)) (.cons rfl rfl rfl rfl (les_eq rfl (flat_noH _ _)) .nil)) rfl (brK_flat _ _))
      | refine aops_nil ?_
      | refine lex_done _ rfl (by kernel_rfl) ?_
      | refine aw_ct rfl ?_
      | refine aw_cf rfl ?_
      | refine aw_block ?_
      | refine then_n ?_
      | refine aw_skip ?_
      | refine aw_exit ?_
      | refine then_x ?_
      | refine then_r ?_
      | refine block_x ?_
      | refine block_n ?_
      | refine block_r ?_
      | refine aw_ret ?_
  · repeat' first
      | refine aw_seq ?_
      | refine aw_region ?_
      | (refine isA ?_; refine do_F rfl ?_)
      | (refine isL ?_; refine lex_F rfl (by kernel_rfl) rfl rfl ?_)
      | (refine isLg rfl ?_; refine lex_S rfl (by kernel_rfl) rfl rfl ?_)
      | (refine isAp ?_; refine do_R rfl (ap_l (t := clT) (xs := b.wait) (ys := [⟨b.next, g, r⟩]) rfl rfl rfl rfl (src_of rfl rfl rfl rfl) (by simp; omega) rfl) rfl ?_)
      | (refine isLp rfl ?_; refine lex_R rfl (by kernel_rfl) rfl (ap_l (t := clT) (xs := b.wait) (ys := [⟨b.next, g, r⟩]) rfl rfl rfl rfl (src_of rfl rfl rfl rfl) (by simp; omega) rfl) rfl ?_)
      | refine aops_nil ?_
      | refine lex_done _ rfl (by kernel_rfl) ?_
      | refine aw_ct rfl ?_
      | refine aw_cf rfl ?_
      | refine aw_block ?_
      | refine then_n ?_
      | refine aw_skip ?_
      | refine aw_exit ?_
      | refine then_x ?_
      | refine then_r ?_
      | refine block_x ?_
      | refine block_n ?_
      | refine block_r ?_
      | refine aw_ret ?_
    refine aw_perG2 4 5 6 rfl ?_
    refine perG_R 0 ⟨rfl, rfl⟩ rfl (by kernel_rfl) rfl (fun H hG => rd_ag rfl rfl (hG.1.trans rfl) rfl rfl rfl) rfl ?_
    refine perG_P 1 ⟨rfl, rfl⟩ rfl (by kernel_rfl) rfl (fun _ => rfl) rfl ?_
    refine perG_R 2 ⟨rfl, rfl⟩ rfl (by kernel_rfl) rfl (fun H hG => rd_sc rfl rfl (hG.2.trans rfl) rfl rfl) rfl ?_
    refine perG_1 3 (by kernel_rfl) ?_
    refine br_W rfl rfl (store_ok (m := 0) (T := tab) TabC.ok rfl rfl rfl rfl rfl rfl rfl rfl rfl rfl) ⟨rfl, rfl⟩ rfl ?_
    refine perG_P 4 ⟨rfl, rfl⟩ rfl (by kernel_rfl) rfl (fun _ => rfl) rfl ?_
    refine perG_P 5 ⟨rfl, rfl⟩ rfl (by kernel_rfl) rfl (fun _ => rfl) rfl ?_
    refine perG_done (by kernel_rfl) ?_
    repeat' first
      | refine aw_seq ?_
      | refine aw_region ?_
      | refine aw_lex [] ?_
      | (refine isA ?_; refine do_F rfl ?_)
      | (refine isL ?_; refine lex_F rfl (by kernel_rfl) rfl rfl ?_)
      | (refine isLg rfl ?_; refine lex_S rfl (by kernel_rfl) rfl rfl ?_)
      | exact (by rw [ad_wait hb k6]; exact finMCTf [2, 7] (by decide) (cell_is rfl rfl rfl rfl rfl) (le_tup (les_cons (le_agg (les_cons (le_refl rfl) (les_cons (le_refl rfl) (les_cons (le_sl rfl rfl) (les_cons (le_sl rfl rfl) les_nil))))) (les_cons (le_refl rfl) (les_cons (le_refl rfl) les_nil)))) (.cons rfl rfl rfl rfl (les_eq rfl (flat_noH _ _)) (.cons rfl rfl rfl rfl (les_eq rfl (flat_noH _ _)) .nil)) rfl (brK_flat _ _))
      | refine aops_nil ?_
      | refine lex_done _ rfl (by kernel_rfl) ?_
      | refine aw_ct rfl ?_
      | refine aw_cf rfl ?_
      | refine aw_block ?_
      | refine then_n ?_
      | refine aw_skip ?_
      | refine aw_exit ?_
      | refine then_x ?_
      | refine then_r ?_
      | refine block_x ?_
      | refine block_n ?_
      | refine block_r ?_
      | refine aw_ret ?_
end Go.Proofs.Ytjlhfemfmkdlhaa.Ab
