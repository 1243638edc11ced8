/-
  FnExactSetRequest: the other side; marks held; the law.
-/
import Derived.Test.YtjlhfemfmkdlhaaBrkM
namespace Go.Proofs.Ytjlhfemfmkdlhaa.Ab
open Go.RowKit
set_option linter.unusedVariables false
set_option linter.unusedSimpArgs false
set_option maxRecDepth 20000
set_option maxHeartbeats 2000000

theorem c_iset (b : Br) (id n : Int) (h1 : b.act.length ≤ 1000000000) (h2 : b.wait.length ≤ 1000000000) : Meets Go.Proofs.Try.prog 36 [.agg (brE b), I id, I n] [] (srR (srV b id n)) (brK (srV b id n).1.act (srV b id n).1.wait) false := by
  refine meets_ofCT 6 24 [7] Go.Proofs.Try.func36 rfl rfl rfl ?_
  simp only [Go.Proofs.Try.ntmps36, List.length_cons, List.length_nil, Nat.reduceAdd, Nat.reduceSub, List.replicate_succ, List.replicate_zero, List.cons_append, List.nil_append]
  repeat' first
    | refine aw_seq ?_
    | refine aw_region ?_
    | refine aw_lex [] ?_
    | (refine isA ?_; refine do_F rfl ?_)
    | (refine isL ?_; refine lex_F rfl (by kernel_rfl) rfl rfl ?_)
    | (refine isLg rfl ?_; refine lex_S rfl (by kernel_rfl) rfl rfl ?_)
    | (refine isAc 80 ?_; refine do_R rfl (st_callK rfl (c_clone _ h1 h2) (.cons (.same rfl) .nil) (brK_noH _ _) rfl rfl) rfl ?_)
    | (refine isLc 80 rfl ?_; refine lex_R rfl (by kernel_rfl) rfl (st_callK rfl (c_clone _ h1 h2) (.cons (.same rfl) .nil) (brK_noH _ _) rfl rfl) rfl ?_)
    | (refine isAc 25 ?_; refine do_R rfl (st_call rfl (c_ivalid _ h1 h2) (.cons (.same rfl) .nil) rfl) rfl ?_)
    | (refine isLc 25 rfl ?_; refine lex_R rfl (by kernel_rfl) rfl (st_call rfl (c_ivalid _ h1 h2) (.cons (.same rfl) .nil) rfl) rfl ?_)
    | refine aops_nil ?_
    | refine lex_done _ rfl (by kernel_rfl) ?_
    | refine aw_ct rfl ?_
    | refine aw_cf rfl ?_
    | refine aw_block ?_
    | refine then_n ?_
    | refine aw_skip ?_
    | refine aw_exit ?_
    | refine then_x ?_
    | refine then_r ?_
    | refine block_x ?_
    | refine block_n ?_
    | refine block_r ?_
    | refine aw_ret ?_
  refine do_br rfl rfl (fun hv => ?_) (fun hv => ?_)
  · have hv : validB b = false := by simpa using hv
    repeat' first
      | refine aw_seq ?_
      | refine aw_region ?_
      | refine aw_lex [] ?_
      | (refine isA ?_; refine do_F rfl ?_)
      | (refine isL ?_; refine lex_F rfl (by kernel_rfl) rfl rfl ?_)
      | (refine isLg rfl ?_; refine lex_S rfl (by kernel_rfl) rfl rfl ?_)
      | exact (by rw [sr_no (by rw [hv]; rfl)]; exact finMCTf [2, 3] (by decide) (cell_is rfl rfl rfl rfl rfl) (le_tup (les_cons (le_agg (by repeat' first | exact les_nil | refine les_cons ?_ ?_ | exact le_any | exact le_refl rfl | exact le_sl rfl rfl | exact le_ptr rfl)) (les_cons (le_refl rfl) les_nil))) (.cons rfl rfl rfl rfl (les_eq rfl (flat_noH _ _)) (.cons rfl rfl rfl rfl (les_eq rfl (flat_noH _ _)) .nil)) rfl (brK_flat _ _))
      | refine aops_nil ?_
      | refine lex_done _ rfl (by kernel_rfl) ?_
      | refine aw_ct rfl ?_
      | refine aw_cf rfl ?_
      | refine aw_block ?_
      | refine then_n ?_
      | refine aw_skip ?_
      | refine aw_exit ?_
      | refine then_x ?_
      | refine then_r ?_
      | refine block_x ?_
      | refine block_n ?_
      | refine block_r ?_
      | refine aw_ret ?_
  · have hv : validB b = true := by simpa using hv
    repeat' first
      | refine aw_seq ?_
      | refine aw_region ?_
      | refine aw_lex [] ?_
      | (refine isA ?_; refine do_F rfl ?_)
      | (refine isL ?_; refine lex_F rfl (by kernel_rfl) rfl rfl ?_)
      | (refine isLg rfl ?_; refine lex_S rfl (by kernel_rfl) rfl rfl ?_)
      | (refine isAc 81 ?_; refine do_R rfl (st_call rfl (c_isGrant _) (.cons (.same rfl) .nil) rfl) rfl ?_)
      | (refine isLc 81 rfl ?_; refine lex_R rfl (by kernel_rfl) rfl (st_call rfl (c_isGrant _) (.cons (.same rfl) .nil) rfl) rfl ?_)
      | refine aops_nil ?_
      | refine lex_done _ rfl (by kernel_rfl) ?_
      | refine aw_ct rfl ?_
      | refine aw_cf rfl ?_
      | refine aw_block ?_
      | refine then_n ?_
      | refine aw_skip ?_
      | refine aw_exit ?_
      | refine then_x ?_
      | refine then_r ?_
      | refine block_x ?_
      | refine block_n ?_
      | refine block_r ?_
      | refine aw_ret ?_
    refine aw_cond rfl (fun hn => ?_) (fun hn => ?_)
    · have hn : inV n 8 60 = false := by simpa using hn
      repeat' first
        | refine aw_seq ?_
        | refine aw_region ?_
        | refine aw_lex [] ?_
        | (refine isA ?_; refine do_F rfl ?_)
        | (refine isL ?_; refine lex_F rfl (by kernel_rfl) rfl rfl ?_)
        | (refine isLg rfl ?_; refine lex_S rfl (by kernel_rfl) rfl rfl ?_)
        | exact (by rw [sr_no (by rw [hv, hn]; rfl)]; exact finMCTf [2, 3] (by decide) (cell_is rfl rfl rfl rfl rfl) (le_tup (les_cons (le_agg (by repeat' first | exact les_nil | refine les_cons ?_ ?_ | exact le_any | exact le_refl rfl | exact le_sl rfl rfl | exact le_ptr rfl)) (les_cons (le_refl rfl) les_nil))) (.cons rfl rfl rfl rfl (les_eq rfl (flat_noH _ _)) (.cons rfl rfl rfl rfl (les_eq rfl (flat_noH _ _)) .nil)) rfl (brK_flat _ _))
        | refine aops_nil ?_
        | refine lex_done _ rfl (by kernel_rfl) ?_
        | refine aw_ct rfl ?_
        | refine aw_cf rfl ?_
        | refine aw_block ?_
        | refine then_n ?_
        | refine aw_skip ?_
        | refine aw_exit ?_
        | refine then_x ?_
        | refine then_r ?_
        | refine block_x ?_
        | refine block_n ?_
        | refine block_r ?_
        | refine aw_ret ?_
    · have hn : inV n 8 60 = true := by simpa using hn
      have hvn : (validB b && inV n 8 60) = true := by rw [hv, hn]; rfl
      repeat' first
        | refine aw_seq ?_
        | refine aw_region ?_
        | refine aw_lex [] ?_
        | (refine isA ?_; refine do_F rfl ?_)
        | (refine isL ?_; refine lex_F rfl (by kernel_rfl) rfl rfl ?_)
        | (refine isLg rfl ?_; refine lex_S rfl (by kernel_rfl) rfl rfl ?_)
        | (refine isAc 76 ?_; refine do_R rfl (st_call rfl (c_clientAt b.act id h1) (.cons (pur_l rfl rfl) (.cons (.same rfl) .nil)) rfl) rfl ?_)
        | (refine isLc 76 rfl ?_; refine lex_R rfl (by kernel_rfl) rfl (st_call rfl (c_clientAt b.act id h1) (.cons (pur_l rfl rfl) (.cons (.same rfl) .nil)) rfl) rfl ?_)
        | refine aops_nil ?_
        | refine lex_done _ rfl (by kernel_rfl) ?_
        | refine aw_ct rfl ?_
        | refine aw_cf rfl ?_
        | refine aw_block ?_
        | refine then_n ?_
        | refine aw_skip ?_
        | refine aw_exit ?_
        | refine then_x ?_
        | refine then_r ?_
        | refine block_x ?_
        | refine block_n ?_
        | refine block_r ?_
        | refine aw_ret ?_
      refine aw_cond rfl (fun ha => ?_) (fun ha => ?_)
      · obtain ⟨z, hz, hz', hlt⟩ := at_some ha
        repeat' first
          | refine aw_seq ?_
          | refine aw_region ?_
          | refine aw_lex [] ?_
          | (refine isA ?_; refine do_F rfl ?_)
          | (refine isL ?_; refine lex_F rfl (by kernel_rfl) rfl rfl ?_)
          | (refine isLg rfl ?_; refine lex_S rfl (by kernel_rfl) rfl rfl ?_)
          | (refine isAi (x := .tmp 29) ?_; refine do_R rfl (step_ia_sl (j := idxC b.act id) rfl rfl rfl (Nat.zero_le _) rfl rfl (of_decide_eq_true ha) hlt) rfl ?_)
          | (refine isLi (x := .tmp 29) rfl ?_; refine lex_R rfl (by kernel_rfl) rfl (step_ia_sl (j := idxC b.act id) rfl rfl rfl (Nat.zero_le _) rfl rfl (of_decide_eq_true ha) hlt) rfl ?_)
          | (refine isAs (x := .tmp 33) ?_; refine do_R rfl (set_f (T := clT) (i := 0 + (idxC b.act id).toNat) (off := 1) (z := z) (z' := ⟨z.a, n, z.c⟩) rfl rfl rfl rfl (by decide) rfl hz rfl) rfl ?_)
          | (refine isLs (x := .tmp 33) rfl ?_; refine lex_R rfl (by kernel_rfl) rfl (set_f (T := clT) (i := 0 + (idxC b.act id).toNat) (off := 1) (z := z) (z' := ⟨z.a, n, z.c⟩) rfl rfl rfl rfl (by decide) rfl hz rfl) rfl ?_)
          | exact (by rw [sr_act hvn ha]; exact finMCTf [2, 3] (by decide) (cell_is rfl rfl rfl rfl rfl) (le_tup (les_cons (le_agg (les_cons (le_refl rfl) (les_cons (le_refl rfl) (les_cons (le_sl rfl setB_len.symm) (les_cons (le_sl rfl rfl) les_nil))))) (les_cons (le_refl rfl) les_nil))) (.cons rfl rfl rfl rfl (les_eq (by rw [setB_at hz', Nat.zero_add]) (flat_noH _ _)) (.cons rfl rfl rfl rfl (les_eq rfl (flat_noH _ _)) .nil)) rfl (brK_flat _ _))
          | refine aops_nil ?_
          | refine lex_done _ rfl (by kernel_rfl) ?_
          | refine aw_ct rfl ?_
          | refine aw_cf rfl ?_
          | refine aw_block ?_
          | refine then_n ?_
          | refine aw_skip ?_
          | refine aw_exit ?_
          | refine then_x ?_
          | refine then_r ?_
          | refine block_x ?_
          | refine block_n ?_
          | refine block_r ?_
          | refine aw_ret ?_
      · repeat' first
          | refine aw_seq ?_
          | refine aw_region ?_
          | refine aw_lex [] ?_
          | (refine isA ?_; refine do_F rfl ?_)
          | (refine isL ?_; refine lex_F rfl (by kernel_rfl) rfl rfl ?_)
          | (refine isLg rfl ?_; refine lex_S rfl (by kernel_rfl) rfl rfl ?_)
          | (refine isAc 76 ?_; refine do_R rfl (st_call rfl (c_clientAt b.wait id h2) (.cons (pur_l rfl rfl) (.cons (.same rfl) .nil)) rfl) rfl ?_)
          | (refine isLc 76 rfl ?_; refine lex_R rfl (by kernel_rfl) rfl (st_call rfl (c_clientAt b.wait id h2) (.cons (pur_l rfl rfl) (.cons (.same rfl) .nil)) rfl) rfl ?_)
          | refine aops_nil ?_
          | refine lex_done _ rfl (by kernel_rfl) ?_
          | refine aw_ct rfl ?_
          | refine aw_cf rfl ?_
          | refine aw_block ?_
          | refine then_n ?_
          | refine aw_skip ?_
          | refine aw_exit ?_
          | refine then_x ?_
          | refine then_r ?_
          | refine block_x ?_
          | refine block_n ?_
          | refine block_r ?_
          | refine aw_ret ?_
        refine aw_cond rfl (fun hw => ?_) (fun hw => ?_)
        · obtain ⟨z, hz, hz', hlt⟩ := at_some hw
          repeat' first
            | refine aw_seq ?_
            | refine aw_region ?_
            | refine aw_lex [] ?_
            | (refine isA ?_; refine do_F rfl ?_)
            | (refine isL ?_; refine lex_F rfl (by kernel_rfl) rfl rfl ?_)
            | (refine isLg rfl ?_; refine lex_S rfl (by kernel_rfl) rfl rfl ?_)
            | (refine isAi (x := .tmp 42) ?_; refine do_R rfl (step_ia_sl (j := idxC b.wait id) rfl rfl rfl (Nat.zero_le _) rfl rfl (of_decide_eq_true hw) hlt) rfl ?_)
            | (refine isLi (x := .tmp 42) rfl ?_; refine lex_R rfl (by kernel_rfl) rfl (step_ia_sl (j := idxC b.wait id) rfl rfl rfl (Nat.zero_le _) rfl rfl (of_decide_eq_true hw) hlt) rfl ?_)
            | (refine isAs (x := .tmp 46) ?_; refine do_R rfl (set_f (T := clT) (i := 0 + (idxC b.wait id).toNat) (off := 1) (z := z) (z' := ⟨z.a, n, z.c⟩) rfl rfl rfl rfl (by decide) rfl hz rfl) rfl ?_)
            | (refine isLs (x := .tmp 46) rfl ?_; refine lex_R rfl (by kernel_rfl) rfl (set_f (T := clT) (i := 0 + (idxC b.wait id).toNat) (off := 1) (z := z) (z' := ⟨z.a, n, z.c⟩) rfl rfl rfl rfl (by decide) rfl hz rfl) rfl ?_)
            | exact (by rw [sr_wait hvn ha hw]; exact finMCTf [2, 3] (by decide) (cell_is rfl rfl rfl rfl rfl) (le_tup (les_cons (le_agg (les_cons (le_refl rfl) (les_cons (le_refl rfl) (les_cons (le_sl rfl rfl) (les_cons (le_sl rfl setB_len.symm) les_nil))))) (les_cons (le_refl rfl) les_nil))) (.cons rfl rfl rfl rfl (les_eq rfl (flat_noH _ _)) (.cons rfl rfl rfl rfl (les_eq (by rw [setB_at hz', Nat.zero_add]) (flat_noH _ _)) .nil)) rfl (brK_flat _ _))
            | refine aops_nil ?_
            | refine lex_done _ rfl (by kernel_rfl) ?_
            | refine aw_ct rfl ?_
            | refine aw_cf rfl ?_
            | refine aw_block ?_
            | refine then_n ?_
            | refine aw_skip ?_
            | refine aw_exit ?_
            | refine then_x ?_
            | refine then_r ?_
            | refine block_x ?_
            | refine block_n ?_
            | refine block_r ?_
            | refine aw_ret ?_
        · repeat' first
            | refine aw_seq ?_
            | refine aw_region ?_
            | refine aw_lex [] ?_
            | (refine isA ?_; refine do_F rfl ?_)
            | (refine isL ?_; refine lex_F rfl (by kernel_rfl) rfl rfl ?_)
            | (refine isLg rfl ?_; refine lex_S rfl (by kernel_rfl) rfl rfl ?_)
            | exact (by rw [sr_none ha hw]; exact finMCTf [2, 3] (by decide) (cell_is rfl rfl rfl rfl rfl) (le_tup (les_cons (le_agg (by repeat' first | exact les_nil | refine les_cons ?_ ?_ | exact le_any | exact le_refl rfl | exact le_sl rfl rfl | exact le_ptr rfl)) (les_cons (le_refl rfl) les_nil))) (.cons rfl rfl rfl rfl (les_eq rfl (flat_noH _ _)) (.cons rfl rfl rfl rfl (les_eq rfl (flat_noH _ _)) .nil)) rfl (brK_flat _ _))
            | refine aops_nil ?_
            | refine lex_done _ rfl (by kernel_rfl) ?_
            | refine aw_ct rfl ?_
            | refine aw_cf rfl ?_
            | refine aw_block ?_
            | refine then_n ?_
            | refine aw_skip ?_
            | refine aw_exit ?_
            | refine then_x ?_
            | refine then_r ?_
            | refine block_x ?_
            | refine block_n ?_
            | refine block_r ?_
            | refine aw_ret ?_

/-! ### Marks held -/
theorem mkC_at {k : Int} {xs : List Cl} : ∀ (i : Nat) (x : Cl), (mkC k xs xs.length)[i]? = some x → x = mkCl k i := fun i x h => by
  unfold mkC at h
  rw [List.drop_length, List.append_nil, List.getElem?_map] at h
  cases hi : (List.range xs.length)[i]? with
  | none => rw [hi] at h; cases h
  | some j =>
    rw [hi] at h
    have hj : j = i := by
      obtain ⟨q, e⟩ := List.getElem?_eq_some_iff.1 hi
      simpa using e.symm
    subst hj
    simpa using h.symm

theorem c_heldClientS (xs : List Cl) (k : Int) (hl : xs.length ≤ 1000000000) (hk : ∀ i z, xs[i]? = some z → z = mkCl k i) : Meets Go.Proofs.Try.prog 69 [clL xs, I k] [] (I (kk k (3 * xs.length))) [] false := by
  refine meets_of [4] Go.Proofs.Try.func69 rfl rfl ?_
  simp only [Go.Proofs.Try.ntmps69, List.length_cons, List.length_nil, Nat.reduceAdd, Nat.reduceSub, List.replicate_succ, List.replicate_zero, List.cons_append, List.nil_append]
  repeat' first
    | refine aw_seq ?_
    | refine aw_region ?_
    | refine aw_lex [] ?_
    | (refine isA ?_; refine do_F rfl ?_)
    | (refine isL ?_; refine lex_F rfl (by kernel_rfl) rfl rfl ?_)
    | (refine isLg rfl ?_; refine lex_S rfl (by kernel_rfl) rfl rfl ?_)
    | refine aops_nil ?_
    | refine lex_done _ rfl (by kernel_rfl) ?_
    | refine aw_ct rfl ?_
    | refine aw_cf rfl ?_
    | refine aw_block ?_
    | refine then_n ?_
    | refine aw_skip ?_
    | refine aw_exit ?_
    | refine then_x ?_
    | refine then_r ?_
    | refine block_x ?_
    | refine block_n ?_
    | refine block_r ?_
    | refine aw_ret ?_
  refine aw_loop (α := { i : Nat // i ≤ xs.length }) (fun i => ⟨[clL xs, I (kk k (3 * i.1)), .any, .any, .any, I i.1, .any, .any, .any, .any, .any, .any, .any, .any, .any, .any, .any, .any, .any, .any, .any, .any, .any, .any, .any, .any, .any, .any, .any, .any, .any, .any, .any, .any, .any, .any, .any, .any, .any, .any], [], 0⟩) (fun i => xs.length - i.1) ⟨0, Nat.zero_le _⟩ ?_ ?_
  · exact sub0 [] rfl rfl (by decide) .nil (by repeat' first | exact les_nil | refine les_cons ?_ ?_ | exact le_any | exact le_refl rfl | exact le_sl rfl rfl | exact le_ptr rfl)
  · rintro ⟨i, hi⟩
    repeat' first
      | refine aw_seq ?_
      | refine aw_region ?_
      | refine aw_lex [] ?_
      | (refine isA ?_; refine do_F rfl ?_)
      | (refine isL ?_; refine lex_F rfl (by kernel_rfl) rfl rfl ?_)
      | (refine isLg rfl ?_; refine lex_S rfl (by kernel_rfl) rfl rfl ?_)
      | refine aops_nil ?_
      | refine lex_done _ rfl (by kernel_rfl) ?_
      | refine aw_ct rfl ?_
      | refine aw_cf rfl ?_
      | refine aw_block ?_
      | refine then_n ?_
      | refine aw_skip ?_
      | refine aw_exit ?_
      | refine then_x ?_
      | refine then_r ?_
      | refine block_x ?_
      | refine block_n ?_
      | refine block_r ?_
      | refine aw_ret ?_
    refine aw_cond rfl (fun h => ?_) (fun h => ?_)
    · have hlt : i < xs.length := by simpa using h
      obtain ⟨z, hz⟩ : ∃ z, xs[i]? = some z := ⟨_, List.getElem?_eq_getElem hlt⟩
      have hzk := hk i z hz
      subst hzk
      repeat' first
        | refine aw_seq ?_
        | refine aw_region ?_
        | refine aw_lex [] ?_
        | (refine isA ?_; refine do_F rfl ?_)
        | (refine isL ?_; refine lex_F rfl (by kernel_rfl) rfl rfl ?_)
        | (refine isLg rfl ?_; refine lex_S rfl (by kernel_rfl) rfl rfl ?_)
        | (refine isAi ?_; refine do_R rfl (ia_l (t := clT) (z := mkCl k i) rfl rfl rfl rfl (Int.natCast_nonneg i) hz) rfl ?_)
        | (refine isLi rfl ?_; refine lex_R rfl (by kernel_rfl) rfl (ia_l (t := clT) (z := mkCl k i) rfl rfl rfl rfl (Int.natCast_nonneg i) hz) rfl ?_)
        | refine aops_nil ?_
        | refine lex_done _ rfl (by kernel_rfl) ?_
        | refine aw_ct rfl ?_
        | refine aw_cf rfl ?_
        | refine aw_block ?_
        | refine then_n ?_
        | refine aw_skip ?_
        | refine aw_exit ?_
        | refine then_x ?_
        | refine then_r ?_
        | refine block_x ?_
        | refine block_n ?_
        | refine block_r ?_
        | refine aw_ret ?_
      refine aw_cond rfl (fun h => by simp [mkCl] at h) (fun _ => ?_)
      repeat' first
        | refine aw_seq ?_
        | refine aw_region ?_
        | refine aw_lex [] ?_
        | (refine isA ?_; refine do_F rfl ?_)
        | (refine isL ?_; refine lex_F rfl (by kernel_rfl) rfl rfl ?_)
        | (refine isLg rfl ?_; refine lex_S rfl (by kernel_rfl) rfl rfl ?_)
        | (refine isAi ?_; refine do_R rfl (ia_l (t := clT) (z := mkCl k i) rfl rfl rfl rfl (Int.natCast_nonneg i) hz) rfl ?_)
        | (refine isLi rfl ?_; refine lex_R rfl (by kernel_rfl) rfl (ia_l (t := clT) (z := mkCl k i) rfl rfl rfl rfl (Int.natCast_nonneg i) hz) rfl ?_)
        | refine aops_nil ?_
        | refine lex_done _ rfl (by kernel_rfl) ?_
        | refine aw_ct rfl ?_
        | refine aw_cf rfl ?_
        | refine aw_block ?_
        | refine then_n ?_
        | refine aw_skip ?_
        | refine aw_exit ?_
        | refine then_x ?_
        | refine then_r ?_
        | refine block_x ?_
        | refine block_n ?_
        | refine block_r ?_
        | refine aw_ret ?_
      refine aw_cond rfl (fun h => by simp [mkCl, kk] at h) (fun _ => ?_)
      repeat' first
        | refine aw_seq ?_
        | refine aw_region ?_
        | refine aw_lex [] ?_
        | (refine isA ?_; refine do_F rfl ?_)
        | (refine isL ?_; refine lex_F rfl (by kernel_rfl) rfl rfl ?_)
        | (refine isLg rfl ?_; refine lex_S rfl (by kernel_rfl) rfl rfl ?_)
        | (refine isAi ?_; refine do_R rfl (ia_l (t := clT) (z := mkCl k i) rfl rfl rfl rfl (Int.natCast_nonneg i) hz) rfl ?_)
        | (refine isLi rfl ?_; refine lex_R rfl (by kernel_rfl) rfl (ia_l (t := clT) (z := mkCl k i) rfl rfl rfl rfl (Int.natCast_nonneg i) hz) rfl ?_)
        | refine aops_nil ?_
        | refine lex_done _ rfl (by kernel_rfl) ?_
        | refine aw_ct rfl ?_
        | refine aw_cf rfl ?_
        | refine aw_block ?_
        | refine then_n ?_
        | refine aw_skip ?_
        | refine aw_exit ?_
        | refine then_x ?_
        | refine then_r ?_
        | refine block_x ?_
        | refine block_n ?_
        | refine block_r ?_
        | refine aw_ret ?_
      refine aw_cond rfl (fun h => by simp [mkCl, kk] at h) (fun _ => ?_)
      repeat' first
        | refine aw_seq ?_
        | refine aw_region ?_
        | refine aw_lex [] ?_
        | (refine isA ?_; refine do_F rfl ?_)
        | (refine isL ?_; refine lex_F rfl (by kernel_rfl) rfl rfl ?_)
        | (refine isLg rfl ?_; refine lex_S rfl (by kernel_rfl) rfl rfl ?_)
        | refine aops_nil ?_
        | refine lex_done _ rfl (by kernel_rfl) ?_
        | refine aw_ct rfl ?_
        | refine aw_cf rfl ?_
        | refine aw_block ?_
        | refine then_n ?_
        | refine aw_skip ?_
        | refine aw_exit ?_
        | refine then_x ?_
        | refine then_r ?_
        | refine block_x ?_
        | refine block_n ?_
        | refine block_r ?_
        | refine aw_ret ?_
      refine ⟨⟨i + 1, hlt⟩, by simp only; omega, ?_⟩
      exact sub0 [] rfl rfl (by decide) .nil (by repeat' first | exact les_nil | refine les_cons ?_ ?_ | exact le_any | exact le_refl rfl | exact le_sl rfl rfl | exact le_ptr rfl | exact le_i (by assumption) (by omega))
    · have hge : i = xs.length := by
        have : ¬ ((i : Int) < xs.length) := by simpa using h
        omega
      subst hge
      repeat' first
        | refine aw_seq ?_
        | refine aw_region ?_
        | refine aw_lex [] ?_
        | (refine isA ?_; refine do_F rfl ?_)
        | (refine isL ?_; refine lex_F rfl (by kernel_rfl) rfl rfl ?_)
        | (refine isLg rfl ?_; refine lex_S rfl (by kernel_rfl) rfl rfl ?_)
        | exact fin1 rfl rfl rfl
        | refine aops_nil ?_
        | refine lex_done _ rfl (by kernel_rfl) ?_
        | refine aw_ct rfl ?_
        | refine aw_cf rfl ?_
        | refine aw_block ?_
        | refine then_n ?_
        | refine aw_skip ?_
        | refine aw_exit ?_
        | refine then_x ?_
        | refine then_r ?_
        | refine block_x ?_
        | refine block_n ?_
        | refine block_r ?_
        | refine aw_ret ?_

theorem mkA_len (k : Int) (b : Br) : (mkA k b).length = b.act.length := mkC_len k (Nat.le_refl _)
theorem mkW_len (k : Int) (b : Br) : (mkW k b).length = b.wait.length := mkC_len _ (Nat.le_refl _)
theorem kk3_pos {n : Nat} (h : n ≤ 1000000000) : decide (kk 1 (3 * n) < 0) = false := by
  rw [kk_val (by omega) (by omega) (by omega)]
  simp
  omega

theorem c_heldBroker (b : Br) (h1 : b.act.length ≤ 1000000000) (h2 : b.wait.length ≤ 1000000000) : Meets Go.Proofs.Try.prog 19 [.agg (brE ⟨b.pool, b.next, mkA 1 b, mkW 1 b⟩), I 1] [] (I (mkN 1 b)) [] false := by
  have hA := mkA_len 1 b
  have hW := mkW_len 1 b
  refine meets_of [4] Go.Proofs.Try.func19 rfl rfl ?_
  simp only [Go.Proofs.Try.ntmps19, List.length_cons, List.length_nil, Nat.reduceAdd, Nat.reduceSub, List.replicate_succ, List.replicate_zero, List.cons_append, List.nil_append]
  repeat' first
    | refine aw_seq ?_
    | refine aw_region ?_
    | refine aw_lex [] ?_
    | (refine isA ?_; refine do_F rfl ?_)
    | (refine isL ?_; refine lex_F rfl (by kernel_rfl) rfl rfl ?_)
    | (refine isLg rfl ?_; refine lex_S rfl (by kernel_rfl) rfl rfl ?_)
    | (refine isAc 69 ?_; refine do_R rfl (st_call rfl (c_heldClientS (mkA 1 b) 1 (by rw [hA]; exact h1) mkC_at) (.cons (.same rfl) (.cons (.same rfl) .nil)) rfl) rfl ?_)
    | (refine isLc 69 rfl ?_; refine lex_R rfl (by kernel_rfl) rfl (st_call rfl (c_heldClientS (mkA 1 b) 1 (by rw [hA]; exact h1) mkC_at) (.cons (.same rfl) (.cons (.same rfl) .nil)) rfl) rfl ?_)
    | refine aops_nil ?_
    | refine lex_done _ rfl (by kernel_rfl) ?_
    | refine aw_ct rfl ?_
    | refine aw_cf rfl ?_
    | refine aw_block ?_
    | refine then_n ?_
    | refine aw_skip ?_
    | refine aw_exit ?_
    | refine then_x ?_
    | refine then_r ?_
    | refine block_x ?_
    | refine block_n ?_
    | refine block_r ?_
    | refine aw_ret ?_
  rw [hA]
  refine aw_cond rfl (fun h => by rw [kk3_pos h1] at h; cases h) (fun _ => ?_)
  repeat' first
    | refine aw_seq ?_
    | refine aw_region ?_
    | refine aw_lex [] ?_
    | (refine isA ?_; refine do_F rfl ?_)
    | (refine isL ?_; refine lex_F rfl (by kernel_rfl) rfl rfl ?_)
    | (refine isLg rfl ?_; refine lex_S rfl (by kernel_rfl) rfl rfl ?_)
    | (refine isAc 69 ?_; refine do_R rfl (st_call rfl (c_heldClientS (mkW 1 b) (kk 1 (3 * b.act.length)) (by rw [hW]; exact h2) mkC_at) (.cons (.same rfl) (.cons (.same rfl) .nil)) rfl) rfl ?_)
    | (refine isLc 69 rfl ?_; refine lex_R rfl (by kernel_rfl) rfl (st_call rfl (c_heldClientS (mkW 1 b) (kk 1 (3 * b.act.length)) (by rw [hW]; exact h2) mkC_at) (.cons (.same rfl) (.cons (.same rfl) .nil)) rfl) rfl ?_)
    | refine aops_nil ?_
    | refine lex_done _ rfl (by kernel_rfl) ?_
    | refine aw_ct rfl ?_
    | refine aw_cf rfl ?_
    | refine aw_block ?_
    | refine then_n ?_
    | refine aw_skip ?_
    | refine aw_exit ?_
    | refine then_x ?_
    | refine then_r ?_
    | refine block_x ?_
    | refine block_n ?_
    | refine block_r ?_
    | refine aw_ret ?_
  rw [hW]
  refine aw_cond rfl (fun h => by rw [show decide (kk (kk 1 (3 * b.act.length)) (3 * b.wait.length) < 0) = false from mkN_pos b h1 h2] at h; cases h) (fun _ => ?_)
  repeat' first
    | refine aw_seq ?_
    | refine aw_region ?_
    | refine aw_lex [] ?_
    | (refine isA ?_; refine do_F rfl ?_)
    | (refine isL ?_; refine lex_F rfl (by kernel_rfl) rfl rfl ?_)
    | (refine isLg rfl ?_; refine lex_S rfl (by kernel_rfl) rfl rfl ?_)
    | exact fin1 rfl rfl rfl
    | refine aops_nil ?_
    | refine lex_done _ rfl (by kernel_rfl) ?_
    | refine aw_ct rfl ?_
    | refine aw_cf rfl ?_
    | refine aw_block ?_
    | refine then_n ?_
    | refine aw_skip ?_
    | refine aw_exit ?_
    | refine then_x ?_
    | refine then_r ?_
    | refine block_x ?_
    | refine block_n ?_
    | refine block_r ?_
    | refine aw_ret ?_
end Go.Proofs.Ytjlhfemfmkdlhaa.Ab
