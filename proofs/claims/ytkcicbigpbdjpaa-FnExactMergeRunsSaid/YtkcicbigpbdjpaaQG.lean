/- Texts MuB in one. -/
import Derived.Test.YtkcicbigpbdjpaaQD
import Derived.Test.YtkcicbigpbdjpaaQA
set_option linter.unusedVariables false
set_option linter.unusedSimpArgs false
set_option maxRecDepth 20000
set_option maxHeartbeats 4000000
/- MuB -/
namespace Go.Proofs.Ytkcicbigpbdjpaa.Ab
open Go.RowKit

theorem neqB_dec (b : Bool) : (!decide (b = b)) = false := by simp
theorem law_MergeRuns (rs : List Rn) (h1 : rs.length ≤ 9223372036854775807) (h2 : ∀ x ∈ rs, x.length ≤ 9223372036854775807) : Meets Go.Proofs.Try.prog 5 [rnL rs] [] (B true) [] false := by
  refine meets_of [2] Go.Proofs.Try.func5 rfl rfl ?_
  simp only [Go.Proofs.Try.ntmps5, List.length_cons, List.length_nil, Nat.reduceAdd, Nat.reduceSub, List.replicate_succ, List.replicate_zero, List.cons_append, List.nil_append]
  repeat' first
    | refine aw_seq ?_
    | refine aw_region ?_
    | refine aw_lex [] ?_
    | (refine isA ?_; refine do_F rfl ?_)
    | (refine isL ?_; refine lex_F rfl (by kernel_rfl) rfl rfl ?_)
    | (refine isLg rfl ?_; refine lex_S rfl (by kernel_rfl) rfl rfl ?_)
    | (refine isAc 40 ?_; refine do_R rfl (st_call rfl (c_szRunS rs _ h1) (.cons (.same rfl) (.cons (.same rfl) .nil)) rfl) rfl ?_)
    | (refine isLc 40 rfl ?_; refine lex_R rfl (by kernel_rfl) rfl (st_call rfl (c_szRunS rs _ h1) (.cons (.same rfl) (.cons (.same rfl) .nil)) rfl) rfl ?_)
    | refine aops_nil ?_
    | refine lex_done _ rfl (by kernel_rfl) ?_
    | refine aw_ct rfl ?_
    | refine aw_cf rfl ?_
    | refine aw_block ?_
    | with_reducible refine then_n ?_
    | refine aw_skip ?_
    | refine aw_exit ?_
    | with_reducible refine then_x ?_
    | with_reducible refine then_r ?_
    | with_reducible refine block_x ?_
    | with_reducible refine block_n ?_
    | with_reducible refine block_r ?_
    | refine aw_ret ?_
  refine aw_cond rfl (fun h => ?_) (fun h => ?_)
  · repeat' first
      | refine aw_seq ?_
      | refine aw_region ?_
      | refine aw_lex [] ?_
      | (refine isA ?_; refine do_F rfl ?_)
      | (refine isL ?_; refine lex_F rfl (by kernel_rfl) rfl rfl ?_)
      | (refine isLg rfl ?_; refine lex_S rfl (by kernel_rfl) rfl rfl ?_)
      | exact fin1 rfl rfl rfl
      | refine aops_nil ?_
      | refine lex_done _ rfl (by kernel_rfl) ?_
      | refine aw_ct rfl ?_
      | refine aw_cf rfl ?_
      | refine aw_block ?_
      | with_reducible refine then_n ?_
      | refine aw_skip ?_
      | refine aw_exit ?_
      | with_reducible refine then_x ?_
      | with_reducible refine then_r ?_
      | with_reducible refine block_x ?_
      | with_reducible refine block_n ?_
      | with_reducible refine block_r ?_
      | refine aw_ret ?_
  obtain ⟨hok, ht⟩ := okRn_all h1 h2 h
  obtain ⟨q1, q2⟩ := szR_ok h1 h2 (by omega) (by omega) h
  have hm : OkM rs := ⟨by omega, by omega⟩
  have hR : ∀ j x, rs[j]? = some x → (rnN rs)[1 + j]? = some (rwR x) := row_in (K0 := [⟨39, 1, nC 1 rs, 0⟩]) (D := []) rfl (by simp)
  have hnl : (rnN rs).length = rs.length + 1 := by simp [nR_length]
  have hneg : decide (kk 1 (3 * tot rs) < 0) = false := kk_neg (by omega) (by omega) (by omega)
  have hnl2 : (rnN (mkRu 1 rs)).length = rs.length + 1 := by simp [nR_length, mkRu_len]
  rcases Bool.eq_false_or_eq_true (avS rs) with hv | hv
  · obtain ⟨out, n, hr, _⟩ := mr_ex rs.length (Nat.le_refl _)
    obtain ⟨l1, l2, l3⟩ := mr_len hr
    have a1 := c_smr rs out n hm hv hr
    have a2 := c_imr rs out n hm hv hr
    have hfl : out.flatten.length ≤ 1000000000 := by rw [flat_len]; omega
    have hfe : out.flatten.length = tot rs := by rw [flat_len]; exact l3
    generalize out.flatten = g at a1 a2 hfl hfe
    have hR' : ∀ j x, rs[j]? = some x → (rnN rs ++ [rwR g])[1 + j]? = some (rwR x) := row_in (K0 := [⟨39, 1, nC 1 rs, 0⟩]) rfl rfl
    have hg : (rnN rs ++ [rwR g])[rs.length + 1]? = some (rwR g) := get_last hnl
    have hg2 : (rnN (mkRu 1 rs) ++ [rwR g])[rs.length + 1]? = some (rwR g) := get_last hnl2
    repeat' first
      | (refine isA ?_; refine do_R rfl (neqB_same rfl rfl rfl (by kernel_rfl)) rfl ?_)
      | (refine isA ?_; refine do_R rfl (neqI_same rfl rfl rfl) rfl ?_)
      | refine aw_seq ?_
      | refine aw_region ?_
      | refine aw_lex [] ?_
      | (refine isA ?_; refine do_F rfl ?_)
      | (refine isL ?_; refine lex_F rfl (by kernel_rfl) rfl rfl ?_)
      | (refine isLg rfl ?_; refine lex_S rfl (by kernel_rfl) rfl rfl ?_)
      | (refine isAc 42 (x := #[.tmp 23]) ?_; refine do_R rfl (st_call rfl (c_toRunS rs hok) (.cons (.same rfl) .nil) rfl) rfl ?_)
      | (refine isLc 42 (x := #[.tmp 23]) rfl ?_; refine lex_R rfl (by kernel_rfl) rfl (st_call rfl (c_toRunS rs hok) (.cons (.same rfl) .nil) rfl) rfl ?_)
      | (refine isAc 41 ?_; refine do_R rfl (st_call rfl a1 (.cons (.same rfl) .nil) rfl) rfl ?_)
      | (refine isLc 41 rfl ?_; refine lex_R rfl (by kernel_rfl) rfl (st_call rfl a1 (.cons (.same rfl) .nil) rfl) rfl ?_)
      | (refine isAc 42 (x := #[.tmp 29]) ?_; refine do_R rfl (st_callKN (r' := .sl 0 0 rs.length) (H' := rnN rs) rfl (c_toRunSO rs hok) (.cons (.same rfl) .nil) rfl (by simp only [List.nil_append, List.length_nil]; exact nest_sh 0 _ rs)) rfl ?_)
      | (refine isLc 42 (x := #[.tmp 29]) rfl ?_; refine lex_R rfl (by kernel_rfl) rfl (st_callKN (r' := .sl 0 0 rs.length) (H' := rnN rs) rfl (c_toRunSO rs hok) (.cons (.same rfl) .nil) rfl (by simp only [List.nil_append, List.length_nil]; exact nest_sh 0 _ rs)) rfl ?_)
      | (refine isAc 43 (x := #[.tmp 32]) ?_; refine do_R rfl (st_callK (r' := .tup [.sl (rs.length + 1) 0 g.length, I n, B true]) (H' := rnN rs ++ [rwR g]) rfl a2 (.cons (pur_nest rfl hR) .nil) (fun q hq => by simp at hq; subst hq; exact flat_noH _ _) (by simp only [hnl, shV, shVs, Nat.zero_add]) rfl) rfl ?_)
      | (refine isLc 43 (x := #[.tmp 32]) rfl ?_; refine lex_R rfl (by kernel_rfl) rfl (st_callK (r' := .tup [.sl (rs.length + 1) 0 g.length, I n, B true]) (H' := rnN rs ++ [rwR g]) rfl a2 (.cons (pur_nest rfl hR) .nil) (fun q hq => by simp at hq; subst hq; exact flat_noH _ _) (by simp only [hnl, shV, shVs, Nat.zero_add]) rfl) rfl ?_)
      | (refine isAc 36 (x := #[.tmp 37, .tmp 38]) ?_; refine do_R rfl (st_call rfl (c_eqRowS g hfl) (.cons (pur_row hg) (.cons (.same rfl) .nil)) rfl) rfl ?_)
      | (refine isLc 36 (x := #[.tmp 37, .tmp 38]) rfl ?_; refine lex_R rfl (by kernel_rfl) rfl (st_call rfl (c_eqRowS g hfl) (.cons (pur_row hg) (.cons (.same rfl) .nil)) rfl) rfl ?_)
      | (refine isAc 42 (x := #[.tmp 52]) ?_; refine do_R rfl (st_call rfl (c_toRunS rs hok) (.cons (.same rfl) .nil) rfl) rfl ?_)
      | (refine isLc 42 (x := #[.tmp 52]) rfl ?_; refine lex_R rfl (by kernel_rfl) rfl (st_call rfl (c_toRunS rs hok) (.cons (.same rfl) .nil) rfl) rfl ?_)
      | (refine isAc 35 ?_; refine do_R rfl (st_call rfl (c_eqRunS rs hok) (.cons (pur_nest rfl hR') (.cons (.same rfl) .nil)) rfl) rfl ?_)
      | (refine isLc 35 rfl ?_; refine lex_R rfl (by kernel_rfl) rfl (st_call rfl (c_eqRunS rs hok) (.cons (pur_nest rfl hR') (.cons (.same rfl) .nil)) rfl) rfl ?_)
      | (refine isAc 38 ?_; refine do_R rfl (st_callN0 (r2 := I (kk 1 (3 * tot rs))) (H' := rnN (mkRu 1 rs) ++ [rwR g]) (List.range' 0 (rs.length + 1)) List.nodup_range' rfl (c_markRunS rs 1 hok) (give_nest (mkRu_map 1 rs) rfl hR') (.cons (.sl rfl) (.cons (.same rfl) .nil)) (.same rfl) (by have := setAll_mid (K0 := []) (K := rnN rs) (K' := rnN (mkRu 1 rs)) (D := [rwR g]) (by simp [nR_length, mkRu_len]); rw [hnl] at this; exact this)) rfl ?_)
      | (refine isLc 38 rfl ?_; refine lex_R rfl (by kernel_rfl) rfl (st_callN0 (r2 := I (kk 1 (3 * tot rs))) (H' := rnN (mkRu 1 rs) ++ [rwR g]) (List.range' 0 (rs.length + 1)) List.nodup_range' rfl (c_markRunS rs 1 hok) (give_nest (mkRu_map 1 rs) rfl hR') (.cons (.sl rfl) (.cons (.same rfl) .nil)) (.same rfl) (by have := setAll_mid (K0 := []) (K := rnN rs) (K' := rnN (mkRu 1 rs)) (D := [rwR g]) (by simp [nR_length, mkRu_len]); rw [hnl] at this; exact this)) rfl ?_)
      | refine aops_nil ?_
      | refine lex_done _ rfl (by kernel_rfl) ?_
      | refine aw_ct rfl ?_
      | refine aw_cf rfl ?_
      | refine aw_block ?_
      | with_reducible refine then_n ?_
      | refine aw_skip ?_
      | refine aw_exit ?_
      | with_reducible refine then_x ?_
      | with_reducible refine then_r ?_
      | with_reducible refine block_x ?_
      | with_reducible refine block_n ?_
      | with_reducible refine block_r ?_
      | refine aw_ret ?_
    refine do_br rfl rfl (fun h => by rw [hneg] at h; cases h) (fun _ => ?_)
    repeat' first
      | (refine isA ?_; refine do_R rfl (neqB_same rfl rfl rfl (by kernel_rfl)) rfl ?_)
      | (refine isA ?_; refine do_R rfl (neqI_same rfl rfl rfl) rfl ?_)
      | refine aw_seq ?_
      | refine aw_region ?_
      | refine aw_lex [] ?_
      | (refine isA ?_; refine do_F rfl ?_)
      | (refine isL ?_; refine lex_F rfl (by kernel_rfl) rfl rfl ?_)
      | (refine isLg rfl ?_; refine lex_S rfl (by kernel_rfl) rfl rfl ?_)
      | (refine isAc 36 ?_; refine do_R rfl (st_call rfl (c_eqRowS g hfl) (.cons (pur_row hg2) (.cons (.same rfl) .nil)) rfl) rfl ?_)
      | (refine isLc 36 rfl ?_; refine lex_R rfl (by kernel_rfl) rfl (st_call rfl (c_eqRowS g hfl) (.cons (pur_row hg2) (.cons (.same rfl) .nil)) rfl) rfl ?_)
      | refine aops_nil ?_
      | refine lex_done _ rfl (by kernel_rfl) ?_
      | refine aw_ct rfl ?_
      | refine aw_cf rfl ?_
      | refine aw_block ?_
      | with_reducible refine then_n ?_
      | refine aw_skip ?_
      | refine aw_exit ?_
      | with_reducible refine then_x ?_
      | with_reducible refine then_r ?_
      | with_reducible refine block_x ?_
      | with_reducible refine block_n ?_
      | with_reducible refine block_r ?_
      | refine aw_ret ?_
    refine aops_sub (T := ⟨((rnL rs) :: .any :: .any :: .any :: (rwL g) :: (I n) :: (B true) :: .any :: (.sl 0 0 g.length) :: .any :: .any :: .any :: .any :: .any :: .any :: .any :: .any :: .any :: .any :: .any :: .any :: .any :: .any :: .any :: .any :: .any :: .any :: .any :: .any :: .any :: .any :: .any :: .any :: .any :: .any :: .any :: .any :: .any :: .any :: .any :: .any :: .any :: .any :: .any :: .any :: .any :: .any :: .any :: .any :: .any :: .any :: .any :: .any :: .any :: .any :: .any :: .any :: .any :: .any :: .any :: .any :: .any :: .any :: .any :: .any :: .any :: .any :: .any :: .any :: .any :: .any :: .any :: .any :: .any :: .any :: .any :: .any :: (.sl 0 0 g.length) :: (I 1) :: .any :: .any :: .any :: .any :: .any :: .any :: .any :: .any :: .any :: .any :: .any :: .any :: .any :: .any :: .any :: .any :: .any :: .any :: .any :: .any :: .any :: .any :: .any :: .any :: .any :: .any :: .any :: .any :: .any :: .any :: .any :: .any :: .any :: .any :: .any :: .any :: .any :: .any :: []), [rwR g], 0⟩) (sub0 [rs.length + 1] rfl rfl (by simp) (.cons hg2 rfl rfl rfl (les_refl (flat_noH _ _)) .nil) (by repeat' first | exact les_nil | refine les_cons ?_ ?_ | exact le_any | exact le_refl rfl | exact le_sl rfl rfl | exact le_ptr rfl)) ?_
    have hnegf : decide (kk 1 (3 * g.length) < 0) = false := by rw [hfe]; exact hneg
    have hmf := mkC_len 1 (xs := g) (Nat.le_refl _)
    have heldG := c_heldRowS (mkC 1 g g.length) 1 (by rw [hmf]; exact hfl) mkC_at
    rw [hmf] at heldG
    repeat' first
      | refine aw_seq ?_
      | refine aw_region ?_
      | refine aw_lex [] ?_
      | (refine isA ?_; refine do_F rfl ?_)
      | (refine isL ?_; refine lex_F rfl (by kernel_rfl) rfl rfl ?_)
      | (refine isLg rfl ?_; refine lex_S rfl (by kernel_rfl) rfl rfl ?_)
      | (refine isAc 37 ?_; refine do_R rfl (step_callMs (K := []) (Rs' := [_]) [0] (by decide) rfl (c_markRowS g 1 hfl) (.cons rfl rfl rfl (flat_noH _ _) (flat_noH _ _) .nil) (.cons (.sl rfl) (.cons (.same rfl) .nil)) (fun q hq => by cases hq) rfl) rfl ?_)
      | (refine isLc 37 rfl ?_; refine lex_R rfl (by kernel_rfl) rfl (step_callMs (K := []) (Rs' := [_]) [0] (by decide) rfl (c_markRowS g 1 hfl) (.cons rfl rfl rfl (flat_noH _ _) (flat_noH _ _) .nil) (.cons (.sl rfl) (.cons (.same rfl) .nil)) (fun q hq => by cases hq) rfl) rfl ?_)
      | (refine isAc 44 ?_; refine do_R rfl (st_call rfl heldG (.cons (pur_L rfl rfl rfl hmf.symm) (.cons (.same rfl) .nil)) rfl) rfl ?_)
      | (refine isLc 44 rfl ?_; refine lex_R rfl (by kernel_rfl) rfl (st_call rfl heldG (.cons (pur_L rfl rfl rfl hmf.symm) (.cons (.same rfl) .nil)) rfl) rfl ?_)
      | refine aops_nil ?_
      | refine lex_done _ rfl (by kernel_rfl) ?_
      | refine aw_ct rfl ?_
      | refine aw_cf rfl ?_
      | refine aw_block ?_
      | with_reducible refine then_n ?_
      | refine aw_skip ?_
      | refine aw_exit ?_
      | with_reducible refine then_x ?_
      | with_reducible refine then_r ?_
      | with_reducible refine block_x ?_
      | with_reducible refine block_n ?_
      | with_reducible refine block_r ?_
      | refine aw_ret ?_
    refine aw_cond rfl (fun h => by rw [hnegf] at h; cases h) (fun _ => ?_)
    repeat' first
      | (refine isA ?_; refine do_R rfl (neqB_same rfl rfl rfl (by kernel_rfl)) rfl ?_)
      | (refine isA ?_; refine do_R rfl (neqI_same rfl rfl rfl) rfl ?_)
      | refine aw_seq ?_
      | refine aw_region ?_
      | refine aw_lex [] ?_
      | (refine isA ?_; refine do_F rfl ?_)
      | (refine isL ?_; refine lex_F rfl (by kernel_rfl) rfl rfl ?_)
      | (refine isLg rfl ?_; refine lex_S rfl (by kernel_rfl) rfl rfl ?_)
      | (refine isAc 42 ?_; refine do_R rfl (st_call rfl (c_toRunS rs hok) (.cons (.same rfl) .nil) rfl) rfl ?_)
      | (refine isLc 42 rfl ?_; refine lex_R rfl (by kernel_rfl) rfl (st_call rfl (c_toRunS rs hok) (.cons (.same rfl) .nil) rfl) rfl ?_)
      | (refine isAc 43 ?_; refine do_R rfl (st_call rfl (a2.frozen (.tup (.cons (pur_row rfl) (.cons (.same rfl) (.cons (.same rfl) .nil))))) (.cons (.same rfl) .nil) rfl) rfl ?_)
      | (refine isLc 43 rfl ?_; refine lex_R rfl (by kernel_rfl) rfl (st_call rfl (a2.frozen (.tup (.cons (pur_row rfl) (.cons (.same rfl) (.cons (.same rfl) .nil))))) (.cons (.same rfl) .nil) rfl) rfl ?_)
      | (refine isAc 36 ?_; refine do_R rfl (st_call rfl (c_eqRowS g hfl) (.cons (.same rfl) (.cons (.same rfl) .nil)) rfl) rfl ?_)
      | (refine isLc 36 rfl ?_; refine lex_R rfl (by kernel_rfl) rfl (st_call rfl (c_eqRowS g hfl) (.cons (.same rfl) (.cons (.same rfl) .nil)) rfl) rfl ?_)
      | (refine isAc 44 ?_; refine do_R rfl (st_call rfl heldG (.cons (pur_L rfl rfl rfl hmf.symm) (.cons (.same rfl) .nil)) rfl) rfl ?_)
      | (refine isLc 44 rfl ?_; refine lex_R rfl (by kernel_rfl) rfl (st_call rfl heldG (.cons (pur_L rfl rfl rfl hmf.symm) (.cons (.same rfl) .nil)) rfl) rfl ?_)
      | refine aops_nil ?_
      | refine lex_done _ rfl (by kernel_rfl) ?_
      | refine aw_ct rfl ?_
      | refine aw_cf rfl ?_
      | refine aw_block ?_
      | with_reducible refine then_n ?_
      | refine aw_skip ?_
      | refine aw_exit ?_
      | with_reducible refine then_x ?_
      | with_reducible refine then_r ?_
      | with_reducible refine block_x ?_
      | with_reducible refine block_n ?_
      | with_reducible refine block_r ?_
      | refine aw_ret ?_
    refine aw_cond rfl (fun h => by rw [hnegf] at h; cases h) (fun _ => ?_)
    repeat' first
      | (refine isA ?_; refine do_R rfl (neqI_same rfl rfl rfl) rfl ?_)
      | refine aw_seq ?_
      | refine aw_region ?_
      | refine aw_lex [] ?_
      | (refine isA ?_; refine do_F rfl ?_)
      | (refine isL ?_; refine lex_F rfl (by kernel_rfl) rfl rfl ?_)
      | (refine isLg rfl ?_; refine lex_S rfl (by kernel_rfl) rfl rfl ?_)
      | exact fin1 rfl rfl rfl
      | refine aops_nil ?_
      | refine lex_done _ rfl (by kernel_rfl) ?_
      | refine aw_ct rfl ?_
      | refine aw_cf rfl ?_
      | refine aw_block ?_
      | with_reducible refine then_n ?_
      | refine aw_skip ?_
      | refine aw_exit ?_
      | with_reducible refine then_x ?_
      | with_reducible refine then_r ?_
      | with_reducible refine block_x ?_
      | with_reducible refine block_n ?_
      | with_reducible refine block_r ?_
      | refine aw_ret ?_
  · have a1 := c_smr0 rs hm hv
    have a2 := c_imr0 rs hm hv
    have c0 := c_eqRowS [] (Nat.zero_le _)
    have heldZ := c_heldRowS [] 1 (Nat.zero_le _) (fun i z hz => by cases hz)
    repeat' first
      | (refine isA ?_; refine do_R rfl (neqB_same rfl rfl rfl (by kernel_rfl)) rfl ?_)
      | (refine isA ?_; refine do_R rfl (neqI_same rfl rfl rfl) rfl ?_)
      | refine aw_seq ?_
      | refine aw_region ?_
      | refine aw_lex [] ?_
      | (refine isA ?_; refine do_F rfl ?_)
      | (refine isL ?_; refine lex_F rfl (by kernel_rfl) rfl rfl ?_)
      | (refine isLg rfl ?_; refine lex_S rfl (by kernel_rfl) rfl rfl ?_)
      | (refine isAc 42 (x := #[.tmp 23]) ?_; refine do_R rfl (st_call rfl (c_toRunS rs hok) (.cons (.same rfl) .nil) rfl) rfl ?_)
      | (refine isLc 42 (x := #[.tmp 23]) rfl ?_; refine lex_R rfl (by kernel_rfl) rfl (st_call rfl (c_toRunS rs hok) (.cons (.same rfl) .nil) rfl) rfl ?_)
      | (refine isAc 41 ?_; refine do_R rfl (st_call rfl a1 (.cons (.same rfl) .nil) rfl) rfl ?_)
      | (refine isLc 41 rfl ?_; refine lex_R rfl (by kernel_rfl) rfl (st_call rfl a1 (.cons (.same rfl) .nil) rfl) rfl ?_)
      | (refine isAc 42 (x := #[.tmp 29]) ?_; refine do_R rfl (st_callKN (r' := .sl 0 0 rs.length) (H' := rnN rs) rfl (c_toRunSO rs hok) (.cons (.same rfl) .nil) rfl (by simp only [List.nil_append, List.length_nil]; exact nest_sh 0 _ rs)) rfl ?_)
      | (refine isLc 42 (x := #[.tmp 29]) rfl ?_; refine lex_R rfl (by kernel_rfl) rfl (st_callKN (r' := .sl 0 0 rs.length) (H' := rnN rs) rfl (c_toRunSO rs hok) (.cons (.same rfl) .nil) rfl (by simp only [List.nil_append, List.length_nil]; exact nest_sh 0 _ rs)) rfl ?_)
      | (refine isAc 43 (x := #[.tmp 32]) ?_; refine do_R rfl (st_call rfl a2 (.cons (pur_nest rfl hR) .nil) rfl) rfl ?_)
      | (refine isLc 43 (x := #[.tmp 32]) rfl ?_; refine lex_R rfl (by kernel_rfl) rfl (st_call rfl a2 (.cons (pur_nest rfl hR) .nil) rfl) rfl ?_)
      | (refine isAc 36 (x := #[.tmp 37, .tmp 38]) ?_; refine do_R rfl (st_call rfl c0 (.cons .nil (.cons (.same rfl) .nil)) rfl) rfl ?_)
      | (refine isLc 36 (x := #[.tmp 37, .tmp 38]) rfl ?_; refine lex_R rfl (by kernel_rfl) rfl (st_call rfl c0 (.cons .nil (.cons (.same rfl) .nil)) rfl) rfl ?_)
      | (refine isAc 42 (x := #[.tmp 52]) ?_; refine do_R rfl (st_call rfl (c_toRunS rs hok) (.cons (.same rfl) .nil) rfl) rfl ?_)
      | (refine isLc 42 (x := #[.tmp 52]) rfl ?_; refine lex_R rfl (by kernel_rfl) rfl (st_call rfl (c_toRunS rs hok) (.cons (.same rfl) .nil) rfl) rfl ?_)
      | (refine isAc 35 ?_; refine do_R rfl (st_call rfl (c_eqRunS rs hok) (.cons (pur_nest rfl hR) (.cons (.same rfl) .nil)) rfl) rfl ?_)
      | (refine isLc 35 rfl ?_; refine lex_R rfl (by kernel_rfl) rfl (st_call rfl (c_eqRunS rs hok) (.cons (pur_nest rfl hR) (.cons (.same rfl) .nil)) rfl) rfl ?_)
      | (refine isAc 38 ?_; refine do_R rfl (st_callN0 (r2 := I (kk 1 (3 * tot rs))) (H' := rnN (mkRu 1 rs)) (List.range' 0 (rs.length + 1)) List.nodup_range' rfl (c_markRunS rs 1 hok) (give_nest (mkRu_map 1 rs) rfl hR) (.cons (.sl rfl) (.cons (.same rfl) .nil)) (.same rfl) (by have := setAll_mid (K0 := []) (K := rnN rs) (K' := rnN (mkRu 1 rs)) (D := []) (by simp [nR_length, mkRu_len]); rw [hnl, List.append_nil, List.append_nil] at this; exact this)) rfl ?_)
      | (refine isLc 38 rfl ?_; refine lex_R rfl (by kernel_rfl) rfl (st_callN0 (r2 := I (kk 1 (3 * tot rs))) (H' := rnN (mkRu 1 rs)) (List.range' 0 (rs.length + 1)) List.nodup_range' rfl (c_markRunS rs 1 hok) (give_nest (mkRu_map 1 rs) rfl hR) (.cons (.sl rfl) (.cons (.same rfl) .nil)) (.same rfl) (by have := setAll_mid (K0 := []) (K := rnN rs) (K' := rnN (mkRu 1 rs)) (D := []) (by simp [nR_length, mkRu_len]); rw [hnl, List.append_nil, List.append_nil] at this; exact this)) rfl ?_)
      | refine aops_nil ?_
      | refine lex_done _ rfl (by kernel_rfl) ?_
      | refine aw_ct rfl ?_
      | refine aw_cf rfl ?_
      | refine aw_block ?_
      | with_reducible refine then_n ?_
      | refine aw_skip ?_
      | refine aw_exit ?_
      | with_reducible refine then_x ?_
      | with_reducible refine then_r ?_
      | with_reducible refine block_x ?_
      | with_reducible refine block_n ?_
      | with_reducible refine block_r ?_
      | refine aw_ret ?_
    refine do_br rfl rfl (fun h => by rw [hneg] at h; cases h) (fun _ => ?_)
    repeat' first
      | (refine isA ?_; refine do_R rfl (neqB_same rfl rfl rfl (by kernel_rfl)) rfl ?_)
      | (refine isA ?_; refine do_R rfl (neqI_same rfl rfl rfl) rfl ?_)
      | refine aw_seq ?_
      | refine aw_region ?_
      | refine aw_lex [] ?_
      | (refine isA ?_; refine do_F rfl ?_)
      | (refine isL ?_; refine lex_F rfl (by kernel_rfl) rfl rfl ?_)
      | (refine isLg rfl ?_; refine lex_S rfl (by kernel_rfl) rfl rfl ?_)
      | (refine isAc 42 ?_; refine do_R rfl (st_call rfl (c_toRunS rs hok) (.cons (.same rfl) .nil) rfl) rfl ?_)
      | (refine isLc 42 rfl ?_; refine lex_R rfl (by kernel_rfl) rfl (st_call rfl (c_toRunS rs hok) (.cons (.same rfl) .nil) rfl) rfl ?_)
      | (refine isAc 43 ?_; refine do_R rfl (st_call rfl a2 (.cons (.same rfl) .nil) rfl) rfl ?_)
      | (refine isLc 43 rfl ?_; refine lex_R rfl (by kernel_rfl) rfl (st_call rfl a2 (.cons (.same rfl) .nil) rfl) rfl ?_)
      | (refine isAc 36 ?_; refine do_R rfl (st_call rfl c0 (.cons .nil (.cons (.same rfl) .nil)) rfl) rfl ?_)
      | (refine isLc 36 rfl ?_; refine lex_R rfl (by kernel_rfl) rfl (st_call rfl c0 (.cons .nil (.cons (.same rfl) .nil)) rfl) rfl ?_)
      | (refine isAc 37 ?_; refine do_R rfl (st_call rfl (c_markRow0 1) (.cons (.same rfl) (.cons (.same rfl) .nil)) rfl) rfl ?_)
      | (refine isLc 37 rfl ?_; refine lex_R rfl (by kernel_rfl) rfl (st_call rfl (c_markRow0 1) (.cons (.same rfl) (.cons (.same rfl) .nil)) rfl) rfl ?_)
      | (refine isAc 44 ?_; refine do_R rfl (st_call rfl heldZ (.cons .nil (.cons (.same rfl) .nil)) rfl) rfl ?_)
      | (refine isLc 44 rfl ?_; refine lex_R rfl (by kernel_rfl) rfl (st_call rfl heldZ (.cons .nil (.cons (.same rfl) .nil)) rfl) rfl ?_)
      | exact fin1 rfl rfl rfl
      | refine aops_nil ?_
      | refine lex_done _ rfl (by kernel_rfl) ?_
      | refine aw_ct rfl ?_
      | refine aw_cf rfl ?_
      | refine aw_block ?_
      | with_reducible refine then_n ?_
      | refine aw_skip ?_
      | refine aw_exit ?_
      | with_reducible refine then_x ?_
      | with_reducible refine then_r ?_
      | with_reducible refine block_x ?_
      | with_reducible refine block_n ?_
      | with_reducible refine block_r ?_
      | refine aw_ret ?_
end Go.Proofs.Ytkcicbigpbdjpaa.Ab
