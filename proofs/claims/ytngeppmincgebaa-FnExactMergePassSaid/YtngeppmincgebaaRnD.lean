/-
  FlattenRuns: both sides; the law.
-/
import Derived.Test.YtngeppmincgebaaRnC
namespace Go.Proofs.Ytngeppmincgebaa.Ab
open Go.RowKit
set_option linter.unusedVariables false
set_option linter.unusedSimpArgs false
set_option maxRecDepth 20000
set_option maxHeartbeats 1000000

theorem flat_len (rs : List Rn) : rs.flatten.length = tot rs := by rw [List.length_flatten]; rfl
theorem flat_snoc {rs : List Rn} {i : Nat} {z : Rn} (hz : rs[i]? = some z) : (rs.take (i + 1)).flatten = (rs.take i).flatten ++ z := by
  rw [take_snoc hz]; simp

theorem c_sflat (rs : List Rn) (hok : okRn rs) (ht : tot rs ≤ 100000000) : Meets Go.Proofs.Try.prog 30 [rnL rs] [] (.sl 0 0 rs.flatten.length) [rwR rs.flatten] false := by
  have hl := hok.1
  refine meets_of [2] Go.Proofs.Try.func30 rfl rfl ?_
  simp only [Go.Proofs.Try.ntmps30, List.length_cons, List.length_nil, Nat.reduceAdd, Nat.reduceSub, List.replicate_succ, List.replicate_zero, List.cons_append, List.nil_append]
  repeat' first
    | refine aw_seq ?_
    | refine aw_region ?_
    | refine aw_lex [] ?_
    | (refine isA ?_; refine do_F rfl ?_)
    | (refine isL ?_; refine lex_F rfl (by kernel_rfl) rfl rfl ?_)
    | (refine isLg rfl ?_; refine lex_S rfl (by kernel_rfl) rfl rfl ?_)
    | refine aops_nil ?_
    | refine lex_done _ rfl (by kernel_rfl) ?_
    | refine aw_ct rfl ?_
    | refine aw_cf rfl ?_
    | refine aw_block ?_
    | refine then_n ?_
    | refine aw_skip ?_
    | refine aw_exit ?_
    | refine then_x ?_
    | refine then_r ?_
    | refine block_x ?_
    | refine block_n ?_
    | refine block_r ?_
    | refine aw_ret ?_
  refine aw_loop (α := { i : Nat // i ≤ rs.length }) (fun i => ⟨[rnL rs, .any, .any, .sl 0 0 (rs.take i.1).flatten.length, I i.1, .any, .any, .any, .any, .any, .any, .any, .any, .any, .any, .any, .any, .any, .any, .any], [rwR (rs.take i.1).flatten], 0⟩) (fun i => rs.length - i.1) ⟨0, Nat.zero_le _⟩ ?_ ?_
  · exact sub_id rfl (by repeat' first | exact EqS.nil | refine EqS.any ?_ | refine EqS.same rfl ?_)
  · rintro ⟨i, hi⟩
    repeat' first
      | refine aw_seq ?_
      | refine aw_region ?_
      | refine aw_lex [] ?_
      | (refine isA ?_; refine do_F rfl ?_)
      | (refine isL ?_; refine lex_F rfl (by kernel_rfl) rfl rfl ?_)
      | (refine isLg rfl ?_; refine lex_S rfl (by kernel_rfl) rfl rfl ?_)
      | refine aops_nil ?_
      | refine lex_done _ rfl (by kernel_rfl) ?_
      | refine aw_ct rfl ?_
      | refine aw_cf rfl ?_
      | refine aw_block ?_
      | refine then_n ?_
      | refine aw_skip ?_
      | refine aw_exit ?_
      | refine then_x ?_
      | refine then_r ?_
      | refine block_x ?_
      | refine block_n ?_
      | refine block_r ?_
      | refine aw_ret ?_
    refine aw_cond rfl (fun h => ?_) (fun h => ?_)
    · have hlt : i < rs.length := by simpa using h
      obtain ⟨z, hz⟩ : ∃ z, rs[i]? = some z := ⟨_, List.getElem?_eq_getElem hlt⟩
      have h1 := tot_le rs (i + 1)
      rw [tot_snoc hz] at h1
      have h2 := flat_len (rs.take i)
      repeat' first
        | refine aw_seq ?_
        | refine aw_region ?_
        | refine aw_lex [] ?_
        | (refine isA ?_; refine do_F rfl ?_)
        | (refine isL ?_; refine lex_F rfl (by kernel_rfl) rfl rfl ?_)
        | (refine isLg rfl ?_; refine lex_S rfl (by kernel_rfl) rfl rfl ?_)
        | (refine isAi ?_; refine do_R rfl (ia_l (t := rnT) (z := z) rfl rfl rfl rfl (Int.natCast_nonneg i) hz) rfl ?_)
        | (refine isLi rfl ?_; refine lex_R rfl (by kernel_rfl) rfl (ia_l (t := rnT) (z := z) rfl rfl rfl rfl (Int.natCast_nonneg i) hz) rfl ?_)
        | (refine isAp ?_; refine do_R rfl (ap_l (t := rwT) (xs := (rs.take i).flatten) (ys := z) rfl rfl rfl rfl (.lst _ _) (by omega) rfl) rfl ?_)
        | (refine isLp rfl ?_; refine lex_R rfl (by kernel_rfl) rfl (ap_l (t := rwT) (xs := (rs.take i).flatten) (ys := z) rfl rfl rfl rfl (.lst _ _) (by omega) rfl) rfl ?_)
        | refine aops_nil ?_
        | refine lex_done _ rfl (by kernel_rfl) ?_
        | refine aw_ct rfl ?_
        | refine aw_cf rfl ?_
        | refine aw_block ?_
        | refine then_n ?_
        | refine aw_skip ?_
        | refine aw_exit ?_
        | refine then_x ?_
        | refine then_r ?_
        | refine block_x ?_
        | refine block_n ?_
        | refine block_r ?_
        | refine aw_ret ?_
      refine ⟨⟨i + 1, hlt⟩, by simp only; omega, ?_⟩
      exact sub0 [1] rfl rfl (by decide) (.cons rfl rfl rfl rfl (les_eq (by rw [flat_snoc hz]) (flat_noH _ _)) .nil) (by
        repeat' first
          | exact les_nil
          | refine les_cons ?_ ?_
          | exact le_any
          | exact le_refl rfl
          | exact le_sl rfl rfl
          | exact le_sl rfl (by rw [flat_snoc hz, List.length_append])
          | exact le_i (by assumption) (by omega))
    · have hge : i = rs.length := by
        have : ¬ ((i : Int) < rs.length) := by simpa using h
        omega
      subst hge
      repeat' first
        | refine aw_seq ?_
        | refine aw_region ?_
        | refine aw_lex [] ?_
        | (refine isA ?_; refine do_F rfl ?_)
        | (refine isL ?_; refine lex_F rfl (by kernel_rfl) rfl rfl ?_)
        | (refine isLg rfl ?_; refine lex_S rfl (by kernel_rfl) rfl rfl ?_)
        | exact finL (ty := rwT) rfl rfl rfl rfl (by simp) (by simp) (flat_rw _)
        | refine aops_nil ?_
        | refine lex_done _ rfl (by kernel_rfl) ?_
        | refine aw_ct rfl ?_
        | refine aw_cf rfl ?_
        | refine aw_block ?_
        | refine then_n ?_
        | refine aw_skip ?_
        | refine aw_exit ?_
        | refine then_x ?_
        | refine then_r ?_
        | refine block_x ?_
        | refine block_n ?_
        | refine block_r ?_
        | refine aw_ret ?_

theorem c_iflat (rs : List Rn) (hok : okRn rs) (ht : tot rs ≤ 100000000) : Meets Go.Proofs.Try.prog 32 [rnL rs] [] (.sl 0 0 rs.flatten.length) [rwR rs.flatten] false := by
  have hl := hok.1
  refine meets_of [2] Go.Proofs.Try.func32 rfl rfl ?_
  simp only [Go.Proofs.Try.ntmps32, List.length_cons, List.length_nil, Nat.reduceAdd, Nat.reduceSub, List.replicate_succ, List.replicate_zero, List.cons_append, List.nil_append]
  repeat' first
    | refine aw_seq ?_
    | refine aw_region ?_
    | refine aw_lex [] ?_
    | (refine isA ?_; refine do_F rfl ?_)
    | (refine isL ?_; refine lex_F rfl (by kernel_rfl) rfl rfl ?_)
    | (refine isLg rfl ?_; refine lex_S rfl (by kernel_rfl) rfl rfl ?_)
    | refine aops_nil ?_
    | refine lex_done _ rfl (by kernel_rfl) ?_
    | refine aw_ct rfl ?_
    | refine aw_cf rfl ?_
    | refine aw_block ?_
    | refine then_n ?_
    | refine aw_skip ?_
    | refine aw_exit ?_
    | refine then_x ?_
    | refine then_r ?_
    | refine block_x ?_
    | refine block_n ?_
    | refine block_r ?_
    | refine aw_ret ?_
  refine aw_loop (α := { i : Nat // i ≤ rs.length }) (fun i => ⟨[rnL rs, .any, .any, .sl 0 0 (rs.take i.1).flatten.length, .any, .any, .any, rnL rs, I rs.length, I i.1, .any, .any, .any, .any, .any, .any, .any, .any, .any], [rwR (rs.take i.1).flatten], 0⟩) (fun i => rs.length - i.1) ⟨0, Nat.zero_le _⟩ ?_ ?_
  · exact sub_id rfl (by repeat' first | exact EqS.nil | refine EqS.any ?_ | refine EqS.same rfl ?_)
  · rintro ⟨i, hi⟩
    repeat' first
      | refine aw_seq ?_
      | refine aw_region ?_
      | refine aw_lex [] ?_
      | (refine isA ?_; refine do_F rfl ?_)
      | (refine isL ?_; refine lex_F rfl (by kernel_rfl) rfl rfl ?_)
      | (refine isLg rfl ?_; refine lex_S rfl (by kernel_rfl) rfl rfl ?_)
      | refine aops_nil ?_
      | refine lex_done _ rfl (by kernel_rfl) ?_
      | refine aw_ct rfl ?_
      | refine aw_cf rfl ?_
      | refine aw_block ?_
      | refine then_n ?_
      | refine aw_skip ?_
      | refine aw_exit ?_
      | refine then_x ?_
      | refine then_r ?_
      | refine block_x ?_
      | refine block_n ?_
      | refine block_r ?_
      | refine aw_ret ?_
    refine aw_cond rfl (fun h => ?_) (fun h => ?_)
    · have hlt : i < rs.length := by simpa using h
      obtain ⟨z, hz⟩ : ∃ z, rs[i]? = some z := ⟨_, List.getElem?_eq_getElem hlt⟩
      have h1 := tot_le rs (i + 1)
      rw [tot_snoc hz] at h1
      have h2 := flat_len (rs.take i)
      repeat' first
        | refine aw_seq ?_
        | refine aw_region ?_
        | refine aw_lex [] ?_
        | (refine isA ?_; refine do_F rfl ?_)
        | (refine isL ?_; refine lex_F rfl (by kernel_rfl) rfl rfl ?_)
        | (refine isLg rfl ?_; refine lex_S rfl (by kernel_rfl) rfl rfl ?_)
        | (refine isAi ?_; refine do_R rfl (ia_l (t := rnT) (z := z) rfl rfl rfl rfl (Int.natCast_nonneg i) hz) rfl ?_)
        | (refine isLi rfl ?_; refine lex_R rfl (by kernel_rfl) rfl (ia_l (t := rnT) (z := z) rfl rfl rfl rfl (Int.natCast_nonneg i) hz) rfl ?_)
        | (refine isAp ?_; refine do_R rfl (ap_l (t := rwT) (xs := (rs.take i).flatten) (ys := z) rfl rfl rfl rfl (.lst _ _) (by omega) rfl) rfl ?_)
        | (refine isLp rfl ?_; refine lex_R rfl (by kernel_rfl) rfl (ap_l (t := rwT) (xs := (rs.take i).flatten) (ys := z) rfl rfl rfl rfl (.lst _ _) (by omega) rfl) rfl ?_)
        | refine aops_nil ?_
        | refine lex_done _ rfl (by kernel_rfl) ?_
        | refine aw_ct rfl ?_
        | refine aw_cf rfl ?_
        | refine aw_block ?_
        | refine then_n ?_
        | refine aw_skip ?_
        | refine aw_exit ?_
        | refine then_x ?_
        | refine then_r ?_
        | refine block_x ?_
        | refine block_n ?_
        | refine block_r ?_
        | refine aw_ret ?_
      refine ⟨⟨i + 1, hlt⟩, by simp only; omega, ?_⟩
      exact sub0 [2] rfl rfl (by decide) (.cons rfl rfl rfl rfl (les_eq (by rw [flat_snoc hz]) (flat_noH _ _)) .nil) (by
        repeat' first
          | exact les_nil
          | refine les_cons ?_ ?_
          | exact le_any
          | exact le_refl rfl
          | exact le_sl rfl rfl
          | exact le_sl rfl (by rw [flat_snoc hz, List.length_append])
          | exact le_i (by assumption) (by omega))
    · have hge : i = rs.length := by
        have : ¬ ((i : Int) < rs.length) := by simpa using h
        omega
      subst hge
      repeat' first
        | refine aw_seq ?_
        | refine aw_region ?_
        | refine aw_lex [] ?_
        | (refine isA ?_; refine do_F rfl ?_)
        | (refine isL ?_; refine lex_F rfl (by kernel_rfl) rfl rfl ?_)
        | (refine isLg rfl ?_; refine lex_S rfl (by kernel_rfl) rfl rfl ?_)
        | exact finL (ty := rwT) rfl rfl rfl rfl (by simp) (by simp) (flat_rw _)
        | refine aops_nil ?_
        | refine lex_done _ rfl (by kernel_rfl) ?_
        | refine aw_ct rfl ?_
        | refine aw_cf rfl ?_
        | refine aw_block ?_
        | refine then_n ?_
        | refine aw_skip ?_
        | refine aw_exit ?_
        | refine then_x ?_
        | refine then_r ?_
        | refine block_x ?_
        | refine block_n ?_
        | refine block_r ?_
        | refine aw_ret ?_

theorem okRn_all {rs : List Rn} (h1 : rs.length ≤ 9223372036854775807) (h2 : ∀ x ∈ rs, x.length ≤ 9223372036854775807) (h : decide (szR rs 1048576 < 0) = false) : okRn rs ∧ tot rs ≤ 1048576 := by
  obtain ⟨q1, _⟩ := szR_ok h1 h2 (by omega) (by omega) h
  exact ⟨okRn_of (by omega) q1, by omega⟩

theorem law_FlattenRuns (rs : List Rn) (h1 : rs.length ≤ 9223372036854775807) (h2 : ∀ x ∈ rs, x.length ≤ 9223372036854775807) : Meets Go.Proofs.Try.prog 6 [rnL rs] [] (B true) [] false := by
  refine meets_of [2] Go.Proofs.Try.func6 rfl rfl ?_
  simp only [Go.Proofs.Try.ntmps6, List.length_cons, List.length_nil, Nat.reduceAdd, Nat.reduceSub, List.replicate_succ, List.replicate_zero, List.cons_append, List.nil_append]
  repeat' first
    | refine aw_seq ?_
    | refine aw_region ?_
    | refine aw_lex [] ?_
    | (refine isA ?_; refine do_F rfl ?_)
    | (refine isL ?_; refine lex_F rfl (by kernel_rfl) rfl rfl ?_)
    | (refine isLg rfl ?_; refine lex_S rfl (by kernel_rfl) rfl rfl ?_)
    | (refine isAc 29 ?_; refine do_R rfl (st_call rfl (c_szRunS rs _ h1) (.cons (.same rfl) (.cons (.same rfl) .nil)) rfl) rfl ?_)
    | (refine isLc 29 rfl ?_; refine lex_R rfl (by kernel_rfl) rfl (st_call rfl (c_szRunS rs _ h1) (.cons (.same rfl) (.cons (.same rfl) .nil)) rfl) rfl ?_)
    | refine aops_nil ?_
    | refine lex_done _ rfl (by kernel_rfl) ?_
    | refine aw_ct rfl ?_
    | refine aw_cf rfl ?_
    | refine aw_block ?_
    | refine then_n ?_
    | refine aw_skip ?_
    | refine aw_exit ?_
    | refine then_x ?_
    | refine then_r ?_
    | refine block_x ?_
    | refine block_n ?_
    | refine block_r ?_
    | refine aw_ret ?_
  refine aw_cond rfl (fun h => ?_) (fun h => ?_)
  · repeat' first
      | refine aw_seq ?_
      | refine aw_region ?_
      | refine aw_lex [] ?_
      | (refine isA ?_; refine do_F rfl ?_)
      | (refine isL ?_; refine lex_F rfl (by kernel_rfl) rfl rfl ?_)
      | (refine isLg rfl ?_; refine lex_S rfl (by kernel_rfl) rfl rfl ?_)
      | exact fin1 rfl rfl rfl
      | refine aops_nil ?_
      | refine lex_done _ rfl (by kernel_rfl) ?_
      | refine aw_ct rfl ?_
      | refine aw_cf rfl ?_
      | refine aw_block ?_
      | refine then_n ?_
      | refine aw_skip ?_
      | refine aw_exit ?_
      | refine then_x ?_
      | refine then_r ?_
      | refine block_x ?_
      | refine block_n ?_
      | refine block_r ?_
      | refine aw_ret ?_
  obtain ⟨hok, ht⟩ := okRn_all h1 h2 h
  have ht' : tot rs ≤ 100000000 := by omega
  have hfl : rs.flatten.length ≤ 1000000000 := by rw [flat_len]; omega
  have hR : ∀ j x, rs[j]? = some x → (rnN rs)[1 + j]? = some (rwR x) := row_in (K0 := [⟨93, 1, nC 1 rs, 0⟩]) (D := []) rfl (by simp)
  have hR' : ∀ j x, rs[j]? = some x → (rnN rs ++ [rwR rs.flatten])[1 + j]? = some (rwR x) := row_in (K0 := [⟨93, 1, nC 1 rs, 0⟩]) rfl rfl
  have hnl : (rnN rs).length = rs.length + 1 := by simp [nR_length]
  have hg : (rnN rs ++ [rwR rs.flatten])[rs.length + 1]? = some (rwR rs.flatten) := by rw [List.getElem?_append_right (by omega), hnl, Nat.sub_self]; rfl
  have hneg : decide (kk 1 (3 * tot rs) < 0) = false := kk_neg (by omega) (by omega) (by omega)
  repeat' first
    | refine aw_seq ?_
    | refine aw_region ?_
    | refine aw_lex [] ?_
    | (refine isA ?_; refine do_F rfl ?_)
    | (refine isL ?_; refine lex_F rfl (by kernel_rfl) rfl rfl ?_)
    | (refine isLg rfl ?_; refine lex_S rfl (by kernel_rfl) rfl rfl ?_)
    | (refine isAc 31 (x := #[.tmp 16]) ?_; refine do_R rfl (st_call rfl (c_toRunS rs hok) (.cons (.same rfl) .nil) rfl) rfl ?_)
    | (refine isLc 31 (x := #[.tmp 16]) rfl ?_; refine lex_R rfl (by kernel_rfl) rfl (st_call rfl (c_toRunS rs hok) (.cons (.same rfl) .nil) rfl) rfl ?_)
    | (refine isAc 30 ?_; refine do_R rfl (st_call rfl ((c_sflat rs hok ht').frozen (pur_row rfl)) (.cons (.same rfl) .nil) rfl) rfl ?_)
    | (refine isLc 30 rfl ?_; refine lex_R rfl (by kernel_rfl) rfl (st_call rfl ((c_sflat rs hok ht').frozen (pur_row rfl)) (.cons (.same rfl) .nil) rfl) rfl ?_)
    | (refine isAc 31 (x := #[.tmp 19]) ?_; refine do_R rfl (st_callKN (r' := .sl 0 0 rs.length) (H' := rnN rs) rfl (c_toRunSO rs hok) (.cons (.same rfl) .nil) rfl (by simp only [List.nil_append, List.length_nil]; exact nest_sh 0 _ rs)) rfl ?_)
    | (refine isLc 31 (x := #[.tmp 19]) rfl ?_; refine lex_R rfl (by kernel_rfl) rfl (st_callKN (r' := .sl 0 0 rs.length) (H' := rnN rs) rfl (c_toRunSO rs hok) (.cons (.same rfl) .nil) rfl (by simp only [List.nil_append, List.length_nil]; exact nest_sh 0 _ rs)) rfl ?_)
    | (refine isAc 32 ?_; refine do_R rfl (st_callK (r' := .sl (rs.length + 1) 0 rs.flatten.length) (H' := rnN rs ++ [rwR rs.flatten]) rfl (c_iflat rs hok ht') (.cons (pur_nest rfl hR) .nil) (fun q hq => by simp at hq; subst hq; exact flat_noH _ _) (by simp only [hnl, shV, Nat.zero_add]) rfl) rfl ?_)
    | (refine isLc 32 rfl ?_; refine lex_R rfl (by kernel_rfl) rfl (st_callK (r' := .sl (rs.length + 1) 0 rs.flatten.length) (H' := rnN rs ++ [rwR rs.flatten]) rfl (c_iflat rs hok ht') (.cons (pur_nest rfl hR) .nil) (fun q hq => by simp at hq; subst hq; exact flat_noH _ _) (by simp only [hnl, shV, Nat.zero_add]) rfl) rfl ?_)
    | (refine isAc 19 ?_; refine do_R rfl (st_call rfl (c_eqRowS rs.flatten hfl) (.cons (pur_row hg) (.cons (.same rfl) .nil)) rfl) rfl ?_)
    | (refine isLc 19 rfl ?_; refine lex_R rfl (by kernel_rfl) rfl (st_call rfl (c_eqRowS rs.flatten hfl) (.cons (pur_row hg) (.cons (.same rfl) .nil)) rfl) rfl ?_)
    | (refine isAc 31 (x := #[.tmp 28]) ?_; refine do_R rfl (st_call rfl (c_toRunS rs hok) (.cons (.same rfl) .nil) rfl) rfl ?_)
    | (refine isLc 31 (x := #[.tmp 28]) rfl ?_; refine lex_R rfl (by kernel_rfl) rfl (st_call rfl (c_toRunS rs hok) (.cons (.same rfl) .nil) rfl) rfl ?_)
    | (refine isAc 33 ?_; refine do_R rfl (st_call rfl (c_eqRunS rs hok) (.cons (pur_nest rfl hR') (.cons (.same rfl) .nil)) rfl) rfl ?_)
    | (refine isLc 33 rfl ?_; refine lex_R rfl (by kernel_rfl) rfl (st_call rfl (c_eqRunS rs hok) (.cons (pur_nest rfl hR') (.cons (.same rfl) .nil)) rfl) rfl ?_)
    | (refine isAc 34 ?_; refine do_R rfl (st_callN0 (r2 := I (kk 1 (3 * tot rs))) (H' := rnN (mkRu 1 rs) ++ [rwR rs.flatten]) (List.range' 0 (rs.length + 1)) List.nodup_range' rfl (c_markRunS rs 1 hok) (give_nest (mkRu_map 1 rs) rfl hR') (.cons (.sl rfl) (.cons (.same rfl) .nil)) (.same rfl) (by have := setAll_mid (K0 := []) (K := rnN rs) (K' := rnN (mkRu 1 rs)) (D := [rwR rs.flatten]) (by simp [nR_length, mkRu_len]); rw [hnl] at this; exact this)) rfl ?_)
    | (refine isLc 34 rfl ?_; refine lex_R rfl (by kernel_rfl) rfl (st_callN0 (r2 := I (kk 1 (3 * tot rs))) (H' := rnN (mkRu 1 rs) ++ [rwR rs.flatten]) (List.range' 0 (rs.length + 1)) List.nodup_range' rfl (c_markRunS rs 1 hok) (give_nest (mkRu_map 1 rs) rfl hR') (.cons (.sl rfl) (.cons (.same rfl) .nil)) (.same rfl) (by have := setAll_mid (K0 := []) (K := rnN rs) (K' := rnN (mkRu 1 rs)) (D := [rwR rs.flatten]) (by simp [nR_length, mkRu_len]); rw [hnl] at this; exact this)) rfl ?_)
    | refine aops_nil ?_
    | refine lex_done _ rfl (by kernel_rfl) ?_
    | refine aw_ct rfl ?_
    | refine aw_cf rfl ?_
    | refine aw_block ?_
    | refine then_n ?_
    | refine aw_skip ?_
    | refine aw_exit ?_
    | refine then_x ?_
    | refine then_r ?_
    | refine block_x ?_
    | refine block_n ?_
    | refine block_r ?_
    | refine aw_ret ?_
  refine do_br rfl rfl (fun h => by rw [hneg] at h; cases h) (fun _ => ?_)
  have hnl2 : (rnN (mkRu 1 rs)).length = rs.length + 1 := by simp [nR_length, mkRu_len]
  have hg2 : (rnN (mkRu 1 rs) ++ [rwR rs.flatten])[rs.length + 1]? = some (rwR rs.flatten) := by rw [List.getElem?_append_right (by omega), hnl2, Nat.sub_self]; rfl
  repeat' first
    | refine aw_seq ?_
    | refine aw_region ?_
    | refine aw_lex [] ?_
    | (refine isA ?_; refine do_F rfl ?_)
    | (refine isL ?_; refine lex_F rfl (by kernel_rfl) rfl rfl ?_)
    | (refine isLg rfl ?_; refine lex_S rfl (by kernel_rfl) rfl rfl ?_)
    | (refine isAc 19 ?_; refine do_R rfl (st_call rfl (c_eqRowS rs.flatten hfl) (.cons (pur_row hg2) (.cons (.same rfl) .nil)) rfl) rfl ?_)
    | (refine isLc 19 rfl ?_; refine lex_R rfl (by kernel_rfl) rfl (st_call rfl (c_eqRowS rs.flatten hfl) (.cons (pur_row hg2) (.cons (.same rfl) .nil)) rfl) rfl ?_)
    | refine aops_nil ?_
    | refine lex_done _ rfl (by kernel_rfl) ?_
    | refine aw_ct rfl ?_
    | refine aw_cf rfl ?_
    | refine aw_block ?_
    | refine then_n ?_
    | refine aw_skip ?_
    | refine aw_exit ?_
    | refine then_x ?_
    | refine then_r ?_
    | refine block_x ?_
    | refine block_n ?_
    | refine block_r ?_
    | refine aw_ret ?_
  refine aops_sub (T := ⟨((rnL rs) :: .any :: .any :: .any :: (rwL rs.flatten) :: .any :: (.sl 0 0 rs.flatten.length) :: .any :: .any :: .any :: .any :: .any :: .any :: .any :: .any :: .any :: .any :: .any :: .any :: .any :: .any :: .any :: .any :: .any :: .any :: .any :: .any :: .any :: .any :: .any :: .any :: .any :: .any :: .any :: .any :: .any :: .any :: .any :: .any :: .any :: .any :: .any :: .any :: (.sl 0 0 rs.flatten.length) :: (I 1) :: .any :: .any :: .any :: .any :: .any :: .any :: .any :: .any :: .any :: .any :: .any :: .any :: .any :: .any :: .any :: .any :: .any :: .any :: .any :: .any :: .any :: .any :: .any :: .any :: []), [rwR rs.flatten], 0⟩) (sub0 [rs.length + 1] rfl rfl (by simp) (.cons hg2 rfl rfl rfl (les_refl (flat_noH _ _)) .nil) (by repeat' first | exact les_nil | refine les_cons ?_ ?_ | exact le_any | exact le_refl rfl | exact le_sl rfl rfl | exact le_ptr rfl)) ?_
  have hnegf : decide (kk 1 (3 * rs.flatten.length) < 0) = false := by rw [flat_len]; exact hneg
  have hmf := mkC_len 1 (xs := rs.flatten) (Nat.le_refl _)
  repeat' first
    | refine aw_seq ?_
    | refine aw_region ?_
    | refine aw_lex [] ?_
    | (refine isA ?_; refine do_F rfl ?_)
    | (refine isL ?_; refine lex_F rfl (by kernel_rfl) rfl rfl ?_)
    | (refine isLg rfl ?_; refine lex_S rfl (by kernel_rfl) rfl rfl ?_)
    | (refine isAc 27 ?_; refine do_R rfl (step_callMs (K := []) (Rs' := [_]) [0] (by decide) rfl (c_markRowS rs.flatten 1 hfl) (.cons rfl rfl rfl (flat_noH _ _) (flat_noH _ _) .nil) (.cons (.sl rfl) (.cons (.same rfl) .nil)) (fun q hq => by cases hq) rfl) rfl ?_)
    | (refine isLc 27 rfl ?_; refine lex_R rfl (by kernel_rfl) rfl (step_callMs (K := []) (Rs' := [_]) [0] (by decide) rfl (c_markRowS rs.flatten 1 hfl) (.cons rfl rfl rfl (flat_noH _ _) (flat_noH _ _) .nil) (.cons (.sl rfl) (.cons (.same rfl) .nil)) (fun q hq => by cases hq) rfl) rfl ?_)
    | (refine isAc 28 ?_; refine do_R rfl (st_call rfl (c_heldRowS (mkC 1 rs.flatten rs.flatten.length) 1 (by rw [hmf]; exact hfl) mkC_at) (.cons (pur_L rfl rfl rfl hmf.symm) (.cons (.same rfl) .nil)) rfl) rfl ?_)
    | (refine isLc 28 rfl ?_; refine lex_R rfl (by kernel_rfl) rfl (st_call rfl (c_heldRowS (mkC 1 rs.flatten rs.flatten.length) 1 (by rw [hmf]; exact hfl) mkC_at) (.cons (pur_L rfl rfl rfl hmf.symm) (.cons (.same rfl) .nil)) rfl) rfl ?_)
    | refine aops_nil ?_
    | refine lex_done _ rfl (by kernel_rfl) ?_
    | refine aw_ct rfl ?_
    | refine aw_cf rfl ?_
    | refine aw_block ?_
    | refine then_n ?_
    | refine aw_skip ?_
    | refine aw_exit ?_
    | refine then_x ?_
    | refine then_r ?_
    | refine block_x ?_
    | refine block_n ?_
    | refine block_r ?_
    | refine aw_ret ?_
  refine aw_cond rfl (fun h => by rw [hmf, hnegf] at h; cases h) (fun _ => ?_)
  repeat' first
    | refine aw_seq ?_
    | refine aw_region ?_
    | refine aw_lex [] ?_
    | (refine isA ?_; refine do_F rfl ?_)
    | (refine isL ?_; refine lex_F rfl (by kernel_rfl) rfl rfl ?_)
    | (refine isLg rfl ?_; refine lex_S rfl (by kernel_rfl) rfl rfl ?_)
    | refine aops_nil ?_
    | refine lex_done _ rfl (by kernel_rfl) ?_
    | refine aw_ct rfl ?_
    | refine aw_cf rfl ?_
    | refine aw_block ?_
    | refine then_n ?_
    | refine aw_skip ?_
    | refine aw_exit ?_
    | refine then_x ?_
    | refine then_r ?_
    | refine block_x ?_
    | refine block_n ?_
    | refine block_r ?_
    | refine aw_ret ?_
  refine aw_cond rfl (fun h => by rw [hmf] at h; simp at h) (fun _ => ?_)
  repeat' first
    | refine aw_seq ?_
    | refine aw_region ?_
    | refine aw_lex [] ?_
    | (refine isA ?_; refine do_F rfl ?_)
    | (refine isL ?_; refine lex_F rfl (by kernel_rfl) rfl rfl ?_)
    | (refine isLg rfl ?_; refine lex_S rfl (by kernel_rfl) rfl rfl ?_)
    | (refine isAc 31 ?_; refine do_R rfl (st_call rfl (c_toRunS rs hok) (.cons (.same rfl) .nil) rfl) rfl ?_)
    | (refine isLc 31 rfl ?_; refine lex_R rfl (by kernel_rfl) rfl (st_call rfl (c_toRunS rs hok) (.cons (.same rfl) .nil) rfl) rfl ?_)
    | (refine isAc 32 ?_; refine do_R rfl (st_call rfl ((c_iflat rs hok ht').frozen (pur_row rfl)) (.cons (.same rfl) .nil) rfl) rfl ?_)
    | (refine isLc 32 rfl ?_; refine lex_R rfl (by kernel_rfl) rfl (st_call rfl ((c_iflat rs hok ht').frozen (pur_row rfl)) (.cons (.same rfl) .nil) rfl) rfl ?_)
    | (refine isAc 19 ?_; refine do_R rfl (st_call rfl (c_eqRowS rs.flatten hfl) (.cons (.same rfl) (.cons (.same rfl) .nil)) rfl) rfl ?_)
    | (refine isLc 19 rfl ?_; refine lex_R rfl (by kernel_rfl) rfl (st_call rfl (c_eqRowS rs.flatten hfl) (.cons (.same rfl) (.cons (.same rfl) .nil)) rfl) rfl ?_)
    | (refine isAc 28 ?_; refine do_R rfl (st_call rfl (c_heldRowS (mkC 1 rs.flatten rs.flatten.length) 1 (by rw [hmf]; exact hfl) mkC_at) (.cons (pur_L rfl rfl rfl hmf.symm) (.cons (.same rfl) .nil)) rfl) rfl ?_)
    | (refine isLc 28 rfl ?_; refine lex_R rfl (by kernel_rfl) rfl (st_call rfl (c_heldRowS (mkC 1 rs.flatten rs.flatten.length) 1 (by rw [hmf]; exact hfl) mkC_at) (.cons (pur_L rfl rfl rfl hmf.symm) (.cons (.same rfl) .nil)) rfl) rfl ?_)
    | refine aops_nil ?_
    | refine lex_done _ rfl (by kernel_rfl) ?_
    | refine aw_ct rfl ?_
    | refine aw_cf rfl ?_
    | refine aw_block ?_
    | refine then_n ?_
    | refine aw_skip ?_
    | refine aw_exit ?_
    | refine then_x ?_
    | refine then_r ?_
    | refine block_x ?_
    | refine block_n ?_
    | refine block_r ?_
    | refine aw_ret ?_
  refine aw_cond rfl (fun h => by rw [hmf, hnegf] at h; cases h) (fun _ => ?_)
  repeat' first
    | refine aw_seq ?_
    | refine aw_region ?_
    | refine aw_lex [] ?_
    | (refine isA ?_; refine do_F rfl ?_)
    | (refine isL ?_; refine lex_F rfl (by kernel_rfl) rfl rfl ?_)
    | (refine isLg rfl ?_; refine lex_S rfl (by kernel_rfl) rfl rfl ?_)
    | refine aops_nil ?_
    | refine lex_done _ rfl (by kernel_rfl) ?_
    | refine aw_ct rfl ?_
    | refine aw_cf rfl ?_
    | refine aw_block ?_
    | refine then_n ?_
    | refine aw_skip ?_
    | refine aw_exit ?_
    | refine then_x ?_
    | refine then_r ?_
    | refine block_x ?_
    | refine block_n ?_
    | refine block_r ?_
    | refine aw_ret ?_
  refine aw_cond rfl (fun h => by rw [hmf] at h; simp at h) (fun _ => ?_)
  repeat' first
    | refine aw_seq ?_
    | refine aw_region ?_
    | refine aw_lex [] ?_
    | (refine isA ?_; refine do_F rfl ?_)
    | (refine isL ?_; refine lex_F rfl (by kernel_rfl) rfl rfl ?_)
    | (refine isLg rfl ?_; refine lex_S rfl (by kernel_rfl) rfl rfl ?_)
    | exact fin1 rfl rfl rfl
    | refine aops_nil ?_
    | refine lex_done _ rfl (by kernel_rfl) ?_
    | refine aw_ct rfl ?_
    | refine aw_cf rfl ?_
    | refine aw_block ?_
    | refine then_n ?_
    | refine aw_skip ?_
    | refine aw_exit ?_
    | refine then_x ?_
    | refine then_r ?_
    | refine block_x ?_
    | refine block_n ?_
    | refine block_r ?_
    | refine aw_ret ?_
end Go.Proofs.Ytngeppmincgebaa.Ab
