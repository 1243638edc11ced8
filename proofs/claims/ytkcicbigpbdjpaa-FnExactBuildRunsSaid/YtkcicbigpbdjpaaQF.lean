/- Texts BrD in one. -/
import Derived.Test.YtkcicbigpbdjpaaQE
import Derived.Test.YtkcicbigpbdjpaaQA
set_option linter.unusedVariables false
set_option linter.unusedSimpArgs false
set_option maxRecDepth 20000
set_option maxHeartbeats 4000000
/- BrD -/
namespace Go.Proofs.Ytkcicbigpbdjpaa.Ab
open Go.RowKit

theorem law_BuildRuns (xs : List Rw) (g : Int) (hl0 : xs.length ≤ 9223372036854775807) : Meets Go.Proofs.Try.prog 4 [rwL xs, I g] [] (B true) [] false := by
  refine meets_of [4] Go.Proofs.Try.func4 rfl rfl ?_
  simp only [Go.Proofs.Try.ntmps4, List.length_cons, List.length_nil, Nat.reduceAdd, Nat.reduceSub, List.replicate_succ, List.replicate_zero, List.cons_append, List.nil_append]
  repeat' first
    | refine aw_seq ?_
    | refine aw_region ?_
    | refine aw_lex [] ?_
    | (refine isA ?_; refine do_F rfl ?_)
    | (refine isL ?_; refine lex_F rfl (by kernel_rfl) rfl rfl ?_)
    | (refine isLg rfl ?_; refine lex_S rfl (by kernel_rfl) rfl rfl ?_)
    | (refine isAc 33 ?_; refine do_R rfl (st_call rfl (c_szRowS xs _) (.cons (.same rfl) (.cons (.same rfl) .nil)) rfl) rfl ?_)
    | (refine isLc 33 rfl ?_; refine lex_R rfl (by kernel_rfl) rfl (st_call rfl (c_szRowS xs _) (.cons (.same rfl) (.cons (.same rfl) .nil)) rfl) rfl ?_)
    | refine aops_nil ?_
    | refine lex_done _ rfl (by kernel_rfl) ?_
    | refine aw_ct rfl ?_
    | refine aw_cf rfl ?_
    | refine aw_block ?_
    | with_reducible refine then_n ?_
    | refine aw_skip ?_
    | refine aw_exit ?_
    | with_reducible refine then_x ?_
    | with_reducible refine then_r ?_
    | with_reducible refine block_x ?_
    | with_reducible refine block_n ?_
    | with_reducible refine block_r ?_
    | refine aw_ret ?_
  refine aw_cond rfl (fun h => ?_) (fun h => ?_)
  · repeat' first
      | refine aw_seq ?_
      | refine aw_region ?_
      | refine aw_lex [] ?_
      | (refine isA ?_; refine do_F rfl ?_)
      | (refine isL ?_; refine lex_F rfl (by kernel_rfl) rfl rfl ?_)
      | (refine isLg rfl ?_; refine lex_S rfl (by kernel_rfl) rfl rfl ?_)
      | exact fin1 rfl rfl rfl
      | refine aops_nil ?_
      | refine lex_done _ rfl (by kernel_rfl) ?_
      | refine aw_ct rfl ?_
      | refine aw_cf rfl ?_
      | refine aw_block ?_
      | with_reducible refine then_n ?_
      | refine aw_skip ?_
      | refine aw_exit ?_
      | with_reducible refine then_x ?_
      | with_reducible refine then_r ?_
      | with_reducible refine block_x ?_
      | with_reducible refine block_n ?_
      | with_reducible refine block_r ?_
      | refine aw_ret ?_
  obtain ⟨q1, _⟩ := szL_ok hl0 (by omega) (by omega) h
  have hl : xs.length ≤ 1000000000 := by omega
  have hneg : decide (kk 1 (3 * xs.length) < 0) = false := kk_neg (by omega) (by omega) (by omega)
  have hml : (mkC 1 xs xs.length).length = xs.length := mkC_len 1 (Nat.le_refl _)
  rcases Bool.eq_false_or_eq_true (avR xs && inV g 8 60) with hv | hv
  · rw [Bool.and_eq_true] at hv
    obtain ⟨v1, v2⟩ := hv
    obtain ⟨out, hb⟩ := br_ex (xs := xs) (g := g) (inV_iff.1 v2).1 _ (Nat.le_refl _) (bs0_ok xs)
    obtain ⟨o1, o2⟩ := br_tot hb (bs0_ok xs)
    have a1 := c_sbr xs g out v1 v2 hb
    have a2 := c_ibr xs g out v1 v2 hb
    have gok : okRn out := ⟨by omega, fun x hx => by
      have : x.length ≤ tot out := mem_sum (List.mem_map.2 ⟨x, hx, rfl⟩)
      omega⟩
    have hRg : ∀ j x, out[j]? = some x → (rnN out)[1 + j]? = some (rwR x) := row_in (K0 := [⟨39, 1, nC 1 out, 0⟩]) (D := []) rfl (by simp)
    have hng : (rnN out).length = out.length + 1 := by simp [nR_length]
    obtain ⟨G, hGe⟩ : ∃ G : List Reg, G = ⟨39, 1, nC (1 + 1) out, 0⟩ :: nR rwT 71 out := ⟨_, rfl⟩
    have hgO : ∀ r : Reg, ([r] ++ G)[1]? = some ⟨39, 1, nC (1 + 1) out, 0⟩ := fun r => by rw [hGe]; rfl
    have hgR : ∀ r : Reg, ∀ j x, out[j]? = some x → ([r] ++ G)[1 + 1 + j]? = some (rwR x) := fun r j x hx => by
      rw [List.getElem?_append_right (by simp; omega), show 1 + 1 + j - [r].length = j + 1 by simp; omega, hGe, List.getElem?_cons_succ]
      exact nR_at hx
    have hnegg : decide (kk 1 (3 * tot out) < 0) = false := kk_neg (by omega) (by omega) (by omega)
    repeat' first
      | (refine isA ?_; refine do_R rfl (neqB_same rfl rfl rfl (by kernel_rfl)) rfl ?_)
      | refine aw_seq ?_
      | refine aw_region ?_
      | refine aw_lex [] ?_
      | (refine isA ?_; refine do_F rfl ?_)
      | (refine isL ?_; refine lex_F rfl (by kernel_rfl) rfl rfl ?_)
      | (refine isLg rfl ?_; refine lex_S rfl (by kernel_rfl) rfl rfl ?_)
      | (refine isAc 34 (x := #[.tmp 28]) ?_; refine do_R rfl (st_callK rfl (c_toRowSO xs hl) (.cons (.same rfl) .nil) (fun q hq => by simp at hq; subst hq; exact flat_noH _ _) rfl rfl) rfl ?_)
      | (refine isLc 34 (x := #[.tmp 28]) rfl ?_; refine lex_R rfl (by kernel_rfl) rfl (st_callK rfl (c_toRowSO xs hl) (.cons (.same rfl) .nil) (fun q hq => by simp at hq; subst hq; exact flat_noH _ _) rfl rfl) rfl ?_)
      | (refine isAc 34 ?_; refine do_R rfl (st_call rfl (c_toRowS xs hl) (.cons (.same rfl) .nil) rfl) rfl ?_)
      | (refine isLc 34 rfl ?_; refine lex_R rfl (by kernel_rfl) rfl (st_call rfl (c_toRowS xs hl) (.cons (.same rfl) .nil) rfl) rfl ?_)
      | (refine isAc 18 ?_; refine do_R rfl (st_call rfl a1 (.cons (.same rfl) (.cons (.same rfl) .nil)) rfl) rfl ?_)
      | (refine isLc 18 rfl ?_; refine lex_R rfl (by kernel_rfl) rfl (st_call rfl a1 (.cons (.same rfl) (.cons (.same rfl) .nil)) rfl) rfl ?_)
      | (refine isAc 17 (x := #[.tmp 31, .tmp 32]) ?_; refine do_R rfl (st_callKN (r' := .tup [.sl 1 0 out.length, B true]) (H' := [rwR xs] ++ G) rfl a2 (.cons (pur_row rfl) (.cons (.same rfl) .nil)) rfl (by rw [hGe, nest_sh]; rfl)) rfl ?_)
      | (refine isLc 17 (x := #[.tmp 31, .tmp 32]) rfl ?_; refine lex_R rfl (by kernel_rfl) rfl (st_callKN (r' := .tup [.sl 1 0 out.length, B true]) (H' := [rwR xs] ++ G) rfl a2 (.cons (pur_row rfl) (.cons (.same rfl) .nil)) rfl (by rw [hGe, nest_sh]; rfl)) rfl ?_)
      | (refine isAc 35 (x := #[.tmp 36, .tmp 37]) ?_; refine do_R rfl (st_call rfl (c_eqRunS out gok) (.cons (pur_nest (hgO _) (hgR _)) (.cons (.same rfl) .nil)) rfl) rfl ?_)
      | (refine isLc 35 (x := #[.tmp 36, .tmp 37]) rfl ?_; refine lex_R rfl (by kernel_rfl) rfl (st_call rfl (c_eqRunS out gok) (.cons (pur_nest (hgO _) (hgR _)) (.cons (.same rfl) .nil)) rfl) rfl ?_)
      | (refine isAc 36 ?_; refine do_R rfl (st_call rfl (c_eqRowS xs hl) (.cons (pur_row rfl) (.cons (.same rfl) .nil)) rfl) rfl ?_)
      | (refine isLc 36 rfl ?_; refine lex_R rfl (by kernel_rfl) rfl (st_call rfl (c_eqRowS xs hl) (.cons (pur_row rfl) (.cons (.same rfl) .nil)) rfl) rfl ?_)
      | (refine isAc 37 ?_; refine do_R rfl (st_callMs (K := []) (Rs' := [rwR (mkC 1 xs xs.length)]) (H' := [rwR (mkC 1 xs xs.length)] ++ G) [0] (by decide) rfl (c_markRowS xs 1 hl) (.cons rfl rfl rfl (flat_noH _ _) (flat_noH _ _) .nil) (.cons (.sl rfl) (.cons (.same rfl) .nil)) (fun q hq => by cases hq) rfl (by simp [setAll])) rfl ?_)
      | (refine isLc 37 rfl ?_; refine lex_R rfl (by kernel_rfl) rfl (st_callMs (K := []) (Rs' := [rwR (mkC 1 xs xs.length)]) (H' := [rwR (mkC 1 xs xs.length)] ++ G) [0] (by decide) rfl (c_markRowS xs 1 hl) (.cons rfl rfl rfl (flat_noH _ _) (flat_noH _ _) .nil) (.cons (.sl rfl) (.cons (.same rfl) .nil)) (fun q hq => by cases hq) rfl (by simp [setAll])) rfl ?_)
      | refine aops_nil ?_
      | refine lex_done _ rfl (by kernel_rfl) ?_
      | refine aw_ct rfl ?_
      | refine aw_cf rfl ?_
      | refine aw_block ?_
      | with_reducible refine then_n ?_
      | refine aw_skip ?_
      | refine aw_exit ?_
      | with_reducible refine then_x ?_
      | with_reducible refine then_r ?_
      | with_reducible refine block_x ?_
      | with_reducible refine block_n ?_
      | with_reducible refine block_r ?_
      | refine aw_ret ?_
    refine do_br rfl rfl (fun h => by rw [hneg] at h; cases h) (fun _ => ?_)
    repeat' first
      | (refine isA ?_; refine do_R rfl (neqB_same rfl rfl rfl (by kernel_rfl)) rfl ?_)
      | refine aw_seq ?_
      | refine aw_region ?_
      | refine aw_lex [] ?_
      | (refine isA ?_; refine do_F rfl ?_)
      | (refine isL ?_; refine lex_F rfl (by kernel_rfl) rfl rfl ?_)
      | (refine isLg rfl ?_; refine lex_S rfl (by kernel_rfl) rfl rfl ?_)
      | (refine isAc 35 ?_; refine do_R rfl (st_call rfl (c_eqRunS out gok) (.cons (pur_nest (hgO _) (hgR _)) (.cons (.same rfl) .nil)) rfl) rfl ?_)
      | (refine isLc 35 rfl ?_; refine lex_R rfl (by kernel_rfl) rfl (st_call rfl (c_eqRunS out gok) (.cons (pur_nest (hgO _) (hgR _)) (.cons (.same rfl) .nil)) rfl) rfl ?_)
      | refine aops_nil ?_
      | refine lex_done _ rfl (by kernel_rfl) ?_
      | refine aw_ct rfl ?_
      | refine aw_cf rfl ?_
      | refine aw_block ?_
      | with_reducible refine then_n ?_
      | refine aw_skip ?_
      | refine aw_exit ?_
      | with_reducible refine then_x ?_
      | with_reducible refine then_r ?_
      | with_reducible refine block_x ?_
      | with_reducible refine block_n ?_
      | with_reducible refine block_r ?_
      | refine aw_ret ?_
    have hRm : ∀ j x, (mkRu 1 out)[j]? = some x → (rnN (mkRu 1 out))[1 + j]? = some (rwR x) := row_in (K0 := [⟨39, 1, nC 1 (mkRu 1 out), 0⟩]) (D := []) rfl (by simp)
    have hRg' := hRg
    have held := c_heldRunS out 1 gok (by omega) (by omega) (by omega)
    refine aops_sub (T := ⟨((rwL xs) :: (I g) :: .any :: .any :: .any :: .any :: (rnL out) :: (B true) :: .any :: (.sl 0 0 out.length) :: .any :: .any :: .any :: .any :: .any :: .any :: .any :: .any :: .any :: .any :: .any :: .any :: .any :: .any :: .any :: .any :: .any :: .any :: .any :: .any :: .any :: .any :: .any :: .any :: .any :: .any :: .any :: .any :: .any :: .any :: .any :: .any :: .any :: .any :: .any :: .any :: .any :: .any :: .any :: .any :: .any :: .any :: .any :: .any :: .any :: .any :: .any :: .any :: .any :: .any :: .any :: .any :: .any :: .any :: .any :: .any :: (.sl 0 0 out.length) :: (I 1) :: .any :: .any :: .any :: .any :: .any :: .any :: .any :: .any :: .any :: .any :: .any :: .any :: .any :: .any :: .any :: .any :: .any :: .any :: .any :: .any :: .any :: .any :: .any :: .any :: .any :: .any :: .any :: .any :: .any :: .any :: .any :: .any :: .any :: []), rnN out, 0⟩) (sub_of ([1] ++ List.range' (1 + 1) out.length) rfl (fun i hi => absurd hi (Nat.not_lt_zero _)) (hle_nest (hs := [1]) (K1 := [⟨39, 1, nC 1 out, 0⟩]) (psi_nodup (by simp) (fun h hh => by simp at hh; omega)) (.cons (hgO _) rfl rfl rfl (les_nC fun j hj => psi_at [1] (1 + 1) out.length j hj) .nil) (hgR _)) (by repeat' first | exact les_nil | refine les_cons ?_ ?_ | exact le_any | exact le_refl rfl | exact le_sl rfl rfl | exact le_ptr rfl)) ?_
    repeat' first
      | refine aw_seq ?_
      | refine aw_region ?_
      | refine aw_lex [] ?_
      | (refine isA ?_; refine do_F rfl ?_)
      | (refine isL ?_; refine lex_F rfl (by kernel_rfl) rfl rfl ?_)
      | (refine isLg rfl ?_; refine lex_S rfl (by kernel_rfl) rfl rfl ?_)
      | (refine isAc 38 ?_; refine do_R rfl (st_callN0 (r2 := I (kk 1 (3 * tot out))) (H' := rnN (mkRu 1 out)) (List.range' 0 (out.length + 1)) List.nodup_range' rfl (c_markRunS out 1 gok) (give_nest (mkRu_map 1 out) rfl hRg) (.cons (.sl rfl) (.cons (.same rfl) .nil)) (.same rfl) (by have := setAll_mid (K0 := []) (K := rnN out) (K' := rnN (mkRu 1 out)) (D := []) (by simp [nR_length, mkRu_len]); rw [hng, List.append_nil, List.append_nil] at this; exact this)) rfl ?_)
      | (refine isLc 38 rfl ?_; refine lex_R rfl (by kernel_rfl) rfl (st_callN0 (r2 := I (kk 1 (3 * tot out))) (H' := rnN (mkRu 1 out)) (List.range' 0 (out.length + 1)) List.nodup_range' rfl (c_markRunS out 1 gok) (give_nest (mkRu_map 1 out) rfl hRg) (.cons (.sl rfl) (.cons (.same rfl) .nil)) (.same rfl) (by have := setAll_mid (K0 := []) (K := rnN out) (K' := rnN (mkRu 1 out)) (D := []) (by simp [nR_length, mkRu_len]); rw [hng, List.append_nil, List.append_nil] at this; exact this)) rfl ?_)
      | (refine isAc 39 ?_; refine do_R rfl (st_call rfl held (.cons (pur_mkN rfl hRm) (.cons (.same rfl) .nil)) rfl) rfl ?_)
      | (refine isLc 39 rfl ?_; refine lex_R rfl (by kernel_rfl) rfl (st_call rfl held (.cons (pur_mkN rfl hRm) (.cons (.same rfl) .nil)) rfl) rfl ?_)
      | refine aops_nil ?_
      | refine lex_done _ rfl (by kernel_rfl) ?_
      | refine aw_ct rfl ?_
      | refine aw_cf rfl ?_
      | refine aw_block ?_
      | with_reducible refine then_n ?_
      | refine aw_skip ?_
      | refine aw_exit ?_
      | with_reducible refine then_x ?_
      | with_reducible refine then_r ?_
      | with_reducible refine block_x ?_
      | with_reducible refine block_n ?_
      | with_reducible refine block_r ?_
      | refine aw_ret ?_
    refine aw_cond rfl (fun h => by rw [hnegg] at h; cases h) (fun _ => ?_)
    repeat' first
      | (refine isA ?_; refine do_R rfl (neqB_same rfl rfl rfl (by kernel_rfl)) rfl ?_)
      | (refine isA ?_; refine do_R rfl (neqI_same rfl rfl rfl) rfl ?_)
      | refine aw_seq ?_
      | refine aw_region ?_
      | refine aw_lex [] ?_
      | (refine isA ?_; refine do_F rfl ?_)
      | (refine isL ?_; refine lex_F rfl (by kernel_rfl) rfl rfl ?_)
      | (refine isLg rfl ?_; refine lex_S rfl (by kernel_rfl) rfl rfl ?_)
      | (refine isAc 34 ?_; refine do_R rfl (st_call rfl (c_toRowS xs hl) (.cons (.same rfl) .nil) rfl) rfl ?_)
      | (refine isLc 34 rfl ?_; refine lex_R rfl (by kernel_rfl) rfl (st_call rfl (c_toRowS xs hl) (.cons (.same rfl) .nil) rfl) rfl ?_)
      | (refine isAc 17 ?_; refine do_R rfl (st_call rfl (a2.frozen (r' := .tup [rnL out, B true]) (.tup (.cons (pur_nest rfl hRg) (.cons (.same rfl) .nil)))) (.cons (.same rfl) (.cons (.same rfl) .nil)) rfl) rfl ?_)
      | (refine isLc 17 rfl ?_; refine lex_R rfl (by kernel_rfl) rfl (st_call rfl (a2.frozen (r' := .tup [rnL out, B true]) (.tup (.cons (pur_nest rfl hRg) (.cons (.same rfl) .nil)))) (.cons (.same rfl) (.cons (.same rfl) .nil)) rfl) rfl ?_)
      | (refine isAc 35 ?_; refine do_R rfl (st_call rfl (c_eqRunS out gok) (.cons (.same rfl) (.cons (.same rfl) .nil)) rfl) rfl ?_)
      | (refine isLc 35 rfl ?_; refine lex_R rfl (by kernel_rfl) rfl (st_call rfl (c_eqRunS out gok) (.cons (.same rfl) (.cons (.same rfl) .nil)) rfl) rfl ?_)
      | (refine isAc 39 ?_; refine do_R rfl (st_call rfl held (.cons (pur_mkN rfl hRm) (.cons (.same rfl) .nil)) rfl) rfl ?_)
      | (refine isLc 39 rfl ?_; refine lex_R rfl (by kernel_rfl) rfl (st_call rfl held (.cons (pur_mkN rfl hRm) (.cons (.same rfl) .nil)) rfl) rfl ?_)
      | refine aops_nil ?_
      | refine lex_done _ rfl (by kernel_rfl) ?_
      | refine aw_ct rfl ?_
      | refine aw_cf rfl ?_
      | refine aw_block ?_
      | with_reducible refine then_n ?_
      | refine aw_skip ?_
      | refine aw_exit ?_
      | with_reducible refine then_x ?_
      | with_reducible refine then_r ?_
      | with_reducible refine block_x ?_
      | with_reducible refine block_n ?_
      | with_reducible refine block_r ?_
      | refine aw_ret ?_
    refine aw_cond rfl (fun h => by rw [hnegg] at h; cases h) (fun _ => ?_)
    repeat' first
      | (refine isA ?_; refine do_R rfl (neqI_same rfl rfl rfl) rfl ?_)
      | refine aw_seq ?_
      | refine aw_region ?_
      | refine aw_lex [] ?_
      | (refine isA ?_; refine do_F rfl ?_)
      | (refine isL ?_; refine lex_F rfl (by kernel_rfl) rfl rfl ?_)
      | (refine isLg rfl ?_; refine lex_S rfl (by kernel_rfl) rfl rfl ?_)
      | exact fin1 rfl rfl rfl
      | refine aops_nil ?_
      | refine lex_done _ rfl (by kernel_rfl) ?_
      | refine aw_ct rfl ?_
      | refine aw_cf rfl ?_
      | refine aw_block ?_
      | with_reducible refine then_n ?_
      | refine aw_skip ?_
      | refine aw_exit ?_
      | with_reducible refine then_x ?_
      | with_reducible refine then_r ?_
      | with_reducible refine block_x ?_
      | with_reducible refine block_n ?_
      | with_reducible refine block_r ?_
      | refine aw_ret ?_
  · have a1 := c_sbr0 xs g hl hv
    have a2 := c_ibr0 xs g hl hv
    have e0 : okRn ([] : List Rn) := ⟨Nat.zero_le _, fun x hx => by cases hx⟩
    have c0 := c_eqRunS [] e0
    have held := c_heldRunS [] 1 e0 (by omega) (by omega) (Nat.zero_le _)
    repeat' first
      | (refine isA ?_; refine do_R rfl (neqB_same rfl rfl rfl (by kernel_rfl)) rfl ?_)
      | refine aw_seq ?_
      | refine aw_region ?_
      | refine aw_lex [] ?_
      | (refine isA ?_; refine do_F rfl ?_)
      | (refine isL ?_; refine lex_F rfl (by kernel_rfl) rfl rfl ?_)
      | (refine isLg rfl ?_; refine lex_S rfl (by kernel_rfl) rfl rfl ?_)
      | (refine isAc 34 (x := #[.tmp 28]) ?_; refine do_R rfl (st_callK rfl (c_toRowSO xs hl) (.cons (.same rfl) .nil) (fun q hq => by simp at hq; subst hq; exact flat_noH _ _) rfl rfl) rfl ?_)
      | (refine isLc 34 (x := #[.tmp 28]) rfl ?_; refine lex_R rfl (by kernel_rfl) rfl (st_callK rfl (c_toRowSO xs hl) (.cons (.same rfl) .nil) (fun q hq => by simp at hq; subst hq; exact flat_noH _ _) rfl rfl) rfl ?_)
      | (refine isAc 34 ?_; refine do_R rfl (st_call rfl (c_toRowS xs hl) (.cons (.same rfl) .nil) rfl) rfl ?_)
      | (refine isLc 34 rfl ?_; refine lex_R rfl (by kernel_rfl) rfl (st_call rfl (c_toRowS xs hl) (.cons (.same rfl) .nil) rfl) rfl ?_)
      | (refine isAc 18 ?_; refine do_R rfl (st_call rfl a1 (.cons (.same rfl) (.cons (.same rfl) .nil)) rfl) rfl ?_)
      | (refine isLc 18 rfl ?_; refine lex_R rfl (by kernel_rfl) rfl (st_call rfl a1 (.cons (.same rfl) (.cons (.same rfl) .nil)) rfl) rfl ?_)
      | (refine isAc 17 (x := #[.tmp 31, .tmp 32]) ?_; refine do_R rfl (st_call rfl a2 (.cons (pur_row rfl) (.cons (.same rfl) .nil)) rfl) rfl ?_)
      | (refine isLc 17 (x := #[.tmp 31, .tmp 32]) rfl ?_; refine lex_R rfl (by kernel_rfl) rfl (st_call rfl a2 (.cons (pur_row rfl) (.cons (.same rfl) .nil)) rfl) rfl ?_)
      | (refine isAc 35 ?_; refine do_R rfl (st_call rfl c0 (.cons .nil (.cons (.same rfl) .nil)) rfl) rfl ?_)
      | (refine isLc 35 rfl ?_; refine lex_R rfl (by kernel_rfl) rfl (st_call rfl c0 (.cons .nil (.cons (.same rfl) .nil)) rfl) rfl ?_)
      | (refine isAc 36 ?_; refine do_R rfl (st_call rfl (c_eqRowS xs hl) (.cons (pur_row rfl) (.cons (.same rfl) .nil)) rfl) rfl ?_)
      | (refine isLc 36 rfl ?_; refine lex_R rfl (by kernel_rfl) rfl (st_call rfl (c_eqRowS xs hl) (.cons (pur_row rfl) (.cons (.same rfl) .nil)) rfl) rfl ?_)
      | (refine isAc 37 ?_; refine do_R rfl (step_callMs (K := []) (Rs' := [rwR (mkC 1 xs xs.length)]) [0] (by decide) rfl (c_markRowS xs 1 hl) (.cons rfl rfl rfl (flat_noH _ _) (flat_noH _ _) .nil) (.cons (.sl rfl) (.cons (.same rfl) .nil)) (fun q hq => by cases hq) rfl) rfl ?_)
      | (refine isLc 37 rfl ?_; refine lex_R rfl (by kernel_rfl) rfl (step_callMs (K := []) (Rs' := [rwR (mkC 1 xs xs.length)]) [0] (by decide) rfl (c_markRowS xs 1 hl) (.cons rfl rfl rfl (flat_noH _ _) (flat_noH _ _) .nil) (.cons (.sl rfl) (.cons (.same rfl) .nil)) (fun q hq => by cases hq) rfl) rfl ?_)
      | refine aops_nil ?_
      | refine lex_done _ rfl (by kernel_rfl) ?_
      | refine aw_ct rfl ?_
      | refine aw_cf rfl ?_
      | refine aw_block ?_
      | with_reducible refine then_n ?_
      | refine aw_skip ?_
      | refine aw_exit ?_
      | with_reducible refine then_x ?_
      | with_reducible refine then_r ?_
      | with_reducible refine block_x ?_
      | with_reducible refine block_n ?_
      | with_reducible refine block_r ?_
      | refine aw_ret ?_
    refine do_br rfl rfl (fun h => by rw [hneg] at h; cases h) (fun _ => ?_)
    repeat' first
      | (refine isA ?_; refine do_R rfl (neqB_same rfl rfl rfl (by kernel_rfl)) rfl ?_)
      | (refine isA ?_; refine do_R rfl (neqI_same rfl rfl rfl) rfl ?_)
      | refine aw_seq ?_
      | refine aw_region ?_
      | refine aw_lex [] ?_
      | (refine isA ?_; refine do_F rfl ?_)
      | (refine isL ?_; refine lex_F rfl (by kernel_rfl) rfl rfl ?_)
      | (refine isLg rfl ?_; refine lex_S rfl (by kernel_rfl) rfl rfl ?_)
      | (refine isAc 34 ?_; refine do_R rfl (st_call rfl (c_toRowS xs hl) (.cons (.same rfl) .nil) rfl) rfl ?_)
      | (refine isLc 34 rfl ?_; refine lex_R rfl (by kernel_rfl) rfl (st_call rfl (c_toRowS xs hl) (.cons (.same rfl) .nil) rfl) rfl ?_)
      | (refine isAc 35 ?_; refine do_R rfl (st_call rfl c0 (.cons .nil (.cons (.same rfl) .nil)) rfl) rfl ?_)
      | (refine isLc 35 rfl ?_; refine lex_R rfl (by kernel_rfl) rfl (st_call rfl c0 (.cons .nil (.cons (.same rfl) .nil)) rfl) rfl ?_)
      | (refine isAc 38 ?_; refine do_R rfl (st_call rfl (c_markRun0 1) (.cons (.same rfl) (.cons (.same rfl) .nil)) rfl) rfl ?_)
      | (refine isLc 38 rfl ?_; refine lex_R rfl (by kernel_rfl) rfl (st_call rfl (c_markRun0 1) (.cons (.same rfl) (.cons (.same rfl) .nil)) rfl) rfl ?_)
      | (refine isAc 39 ?_; refine do_R rfl (st_call rfl held (.cons .nil (.cons (.same rfl) .nil)) rfl) rfl ?_)
      | (refine isLc 39 rfl ?_; refine lex_R rfl (by kernel_rfl) rfl (st_call rfl held (.cons .nil (.cons (.same rfl) .nil)) rfl) rfl ?_)
      | (refine isAc 17 ?_; refine do_R rfl (st_call rfl a2 (.cons (.same rfl) (.cons (.same rfl) .nil)) rfl) rfl ?_)
      | (refine isLc 17 rfl ?_; refine lex_R rfl (by kernel_rfl) rfl (st_call rfl a2 (.cons (.same rfl) (.cons (.same rfl) .nil)) rfl) rfl ?_)
      | exact fin1 rfl rfl rfl
      | refine aops_nil ?_
      | refine lex_done _ rfl (by kernel_rfl) ?_
      | refine aw_ct rfl ?_
      | refine aw_cf rfl ?_
      | refine aw_block ?_
      | with_reducible refine then_n ?_
      | refine aw_skip ?_
      | refine aw_exit ?_
      | with_reducible refine then_x ?_
      | with_reducible refine then_r ?_
      | with_reducible refine block_x ?_
      | with_reducible refine block_n ?_
      | with_reducible refine block_r ?_
      | refine aw_ret ?_
end Go.Proofs.Ytkcicbigpbdjpaa.Ab
