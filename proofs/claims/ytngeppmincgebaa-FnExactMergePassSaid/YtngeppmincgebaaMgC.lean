/-
  MergePass: the law.
-/
import Derived.Test.YtngeppmincgebaaMgB
import Derived.Test.YtngeppmincgebaaRnD
namespace Go.Proofs.Ytngeppmincgebaa.Ab
open Go.RowKit
set_option linter.unusedVariables false
set_option linter.unusedSimpArgs false
set_option maxRecDepth 20000
set_option maxHeartbeats 4000000

theorem mp_len : ∀ rs : List Rn, (mpV rs).length ≤ rs.length
  | [] => Nat.le_refl _
  | [x] => Nat.le_refl _
  | x :: y :: r => by have := mp_len r; simp only [mpV, List.length_cons]; omega
theorem mp_tot : ∀ rs : List Rn, tot (mpV rs) = tot rs
  | [] => rfl
  | [x] => rfl
  | x :: y :: r => by
    have h1 := mp_tot r
    have h2 := mg_len x y
    simp only [tot] at h1 ⊢
    simp only [mpV, List.map_cons, List.sum_cons, h1, h2]
    omega
theorem mp_ok {rs : List Rn} (h1 : rs.length ≤ 10000000) (h2 : tot rs ≤ 10000000) : okRn (mpV rs) ∧ tot (mpV rs) ≤ 10000000 ∧ (mpV rs).length ≤ 10000000 := by
  have e := mp_tot rs
  have l := mp_len rs
  refine ⟨⟨by omega, fun x hx => ?_⟩, by omega, by omega⟩
  have : x.length ≤ tot (mpV rs) := mem_sum (List.mem_map.2 ⟨x, hx, rfl⟩)
  omega
theorem pur_mkN {H : List Reg} {h b ty : Nat} {rs : List Rn} {k : Int} (hH : H[h]? = some ⟨ty, 1, nC b (mkRu k rs), 0⟩) (hR : ∀ j x, (mkRu k rs)[j]? = some x → H[b + j]? = some (rwR x)) : Pur true H (.sl h 0 rs.length) (rnL (mkRu k rs)) := by
  have := pur_nest (T := rwT) hH hR
  rwa [mkRu_len] at this

theorem law_MergePass (rs : List Rn) (h1 : rs.length ≤ 9223372036854775807) (h2 : ∀ x ∈ rs, x.length ≤ 9223372036854775807) : Meets Go.Proofs.Try.prog 13 [rnL rs] [] (B true) [] false := by
  refine meets_of [2] Go.Proofs.Try.func13 rfl rfl ?_
  simp only [Go.Proofs.Try.ntmps13, List.length_cons, List.length_nil, Nat.reduceAdd, Nat.reduceSub, List.replicate_succ, List.replicate_zero, List.cons_append, List.nil_append]
  repeat' first
    | refine aw_seq ?_
    | refine aw_region ?_
    | refine aw_lex [] ?_
    | (refine isA ?_; refine do_F rfl ?_)
    | (refine isL ?_; refine lex_F rfl (by kernel_rfl) rfl rfl ?_)
    | (refine isLg rfl ?_; refine lex_S rfl (by kernel_rfl) rfl rfl ?_)
    | (refine isAc 29 ?_; refine do_R rfl (st_call rfl (c_szRunS rs _ h1) (.cons (.same rfl) (.cons (.same rfl) .nil)) rfl) rfl ?_)
    | (refine isLc 29 rfl ?_; refine lex_R rfl (by kernel_rfl) rfl (st_call rfl (c_szRunS rs _ h1) (.cons (.same rfl) (.cons (.same rfl) .nil)) rfl) rfl ?_)
    | refine aops_nil ?_
    | refine lex_done _ rfl (by kernel_rfl) ?_
    | refine aw_ct rfl ?_
    | refine aw_cf rfl ?_
    | refine aw_block ?_
    | refine then_n ?_
    | refine aw_skip ?_
    | refine aw_exit ?_
    | refine then_x ?_
    | refine then_r ?_
    | refine block_x ?_
    | refine block_n ?_
    | refine block_r ?_
    | refine aw_ret ?_
  refine aw_cond rfl (fun h => ?_) (fun h => ?_)
  · repeat' first
      | refine aw_seq ?_
      | refine aw_region ?_
      | refine aw_lex [] ?_
      | (refine isA ?_; refine do_F rfl ?_)
      | (refine isL ?_; refine lex_F rfl (by kernel_rfl) rfl rfl ?_)
      | (refine isLg rfl ?_; refine lex_S rfl (by kernel_rfl) rfl rfl ?_)
      | exact fin1 rfl rfl rfl
      | refine aops_nil ?_
      | refine lex_done _ rfl (by kernel_rfl) ?_
      | refine aw_ct rfl ?_
      | refine aw_cf rfl ?_
      | refine aw_block ?_
      | refine then_n ?_
      | refine aw_skip ?_
      | refine aw_exit ?_
      | refine then_x ?_
      | refine then_r ?_
      | refine block_x ?_
      | refine block_n ?_
      | refine block_r ?_
      | refine aw_ret ?_
  obtain ⟨hok, ht⟩ := okRn_all h1 h2 h
  obtain ⟨q1, q2⟩ := szR_ok h1 h2 (by omega) (by omega) h
  have hlr : rs.length ≤ 10000000 := by omega
  obtain ⟨gok, gt, gl⟩ := mp_ok hlr (by omega : tot rs ≤ 10000000)
  have c0 := c_imp rs hlr (by omega)
  have c1 := c_smp rs hlr (by omega)
  have gtt := mp_tot rs
  generalize mpV rs = g at gok gt gl c0 c1 gtt
  have hR : ∀ j x, rs[j]? = some x → (rnN rs)[1 + j]? = some (rwR x) := row_in (K0 := [⟨93, 1, nC 1 rs, 0⟩]) (D := []) rfl (by simp)
  have hRg : ∀ j x, g[j]? = some x → (rnN g)[1 + j]? = some (rwR x) := row_in (K0 := [⟨93, 1, nC 1 g, 0⟩]) (D := []) rfl (by simp)
  have hnl : (rnN rs).length = rs.length + 1 := by simp [nR_length]
  have hng : (rnN g).length = g.length + 1 := by simp [nR_length]
  obtain ⟨G, hGe⟩ : ∃ G : List Reg, G = ⟨93, 1, nC (1 + (rs.length + 1)) g, 0⟩ :: nR rwT 75 g := ⟨_, rfl⟩
  have hR' : ∀ j x, rs[j]? = some x → (rnN rs ++ G)[1 + j]? = some (rwR x) := row_in (K0 := [⟨93, 1, nC 1 rs, 0⟩]) rfl rfl
  have hgO : ∀ K : List Reg, K.length = rs.length + 1 → (K ++ G)[rs.length + 1]? = some ⟨93, 1, nC (1 + (rs.length + 1)) g, 0⟩ := fun K hK => by rw [List.getElem?_append_right (by omega), hK, Nat.sub_self, hGe]; rfl
  have hgR : ∀ K : List Reg, K.length = rs.length + 1 → ∀ j x, g[j]? = some x → (K ++ G)[1 + (rs.length + 1) + j]? = some (rwR x) := fun K hK j x hx => by
    rw [List.getElem?_append_right (by omega), hK, show 1 + (rs.length + 1) + j - (rs.length + 1) = j + 1 by omega, hGe, List.getElem?_cons_succ]
    exact nR_at hx
  have hneg : decide (kk 1 (3 * tot rs) < 0) = false := kk_neg (by omega) (by omega) (by omega)
  have hnegg : decide (kk 1 (3 * tot g) < 0) = false := kk_neg (by omega) (by omega) (by omega)
  repeat' first
    | refine aw_seq ?_
    | refine aw_region ?_
    | refine aw_lex [] ?_
    | (refine isA ?_; refine do_F rfl ?_)
    | (refine isL ?_; refine lex_F rfl (by kernel_rfl) rfl rfl ?_)
    | (refine isLg rfl ?_; refine lex_S rfl (by kernel_rfl) rfl rfl ?_)
    | (refine isAc 31 (x := #[.tmp 16]) ?_; refine do_R rfl (st_call rfl (c_toRunS rs hok) (.cons (.same rfl) .nil) rfl) rfl ?_)
    | (refine isLc 31 (x := #[.tmp 16]) rfl ?_; refine lex_R rfl (by kernel_rfl) rfl (st_call rfl (c_toRunS rs hok) (.cons (.same rfl) .nil) rfl) rfl ?_)
    | (refine isAc 57 ?_; refine do_R rfl (st_call rfl (c1.frozen (pur_nest rfl hRg)) (.cons (.same rfl) .nil) rfl) rfl ?_)
    | (refine isLc 57 rfl ?_; refine lex_R rfl (by kernel_rfl) rfl (st_call rfl (c1.frozen (pur_nest rfl hRg)) (.cons (.same rfl) .nil) rfl) rfl ?_)
    | (refine isAc 31 (x := #[.tmp 19]) ?_; refine do_R rfl (st_callKN (r' := .sl 0 0 rs.length) (H' := rnN rs) rfl (c_toRunSO rs hok) (.cons (.same rfl) .nil) rfl (by simp only [List.nil_append, List.length_nil]; exact nest_sh 0 _ rs)) rfl ?_)
    | (refine isLc 31 (x := #[.tmp 19]) rfl ?_; refine lex_R rfl (by kernel_rfl) rfl (st_callKN (r' := .sl 0 0 rs.length) (H' := rnN rs) rfl (c_toRunSO rs hok) (.cons (.same rfl) .nil) rfl (by simp only [List.nil_append, List.length_nil]; exact nest_sh 0 _ rs)) rfl ?_)
    | (refine isAc 58 (x := #[.tmp 21]) ?_; refine do_R rfl (st_callKN (r' := .sl (rs.length + 1) 0 g.length) (H' := rnN rs ++ G) rfl c0 (.cons (pur_nest rfl hR) .nil) (by simp only [hnl, shV, Nat.zero_add]) (by rw [hnl, nest_sh, hGe])) rfl ?_)
    | (refine isLc 58 (x := #[.tmp 21]) rfl ?_; refine lex_R rfl (by kernel_rfl) rfl (st_callKN (r' := .sl (rs.length + 1) 0 g.length) (H' := rnN rs ++ G) rfl c0 (.cons (pur_nest rfl hR) .nil) (by simp only [hnl, shV, Nat.zero_add]) (by rw [hnl, nest_sh, hGe])) rfl ?_)
    | (refine isAc 33 (x := #[.tmp 23, .tmp 24]) ?_; refine do_R rfl (st_call rfl (c_eqRunS g gok) (.cons (pur_nest (hgO _ hnl) (hgR _ hnl)) (.cons (.same rfl) .nil)) rfl) rfl ?_)
    | (refine isLc 33 (x := #[.tmp 23, .tmp 24]) rfl ?_; refine lex_R rfl (by kernel_rfl) rfl (st_call rfl (c_eqRunS g gok) (.cons (pur_nest (hgO _ hnl) (hgR _ hnl)) (.cons (.same rfl) .nil)) rfl) rfl ?_)
    | (refine isAc 31 (x := #[.tmp 28]) ?_; refine do_R rfl (st_call rfl (c_toRunS rs hok) (.cons (.same rfl) .nil) rfl) rfl ?_)
    | (refine isLc 31 (x := #[.tmp 28]) rfl ?_; refine lex_R rfl (by kernel_rfl) rfl (st_call rfl (c_toRunS rs hok) (.cons (.same rfl) .nil) rfl) rfl ?_)
    | (refine isAc 33 (x := #[.tmp 27, .tmp 29]) ?_; refine do_R rfl (st_call rfl (c_eqRunS rs hok) (.cons (pur_nest rfl hR') (.cons (.same rfl) .nil)) rfl) rfl ?_)
    | (refine isLc 33 (x := #[.tmp 27, .tmp 29]) rfl ?_; refine lex_R rfl (by kernel_rfl) rfl (st_call rfl (c_eqRunS rs hok) (.cons (pur_nest rfl hR') (.cons (.same rfl) .nil)) rfl) rfl ?_)
    | (refine isAc 34 ?_; refine do_R rfl (st_callN0 (r2 := I (kk 1 (3 * tot rs))) (H' := rnN (mkRu 1 rs) ++ G) (List.range' 0 (rs.length + 1)) List.nodup_range' rfl (c_markRunS rs 1 hok) (give_nest (mkRu_map 1 rs) rfl hR') (.cons (.sl rfl) (.cons (.same rfl) .nil)) (.same rfl) (by have := setAll_mid (K0 := []) (K := rnN rs) (K' := rnN (mkRu 1 rs)) (D := G) (by simp [nR_length, mkRu_len]); rw [hnl] at this; exact this)) rfl ?_)
    | (refine isLc 34 rfl ?_; refine lex_R rfl (by kernel_rfl) rfl (st_callN0 (r2 := I (kk 1 (3 * tot rs))) (H' := rnN (mkRu 1 rs) ++ G) (List.range' 0 (rs.length + 1)) List.nodup_range' rfl (c_markRunS rs 1 hok) (give_nest (mkRu_map 1 rs) rfl hR') (.cons (.sl rfl) (.cons (.same rfl) .nil)) (.same rfl) (by have := setAll_mid (K0 := []) (K := rnN rs) (K' := rnN (mkRu 1 rs)) (D := G) (by simp [nR_length, mkRu_len]); rw [hnl] at this; exact this)) rfl ?_)
    | refine aops_nil ?_
    | refine lex_done _ rfl (by kernel_rfl) ?_
    | refine aw_ct rfl ?_
    | refine aw_cf rfl ?_
    | refine aw_block ?_
    | refine then_n ?_
    | refine aw_skip ?_
    | refine aw_exit ?_
    | refine then_x ?_
    | refine then_r ?_
    | refine block_x ?_
    | refine block_n ?_
    | refine block_r ?_
    | refine aw_ret ?_
  refine do_br rfl rfl (fun h => by rw [hneg] at h; cases h) (fun _ => ?_)
  have hnl2 : (rnN (mkRu 1 rs)).length = rs.length + 1 := by simp [nR_length, mkRu_len]
  repeat' first
    | refine aw_seq ?_
    | refine aw_region ?_
    | refine aw_lex [] ?_
    | (refine isA ?_; refine do_F rfl ?_)
    | (refine isL ?_; refine lex_F rfl (by kernel_rfl) rfl rfl ?_)
    | (refine isLg rfl ?_; refine lex_S rfl (by kernel_rfl) rfl rfl ?_)
    | (refine isAc 33 (x := #[.tmp 38, .tmp 39]) ?_; refine do_R rfl (st_call rfl (c_eqRunS g gok) (.cons (pur_nest (hgO _ hnl2) (hgR _ hnl2)) (.cons (.same rfl) .nil)) rfl) rfl ?_)
    | (refine isLc 33 (x := #[.tmp 38, .tmp 39]) rfl ?_; refine lex_R rfl (by kernel_rfl) rfl (st_call rfl (c_eqRunS g gok) (.cons (pur_nest (hgO _ hnl2) (hgR _ hnl2)) (.cons (.same rfl) .nil)) rfl) rfl ?_)
    | refine aops_nil ?_
    | refine lex_done _ rfl (by kernel_rfl) ?_
    | refine aw_ct rfl ?_
    | refine aw_cf rfl ?_
    | refine aw_block ?_
    | refine then_n ?_
    | refine aw_skip ?_
    | refine aw_exit ?_
    | refine then_x ?_
    | refine then_r ?_
    | refine block_x ?_
    | refine block_n ?_
    | refine block_r ?_
    | refine aw_ret ?_
  have hRm : ∀ j x, (mkRu 1 g)[j]? = some x → (rnN (mkRu 1 g))[1 + j]? = some (rwR x) := row_in (K0 := [⟨93, 1, nC 1 (mkRu 1 g), 0⟩]) (D := []) rfl (by simp)
  refine aops_sub (T := ⟨((rnL rs) :: .any :: .any :: .any :: (rnL g) :: .any :: (.sl 0 0 g.length) :: .any :: .any :: .any :: .any :: .any :: .any :: .any :: .any :: .any :: .any :: .any :: .any :: .any :: .any :: .any :: .any :: .any :: .any :: .any :: .any :: .any :: .any :: .any :: .any :: .any :: .any :: .any :: .any :: .any :: .any :: .any :: .any :: .any :: .any :: .any :: .any :: (.sl 0 0 g.length) :: (I 1) :: .any :: .any :: .any :: .any :: .any :: .any :: .any :: .any :: .any :: .any :: .any :: .any :: .any :: .any :: .any :: .any :: .any :: .any :: .any :: .any :: .any :: .any :: .any :: .any :: []), rnN g, 0⟩) (sub_of ([rs.length + 1] ++ List.range' (1 + (rs.length + 1)) g.length) rfl (fun i hi => absurd hi (Nat.not_lt_zero _)) (hle_nest (hs := [rs.length + 1]) (K1 := [⟨93, 1, nC 1 g, 0⟩]) (psi_nodup (by simp) (fun h hh => by simp at hh; omega)) (.cons (hgO _ hnl2) rfl rfl rfl (les_nC fun j hj => psi_at [rs.length + 1] (1 + (rs.length + 1)) g.length j hj) .nil) (hgR _ hnl2)) (by repeat' first | exact les_nil | refine les_cons ?_ ?_ | exact le_any | exact le_refl rfl | exact le_sl rfl rfl | exact le_ptr rfl)) ?_
  repeat' first
    | refine aw_seq ?_
    | refine aw_region ?_
    | refine aw_lex [] ?_
    | (refine isA ?_; refine do_F rfl ?_)
    | (refine isL ?_; refine lex_F rfl (by kernel_rfl) rfl rfl ?_)
    | (refine isLg rfl ?_; refine lex_S rfl (by kernel_rfl) rfl rfl ?_)
    | (refine isAc 34 ?_; refine do_R rfl (st_callN0 (r2 := I (kk 1 (3 * tot g))) (H' := rnN (mkRu 1 g)) (List.range' 0 (g.length + 1)) List.nodup_range' rfl (c_markRunS g 1 gok) (give_nest (mkRu_map 1 g) rfl hRg) (.cons (.sl rfl) (.cons (.same rfl) .nil)) (.same rfl) (by have := setAll_mid (K0 := []) (K := rnN g) (K' := rnN (mkRu 1 g)) (D := []) (by simp [nR_length, mkRu_len]); rw [hng, List.append_nil, List.append_nil] at this; exact this)) rfl ?_)
    | (refine isLc 34 rfl ?_; refine lex_R rfl (by kernel_rfl) rfl (st_callN0 (r2 := I (kk 1 (3 * tot g))) (H' := rnN (mkRu 1 g)) (List.range' 0 (g.length + 1)) List.nodup_range' rfl (c_markRunS g 1 gok) (give_nest (mkRu_map 1 g) rfl hRg) (.cons (.sl rfl) (.cons (.same rfl) .nil)) (.same rfl) (by have := setAll_mid (K0 := []) (K := rnN g) (K' := rnN (mkRu 1 g)) (D := []) (by simp [nR_length, mkRu_len]); rw [hng, List.append_nil, List.append_nil] at this; exact this)) rfl ?_)
    | (refine isAc 59 ?_; refine do_R rfl (st_call rfl (c_heldRunS g 1 gok (by omega) (by omega) (by omega)) (.cons (pur_mkN rfl hRm) (.cons (.same rfl) .nil)) rfl) rfl ?_)
    | (refine isLc 59 rfl ?_; refine lex_R rfl (by kernel_rfl) rfl (st_call rfl (c_heldRunS g 1 gok (by omega) (by omega) (by omega)) (.cons (pur_mkN rfl hRm) (.cons (.same rfl) .nil)) rfl) rfl ?_)
    | refine aops_nil ?_
    | refine lex_done _ rfl (by kernel_rfl) ?_
    | refine aw_ct rfl ?_
    | refine aw_cf rfl ?_
    | refine aw_block ?_
    | refine then_n ?_
    | refine aw_skip ?_
    | refine aw_exit ?_
    | refine then_x ?_
    | refine then_r ?_
    | refine block_x ?_
    | refine block_n ?_
    | refine block_r ?_
    | refine aw_ret ?_
  refine aw_cond rfl (fun h => by rw [hnegg] at h; cases h) (fun _ => ?_)
  repeat' first
    | (refine isA ?_; refine do_R rfl (neqI_same rfl rfl rfl) rfl ?_)
    | refine aw_seq ?_
    | refine aw_region ?_
    | refine aw_lex [] ?_
    | (refine isA ?_; refine do_F rfl ?_)
    | (refine isL ?_; refine lex_F rfl (by kernel_rfl) rfl rfl ?_)
    | (refine isLg rfl ?_; refine lex_S rfl (by kernel_rfl) rfl rfl ?_)
    | (refine isAc 31 ?_; refine do_R rfl (st_call rfl (c_toRunS rs hok) (.cons (.same rfl) .nil) rfl) rfl ?_)
    | (refine isLc 31 rfl ?_; refine lex_R rfl (by kernel_rfl) rfl (st_call rfl (c_toRunS rs hok) (.cons (.same rfl) .nil) rfl) rfl ?_)
    | (refine isAc 58 ?_; refine do_R rfl (st_call rfl (c0.frozen (pur_nest rfl hRg)) (.cons (.same rfl) .nil) rfl) rfl ?_)
    | (refine isLc 58 rfl ?_; refine lex_R rfl (by kernel_rfl) rfl (st_call rfl (c0.frozen (pur_nest rfl hRg)) (.cons (.same rfl) .nil) rfl) rfl ?_)
    | (refine isAc 33 ?_; refine do_R rfl (st_call rfl (c_eqRunS g gok) (.cons (.same rfl) (.cons (.same rfl) .nil)) rfl) rfl ?_)
    | (refine isLc 33 rfl ?_; refine lex_R rfl (by kernel_rfl) rfl (st_call rfl (c_eqRunS g gok) (.cons (.same rfl) (.cons (.same rfl) .nil)) rfl) rfl ?_)
    | (refine isAc 59 ?_; refine do_R rfl (st_call rfl (c_heldRunS g 1 gok (by omega) (by omega) (by omega)) (.cons (pur_mkN rfl hRm) (.cons (.same rfl) .nil)) rfl) rfl ?_)
    | (refine isLc 59 rfl ?_; refine lex_R rfl (by kernel_rfl) rfl (st_call rfl (c_heldRunS g 1 gok (by omega) (by omega) (by omega)) (.cons (pur_mkN rfl hRm) (.cons (.same rfl) .nil)) rfl) rfl ?_)
    | refine aops_nil ?_
    | refine lex_done _ rfl (by kernel_rfl) ?_
    | refine aw_ct rfl ?_
    | refine aw_cf rfl ?_
    | refine aw_block ?_
    | refine then_n ?_
    | refine aw_skip ?_
    | refine aw_exit ?_
    | refine then_x ?_
    | refine then_r ?_
    | refine block_x ?_
    | refine block_n ?_
    | refine block_r ?_
    | refine aw_ret ?_
  refine aw_cond rfl (fun h => by rw [hnegg] at h; cases h) (fun _ => ?_)
  repeat' first
    | (refine isA ?_; refine do_R rfl (neqI_same rfl rfl rfl) rfl ?_)
    | refine aw_seq ?_
    | refine aw_region ?_
    | refine aw_lex [] ?_
    | (refine isA ?_; refine do_F rfl ?_)
    | (refine isL ?_; refine lex_F rfl (by kernel_rfl) rfl rfl ?_)
    | (refine isLg rfl ?_; refine lex_S rfl (by kernel_rfl) rfl rfl ?_)
    | exact fin1 rfl rfl rfl
    | refine aops_nil ?_
    | refine lex_done _ rfl (by kernel_rfl) ?_
    | refine aw_ct rfl ?_
    | refine aw_cf rfl ?_
    | refine aw_block ?_
    | refine then_n ?_
    | refine aw_skip ?_
    | refine aw_exit ?_
    | refine then_x ?_
    | refine then_r ?_
    | refine block_x ?_
    | refine block_n ?_
    | refine block_r ?_
    | refine aw_ret ?_
end Go.Proofs.Ytngeppmincgebaa.Ab
