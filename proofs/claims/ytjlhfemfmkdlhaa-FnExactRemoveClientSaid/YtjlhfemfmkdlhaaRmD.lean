/-
  RemoveClient: impl's side.
-/
import Derived.Test.YtjlhfemfmkdlhaaRmC
namespace Go.Proofs.Ytjlhfemfmkdlhaa.Ab
open Go.RowKit
set_option linter.unusedVariables false
set_option linter.unusedSimpArgs false
set_option maxRecDepth 20000
set_option maxHeartbeats 2000000

/-- Delete, as it is called; the last cells forgotten. -/
theorem c_del (xs : List Cl) (k : Nat) (hk : k < xs.length) (hl : xs.length ≤ 1000000000) : Meets Go.Proofs.Try.prog 86 [.sl 0 0 xs.length, I k, I (IntKind.i64.wrap ((k : Int) + 1))] [regOf clT 53 xs] (.sl 0 0 (dropC xs k).length) [regOf clT 53 (dropC xs k ++ [z3])] true := by
  have e : IntKind.i64.wrap ((k : Int) + 1) = (k : Int) + 1 := by rw [IntKind.wrap_i64]; omega
  rw [e]
  exact c_delete xs k hk hl
theorem cut_eq (ys : List Cl) (z : Cl) : (clT.flat (ys ++ [z])).take (ys.length * 3) = clT.flat ys := by
  rw [show ys.length * 3 = ys.length * clT.n from rfl, flat_take, List.take_left']
  rfl
theorem c_delC (xs : List Cl) (k : Nat) (hk : k < xs.length) (hl : xs.length ≤ 1000000000) : Meets Go.Proofs.Try.prog 86 [.sl 0 0 xs.length, I k, I (IntKind.i64.wrap ((k : Int) + 1))] [regOf clT 53 xs] (.sl 0 0 (dropC xs k).length) [regOf clT 53 (dropC xs k)] true :=
  (c_del xs k hk hl).cut (h := 0) (q := regOf clT 53 (dropC xs k ++ [z3])) ((dropC xs k).length * 3) rfl (by
    show [(⟨53, 3, (clT.flat (dropC xs k ++ [z3])).take ((dropC xs k).length * 3), 0⟩ : Reg)] = _
    rw [cut_eq]
    rfl)

theorem c_irm (b : Br) (id : Int) (h1 : b.act.length ≤ 1000000000) (h2 : b.wait.length ≤ 1000000000) : Meets Go.Proofs.Try.prog 41 [.agg (brE b), I id] [] (srR (rmV b id)) (brK (rmV b id).1.act (rmV b id).1.wait) false := by
  refine meets_ofCT 4 24 [5] Go.Proofs.Try.func41 rfl rfl rfl ?_
  simp only [Go.Proofs.Try.ntmps41, List.length_cons, List.length_nil, Nat.reduceAdd, Nat.reduceSub, List.replicate_succ, List.replicate_zero, List.cons_append, List.nil_append]
  repeat' first
    | refine aw_seq ?_
    | refine aw_region ?_
    | refine aw_lex [] ?_
    | (refine isA ?_; refine do_F rfl ?_)
    | (refine isL ?_; refine lex_F rfl (by kernel_rfl) rfl rfl ?_)
    | (refine isLg rfl ?_; refine lex_S rfl (by kernel_rfl) rfl rfl ?_)
    | (refine isAc 80 ?_; refine do_R rfl (st_callK rfl (c_clone _ h1 h2) (.cons (.same rfl) .nil) (brK_noH _ _) rfl rfl) rfl ?_)
    | (refine isLc 80 rfl ?_; refine lex_R rfl (by kernel_rfl) rfl (st_callK rfl (c_clone _ h1 h2) (.cons (.same rfl) .nil) (brK_noH _ _) rfl rfl) rfl ?_)
    | (refine isAc 25 ?_; refine do_R rfl (st_call rfl (c_ivalid _ h1 h2) (.cons (.same rfl) .nil) rfl) rfl ?_)
    | (refine isLc 25 rfl ?_; refine lex_R rfl (by kernel_rfl) rfl (st_call rfl (c_ivalid _ h1 h2) (.cons (.same rfl) .nil) rfl) rfl ?_)
    | refine aops_nil ?_
    | refine lex_done _ rfl (by kernel_rfl) ?_
    | refine aw_ct rfl ?_
    | refine aw_cf rfl ?_
    | refine aw_block ?_
    | refine then_n ?_
    | refine aw_skip ?_
    | refine aw_exit ?_
    | refine then_x ?_
    | refine then_r ?_
    | refine block_x ?_
    | refine block_n ?_
    | refine block_r ?_
    | refine aw_ret ?_
  refine aw_cond rfl (fun k1 => ?_) (fun k1 => ?_)
  · have k1 : validB b = false := by simpa using k1
    repeat' first
      | refine aw_seq ?_
      | refine aw_region ?_
      | refine aw_lex [] ?_
      | (refine isA ?_; refine do_F rfl ?_)
      | (refine isL ?_; refine lex_F rfl (by kernel_rfl) rfl rfl ?_)
      | (refine isLg rfl ?_; refine lex_S rfl (by kernel_rfl) rfl rfl ?_)
      | exact (by rw [rm_no k1]; exact finMCTf [2, 3] (by decide) (cell_is rfl rfl rfl rfl rfl) (le_tup (les_cons (le_agg (les_cons (le_refl rfl) (les_cons (le_refl rfl) (les_cons (le_sl rfl rfl) (les_cons (le_sl rfl rfl) les_nil))))) (les_cons (le_refl rfl) les_nil))) (.cons rfl rfl rfl rfl (les_eq rfl (flat_noH _ _)) (.cons rfl rfl rfl rfl (les_eq rfl (flat_noH _ _)) .nil)) rfl (brK_flat _ _))
      | refine aops_nil ?_
      | refine lex_done _ rfl (by kernel_rfl) ?_
      | refine aw_ct rfl ?_
      | refine aw_cf rfl ?_
      | refine aw_block ?_
      | refine then_n ?_
      | refine aw_skip ?_
      | refine aw_exit ?_
      | refine then_x ?_
      | refine then_r ?_
      | refine block_x ?_
      | refine block_n ?_
      | refine block_r ?_
      | refine aw_ret ?_
  have k1 : validB b = true := by simpa using k1
  repeat' first
    | refine aw_seq ?_
    | refine aw_region ?_
    | refine aw_lex [] ?_
    | (refine isA ?_; refine do_F rfl ?_)
    | (refine isL ?_; refine lex_F rfl (by kernel_rfl) rfl rfl ?_)
    | (refine isLg rfl ?_; refine lex_S rfl (by kernel_rfl) rfl rfl ?_)
    | (refine isAc 76 ?_; refine do_R rfl (st_call rfl (c_clientAt b.wait id h2) (.cons (pur_l rfl rfl) (.cons (.same rfl) .nil)) rfl) rfl ?_)
    | (refine isLc 76 rfl ?_; refine lex_R rfl (by kernel_rfl) rfl (st_call rfl (c_clientAt b.wait id h2) (.cons (pur_l rfl rfl) (.cons (.same rfl) .nil)) rfl) rfl ?_)
    | refine aops_nil ?_
    | refine lex_done _ rfl (by kernel_rfl) ?_
    | refine aw_ct rfl ?_
    | refine aw_cf rfl ?_
    | refine aw_block ?_
    | refine then_n ?_
    | refine aw_skip ?_
    | refine aw_exit ?_
    | refine then_x ?_
    | refine then_r ?_
    | refine block_x ?_
    | refine block_n ?_
    | refine block_r ?_
    | refine aw_ret ?_
  refine aw_cond rfl (fun k2 => ?_) (fun k2 => ?_)
  · obtain ⟨z, _, hz, _⟩ := at_some k2
    have hlt := (List.getElem?_eq_some_iff.1 hz).1
    have e := Int.toNat_of_nonneg (of_decide_eq_true k2)
    have hr := rm_wait k1 k2
    generalize (idxC b.wait id).toNat = i at hlt e hz hr
    rw [← e]
    repeat' first
      | refine aw_seq ?_
      | refine aw_region ?_
      | refine aw_lex [] ?_
      | (refine isA ?_; refine do_F rfl ?_)
      | (refine isL ?_; refine lex_F rfl (by kernel_rfl) rfl rfl ?_)
      | (refine isLg rfl ?_; refine lex_S rfl (by kernel_rfl) rfl rfl ?_)
      | (refine isAc 86 ?_; refine do_R rfl (st_callN (K := []) (K2 := []) (Rs' := [regOf clT 53 (dropC b.wait i)]) [3] (by decide) rfl (c_delC b.wait i hlt h2) (.flat rfl rfl rfl (flat_noH _ _) (flat_noH _ _) .nil) (.cons (.sl rfl) (.cons (.same rfl) (.cons (.same rfl) .nil))) .nil (.sl rfl) rfl) rfl ?_)
      | (refine isLc 86 rfl ?_; refine lex_R rfl (by kernel_rfl) rfl (st_callN (K := []) (K2 := []) (Rs' := [regOf clT 53 (dropC b.wait i)]) [3] (by decide) rfl (c_delC b.wait i hlt h2) (.flat rfl rfl rfl (flat_noH _ _) (flat_noH _ _) .nil) (.cons (.sl rfl) (.cons (.same rfl) (.cons (.same rfl) .nil))) .nil (.sl rfl) rfl) rfl ?_)
      | exact (by rw [hr]; exact finMCTf [2, 3] (by decide) (cell_is rfl rfl rfl rfl rfl) (le_tup (les_cons (le_agg (les_cons (le_refl rfl) (les_cons (le_refl rfl) (les_cons (le_sl rfl rfl) (les_cons (le_sl rfl rfl) les_nil))))) (les_cons (le_refl rfl) les_nil))) (.cons rfl rfl rfl rfl (les_eq rfl (flat_noH _ _)) (.cons rfl rfl rfl rfl (les_eq rfl (flat_noH _ _)) .nil)) rfl (brK_flat _ _))
      | refine aops_nil ?_
      | refine lex_done _ rfl (by kernel_rfl) ?_
      | refine aw_ct rfl ?_
      | refine aw_cf rfl ?_
      | refine aw_block ?_
      | refine then_n ?_
      | refine aw_skip ?_
      | refine aw_exit ?_
      | refine then_x ?_
      | refine then_r ?_
      | refine block_x ?_
      | refine block_n ?_
      | refine block_r ?_
      | refine aw_ret ?_
  repeat' first
    | refine aw_seq ?_
    | refine aw_region ?_
    | refine aw_lex [] ?_
    | (refine isA ?_; refine do_F rfl ?_)
    | (refine isL ?_; refine lex_F rfl (by kernel_rfl) rfl rfl ?_)
    | (refine isLg rfl ?_; refine lex_S rfl (by kernel_rfl) rfl rfl ?_)
    | (refine isAc 76 ?_; refine do_R rfl (st_call rfl (c_clientAt b.act id h1) (.cons (pur_l rfl rfl) (.cons (.same rfl) .nil)) rfl) rfl ?_)
    | (refine isLc 76 rfl ?_; refine lex_R rfl (by kernel_rfl) rfl (st_call rfl (c_clientAt b.act id h1) (.cons (pur_l rfl rfl) (.cons (.same rfl) .nil)) rfl) rfl ?_)
    | refine aops_nil ?_
    | refine lex_done _ rfl (by kernel_rfl) ?_
    | refine aw_ct rfl ?_
    | refine aw_cf rfl ?_
    | refine aw_block ?_
    | refine then_n ?_
    | refine aw_skip ?_
    | refine aw_exit ?_
    | refine then_x ?_
    | refine then_r ?_
    | refine block_x ?_
    | refine block_n ?_
    | refine block_r ?_
    | refine aw_ret ?_
  refine aw_cond rfl (fun k3 => ?_) (fun k3 => ?_)
  · have k3' : decide (0 ≤ idxC b.act id) = false := by have := of_decide_eq_true k3; exact decide_eq_false (by omega)
    repeat' first
      | refine aw_seq ?_
      | refine aw_region ?_
      | refine aw_lex [] ?_
      | (refine isA ?_; refine do_F rfl ?_)
      | (refine isL ?_; refine lex_F rfl (by kernel_rfl) rfl rfl ?_)
      | (refine isLg rfl ?_; refine lex_S rfl (by kernel_rfl) rfl rfl ?_)
      | exact (by rw [rm_none k2 k3']; exact finMCTf [2, 3] (by decide) (cell_is rfl rfl rfl rfl rfl) (le_tup (les_cons (le_agg (les_cons (le_refl rfl) (les_cons (le_refl rfl) (les_cons (le_sl rfl rfl) (les_cons (le_sl rfl rfl) les_nil))))) (les_cons (le_refl rfl) les_nil))) (.cons rfl rfl rfl rfl (les_eq rfl (flat_noH _ _)) (.cons rfl rfl rfl rfl (les_eq rfl (flat_noH _ _)) .nil)) rfl (brK_flat _ _))
      | refine aops_nil ?_
      | refine lex_done _ rfl (by kernel_rfl) ?_
      | refine aw_ct rfl ?_
      | refine aw_cf rfl ?_
      | refine aw_block ?_
      | refine then_n ?_
      | refine aw_skip ?_
      | refine aw_exit ?_
      | refine then_x ?_
      | refine then_r ?_
      | refine block_x ?_
      | refine block_n ?_
      | refine block_r ?_
      | refine aw_ret ?_
  have k3' : decide (0 ≤ idxC b.act id) = true := by have := of_decide_eq_false k3; exact decide_eq_true (by omega)
  obtain ⟨z, _, hz, _⟩ := at_some k3'
  have hlt := (List.getElem?_eq_some_iff.1 hz).1
  have e := Int.toNat_of_nonneg (of_decide_eq_true k3')
  have hr0 := fun h3 => rm_act0 (id := id) k1 k2 k3' h3
  have hr1 := fun c h3 => rm_act1 (id := id) (c := c) k1 k2 k3' h3
  generalize (idxC b.act id).toNat = i at hlt e hz hr0 hr1
  rw [← e]
  have hdl := dropC_len hlt
  repeat' first
    | refine aw_seq ?_
    | refine aw_region ?_
    | refine aw_lex [] ?_
    | (refine isA ?_; refine do_F rfl ?_)
    | (refine isL ?_; refine lex_F rfl (by kernel_rfl) rfl rfl ?_)
    | (refine isLg rfl ?_; refine lex_S rfl (by kernel_rfl) rfl rfl ?_)
    | (refine isAc 86 ?_; refine do_R rfl (st_callN (K := []) (K2 := []) (Rs' := [regOf clT 53 (dropC b.act i ++ [z3])]) [2] (by decide) rfl (c_del b.act i hlt h1) (.flat rfl rfl rfl (flat_noH _ _) (flat_noH _ _) .nil) (.cons (.sl rfl) (.cons (.same rfl) (.cons (.same rfl) .nil))) .nil (.sl rfl) rfl) rfl ?_)
    | (refine isLc 86 rfl ?_; refine lex_R rfl (by kernel_rfl) rfl (st_callN (K := []) (K2 := []) (Rs' := [regOf clT 53 (dropC b.act i ++ [z3])]) [2] (by decide) rfl (c_del b.act i hlt h1) (.flat rfl rfl rfl (flat_noH _ _) (flat_noH _ _) .nil) (.cons (.sl rfl) (.cons (.same rfl) (.cons (.same rfl) .nil))) .nil (.sl rfl) rfl) rfl ?_)
    | refine aops_nil ?_
    | refine lex_done _ rfl (by kernel_rfl) ?_
    | refine aw_ct rfl ?_
    | refine aw_cf rfl ?_
    | refine aw_block ?_
    | refine then_n ?_
    | refine aw_skip ?_
    | refine aw_exit ?_
    | refine then_x ?_
    | refine then_r ?_
    | refine block_x ?_
    | refine block_n ?_
    | refine block_r ?_
    | refine aw_ret ?_
  refine aw_cond rfl (fun k4 => ?_) (fun k4 => ?_)
  rotate_left
  · have h0 : b.wait.length = 0 := by have := of_decide_eq_false k4; omega
    refine aw_sub (sub_cut (h := 2) ((dropC b.act i).length * 3) rfl rfl) ?_
    repeat' first
      | refine aw_seq ?_
      | refine aw_region ?_
      | refine aw_lex [] ?_
      | (refine isA ?_; refine do_F rfl ?_)
      | (refine isL ?_; refine lex_F rfl (by kernel_rfl) rfl rfl ?_)
      | (refine isLg rfl ?_; refine lex_S rfl (by kernel_rfl) rfl rfl ?_)
      | exact (by rw [hr0 h0]; exact finMCTf [2, 3] (by decide) (cell_is rfl rfl rfl rfl rfl) (le_tup (les_cons (le_agg (les_cons (le_refl rfl) (les_cons (le_refl rfl) (les_cons (le_sl rfl rfl) (les_cons (le_sl rfl rfl) les_nil))))) (les_cons (le_refl rfl) les_nil))) (.cons rfl rfl rfl rfl (les_eq (cut_eq _ _) (flat_noH _ _)) (.cons rfl rfl rfl rfl (les_eq rfl (flat_noH _ _)) .nil)) rfl (brK_flat _ _))
      | refine aops_nil ?_
      | refine lex_done _ rfl (by kernel_rfl) ?_
      | refine aw_ct rfl ?_
      | refine aw_cf rfl ?_
      | refine aw_block ?_
      | refine then_n ?_
      | refine aw_skip ?_
      | refine aw_exit ?_
      | refine then_x ?_
      | refine then_r ?_
      | refine block_x ?_
      | refine block_n ?_
      | refine block_r ?_
      | refine aw_ret ?_
  have h0 : 0 < b.wait.length := by have := of_decide_eq_true k4; omega
  have hbl := bestC_lt h0
  obtain ⟨w, hw⟩ : ∃ w, b.wait[bestC b.wait]? = some w := ⟨_, List.getElem?_eq_getElem hbl⟩
  have hr := hr1 w hw
  have hp := posC_le (dropC b.act i) w
  repeat' first
    | refine aw_seq ?_
    | refine aw_region ?_
    | refine aw_lex [] ?_
    | (refine isA ?_; refine do_F rfl ?_)
    | (refine isL ?_; refine lex_F rfl (by kernel_rfl) rfl rfl ?_)
    | (refine isLg rfl ?_; refine lex_S rfl (by kernel_rfl) rfl rfl ?_)
    | refine aops_nil ?_
    | refine lex_done _ rfl (by kernel_rfl) ?_
    | refine aw_ct rfl ?_
    | refine aw_cf rfl ?_
    | refine aw_block ?_
    | refine then_n ?_
    | refine aw_skip ?_
    | refine aw_exit ?_
    | refine then_x ?_
    | refine then_r ?_
    | refine block_x ?_
    | refine block_n ?_
    | refine block_r ?_
    | refine aw_ret ?_
  refine aw_loop (α := { j : Nat // j ≤ b.wait.length }) (fun j => ⟨(.any :: .any :: .any :: .any :: (.ptr 0 0) :: .any :: (.ptr 1 0) :: .any :: .any :: (I (bestN b.wait j.1)) :: .any :: .any :: .any :: .any :: .any :: .any :: .any :: .any :: .any :: .any :: .any :: .any :: .any :: .any :: .any :: .any :: .any :: .any :: .any :: .any :: .any :: .any :: .any :: .any :: .any :: .any :: .any :: .any :: .any :: .any :: .any :: .any :: .any :: .any :: .any :: .any :: .any :: .any :: .any :: .any :: .any :: .any :: .any :: (.sl 2 0 b.wait.length) :: (I b.wait.length) :: (I j.1) :: .any :: .any :: .any :: .any :: .any :: .any :: .any :: .any :: .any :: .any :: .any :: .any :: .any :: .any :: .any :: .any :: .any :: .any :: .any :: .any :: .any :: .any :: .any :: .any :: .any :: .any :: .any :: .any :: .any :: .any :: .any :: .any :: .any :: .any :: .any :: .any :: .any :: .any :: .any :: .any :: .any :: .any :: .any :: .any :: .any :: .any :: .any :: .any :: .any :: .any :: .any :: .any :: .any :: []), [⟨24, 4, [I 0, I 0, .k (.slice none 0 0), .k (.slice none 0 0)], 0⟩, ⟨24, 4, [I b.pool, I b.next, .sl 3 0 (dropC b.act i).length, .sl 2 0 b.wait.length], 0⟩, regOf clT 53 b.wait, regOf clT 53 (dropC b.act i ++ [z3])], 0⟩) (fun j => b.wait.length - j.1) ⟨0, Nat.zero_le _⟩ ?_ ?_
  · exact sub0 [1, 4, 3, 2] rfl rfl (by decide) (.cons rfl rfl rfl rfl (by repeat' first | exact les_nil | refine les_cons ?_ ?_ | exact le_any | exact le_refl rfl | exact le_sl rfl rfl | exact le_ptr rfl) (.cons rfl rfl rfl rfl (by repeat' first | exact les_nil | refine les_cons ?_ ?_ | exact le_any | exact le_refl rfl | exact le_sl rfl rfl | exact le_ptr rfl) (.cons rfl rfl rfl rfl (les_refl (flat_noH _ _)) (.cons rfl rfl rfl rfl (les_refl (flat_noH _ _)) .nil)))) (by repeat' first | exact les_nil | refine les_cons ?_ ?_ | exact le_any | exact le_refl rfl | exact le_sl rfl rfl | exact le_ptr rfl)
  · rintro ⟨j, hj⟩
    have hbj := bestN_lt h0 j hj
    obtain ⟨d, hd⟩ : ∃ d, b.wait[bestN b.wait j]? = some d := ⟨_, List.getElem?_eq_getElem hbj⟩
    repeat' first
      | refine aw_seq ?_
      | refine aw_region ?_
      | refine aw_lex [] ?_
      | (refine isA ?_; refine do_F rfl ?_)
      | (refine isL ?_; refine lex_F rfl (by kernel_rfl) rfl rfl ?_)
      | (refine isLg rfl ?_; refine lex_S rfl (by kernel_rfl) rfl rfl ?_)
      | refine aops_nil ?_
      | refine lex_done _ rfl (by kernel_rfl) ?_
      | refine aw_ct rfl ?_
      | refine aw_cf rfl ?_
      | refine aw_block ?_
      | refine then_n ?_
      | refine aw_skip ?_
      | refine aw_exit ?_
      | refine then_x ?_
      | refine then_r ?_
      | refine block_x ?_
      | refine block_n ?_
      | refine block_r ?_
      | refine aw_ret ?_
    refine aw_cond rfl (fun h3 => ?_) (fun h3 => ?_)
    · have hlt : j < b.wait.length := by have := of_decide_eq_true h3; simp only at this; omega
      obtain ⟨c, hc⟩ : ∃ c, b.wait[j]? = some c := ⟨_, List.getElem?_eq_getElem hlt⟩
      repeat' first
        | refine aw_seq ?_
        | refine aw_region ?_
        | refine aw_lex [] ?_
        | (refine isA ?_; refine do_F rfl ?_)
        | (refine isL ?_; refine lex_F rfl (by kernel_rfl) rfl rfl ?_)
        | (refine isLg rfl ?_; refine lex_S rfl (by kernel_rfl) rfl rfl ?_)
        | (refine isAi (x := .tmp 53) ?_; refine do_R rfl (step_ia_sl (j := j) rfl rfl rfl (Nat.zero_le _) rfl rfl (Int.natCast_nonneg j) (by omega)) rfl ?_)
        | (refine isLi (x := .tmp 53) rfl ?_; refine lex_R rfl (by kernel_rfl) rfl (step_ia_sl (j := j) rfl rfl rfl (Nat.zero_le _) rfl rfl (Int.natCast_nonneg j) (by omega)) rfl ?_)
        | (refine isAl (x := .tmp 58) ?_; refine do_R rfl (ld_a (T := clT) (i := 0 + (j : Int).toNat) (z := c) rfl rfl rfl (by rw [Nat.zero_add]; exact hc)) rfl ?_)
        | (refine isLl (x := .tmp 58) rfl ?_; refine lex_R rfl (by kernel_rfl) rfl (ld_a (T := clT) (i := 0 + (j : Int).toNat) (z := c) rfl rfl rfl (by rw [Nat.zero_add]; exact hc)) rfl ?_)
        | (refine isAi (x := .tmp 63) ?_; refine do_R rfl (step_ia_sl (j := bestN b.wait j) rfl rfl rfl (Nat.zero_le _) rfl rfl (Int.natCast_nonneg _) (by omega)) rfl ?_)
        | (refine isLi (x := .tmp 63) rfl ?_; refine lex_R rfl (by kernel_rfl) rfl (step_ia_sl (j := bestN b.wait j) rfl rfl rfl (Nat.zero_le _) rfl rfl (Int.natCast_nonneg _) (by omega)) rfl ?_)
        | (refine isAl (x := .tmp 66) ?_; refine do_R rfl (ld_f (T := clT) (i := 0 + (bestN b.wait j : Int).toNat) (off := 2) (z := d) (v := I d.c) rfl rfl rfl (by rw [Nat.zero_add]; exact hd) rfl) rfl ?_)
        | (refine isLl (x := .tmp 66) rfl ?_; refine lex_R rfl (by kernel_rfl) rfl (ld_f (T := clT) (i := 0 + (bestN b.wait j : Int).toNat) (off := 2) (z := d) (v := I d.c) rfl rfl rfl (by rw [Nat.zero_add]; exact hd) rfl) rfl ?_)
        | refine aops_nil ?_
        | refine lex_done _ rfl (by kernel_rfl) ?_
        | refine aw_ct rfl ?_
        | refine aw_cf rfl ?_
        | refine aw_block ?_
        | refine then_n ?_
        | refine aw_skip ?_
        | refine aw_exit ?_
        | refine then_x ?_
        | refine then_r ?_
        | refine block_x ?_
        | refine block_n ?_
        | refine block_r ?_
        | refine aw_ret ?_
      refine aw_cond rfl (fun h5 => ?_) (fun h5 => ?_)
      · have eb := bestN_yes hc hd (of_decide_eq_true h5)
        repeat' first
          | refine aw_seq ?_
          | refine aw_region ?_
          | refine aw_lex [] ?_
          | (refine isA ?_; refine do_F rfl ?_)
          | (refine isL ?_; refine lex_F rfl (by kernel_rfl) rfl rfl ?_)
          | (refine isLg rfl ?_; refine lex_S rfl (by kernel_rfl) rfl rfl ?_)
          | refine aops_nil ?_
          | refine lex_done _ rfl (by kernel_rfl) ?_
          | refine aw_ct rfl ?_
          | refine aw_cf rfl ?_
          | refine aw_block ?_
          | refine then_n ?_
          | refine aw_skip ?_
          | refine aw_exit ?_
          | refine then_x ?_
          | refine then_r ?_
          | refine block_x ?_
          | refine block_n ?_
          | refine block_r ?_
          | refine aw_ret ?_
        refine ⟨⟨j + 1, hlt⟩, by simp only; omega, ?_⟩
        exact sub0 [0, 1, 2, 3] rfl rfl (by decide) (.cons rfl rfl rfl rfl (by repeat' first | exact les_nil | refine les_cons ?_ ?_ | exact le_any | exact le_refl rfl | exact le_sl rfl rfl | exact le_ptr rfl) (.cons rfl rfl rfl rfl (by repeat' first | exact les_nil | refine les_cons ?_ ?_ | exact le_any | exact le_refl rfl | exact le_sl rfl rfl | exact le_ptr rfl) (.cons rfl rfl rfl rfl (les_refl (flat_noH _ _)) (.cons rfl rfl rfl rfl (les_refl (flat_noH _ _)) .nil)))) (by repeat' first | exact les_nil | refine les_cons ?_ ?_ | exact le_any | exact le_refl rfl | exact le_sl rfl rfl | exact le_ptr rfl | exact le_i hlt (by omega) | exact le_k (congrArg _ (by simp only [eb])))
      · have eb := bestN_no hc hd (of_decide_eq_false h5)
        repeat' first
          | refine aw_seq ?_
          | refine aw_region ?_
          | refine aw_lex [] ?_
          | (refine isA ?_; refine do_F rfl ?_)
          | (refine isL ?_; refine lex_F rfl (by kernel_rfl) rfl rfl ?_)
          | (refine isLg rfl ?_; refine lex_S rfl (by kernel_rfl) rfl rfl ?_)
          | refine aops_nil ?_
          | refine lex_done _ rfl (by kernel_rfl) ?_
          | refine aw_ct rfl ?_
          | refine aw_cf rfl ?_
          | refine aw_block ?_
          | refine then_n ?_
          | refine aw_skip ?_
          | refine aw_exit ?_
          | refine then_x ?_
          | refine then_r ?_
          | refine block_x ?_
          | refine block_n ?_
          | refine block_r ?_
          | refine aw_ret ?_
        refine ⟨⟨j + 1, hlt⟩, by simp only; omega, ?_⟩
        exact sub0 [0, 1, 2, 3] rfl rfl (by decide) (.cons rfl rfl rfl rfl (by repeat' first | exact les_nil | refine les_cons ?_ ?_ | exact le_any | exact le_refl rfl | exact le_sl rfl rfl | exact le_ptr rfl) (.cons rfl rfl rfl rfl (by repeat' first | exact les_nil | refine les_cons ?_ ?_ | exact le_any | exact le_refl rfl | exact le_sl rfl rfl | exact le_ptr rfl) (.cons rfl rfl rfl rfl (les_refl (flat_noH _ _)) (.cons rfl rfl rfl rfl (les_refl (flat_noH _ _)) .nil)))) (by repeat' first | exact les_nil | refine les_cons ?_ ?_ | exact le_any | exact le_refl rfl | exact le_sl rfl rfl | exact le_ptr rfl | exact le_i hlt (by omega) | exact le_k (congrArg _ (by simp only [eb])))
    · have hjn : j = b.wait.length := by have := of_decide_eq_false h3; simp only at this; omega
      subst hjn
      repeat' first
        | refine aw_seq ?_
        | refine aw_region ?_
        | refine aw_lex [] ?_
        | (refine isA ?_; refine do_F rfl ?_)
        | (refine isL ?_; refine lex_F rfl (by kernel_rfl) rfl rfl ?_)
        | (refine isLg rfl ?_; refine lex_S rfl (by kernel_rfl) rfl rfl ?_)
        | (refine isAi ?_; refine do_R rfl (step_ia_sl (j := bestN b.wait b.wait.length) rfl rfl rfl (Nat.zero_le _) rfl rfl (Int.natCast_nonneg _) (by omega)) rfl ?_)
        | (refine isLi rfl ?_; refine lex_R rfl (by kernel_rfl) rfl (step_ia_sl (j := bestN b.wait b.wait.length) rfl rfl rfl (Nat.zero_le _) rfl rfl (Int.natCast_nonneg _) (by omega)) rfl ?_)
        | (refine isAl (x := .tmp 74) ?_; refine do_R rfl (ld_a (T := clT) (i := 0 + (bestN b.wait b.wait.length : Int).toNat) (z := w) rfl rfl rfl (by rw [Nat.zero_add]; exact hw)) rfl ?_)
        | (refine isLl (x := .tmp 74) rfl ?_; refine lex_R rfl (by kernel_rfl) rfl (ld_a (T := clT) (i := 0 + (bestN b.wait b.wait.length : Int).toNat) (z := w) rfl rfl rfl (by rw [Nat.zero_add]; exact hw)) rfl ?_)
        | (refine isAc 86 ?_; refine do_R rfl (st_callN (K := []) (K2 := []) (Rs' := [regOf clT 53 (dropC b.wait (bestC b.wait))]) [2] (by decide) rfl (c_delC b.wait (bestC b.wait) hbl h2) (.flat rfl rfl rfl (flat_noH _ _) (flat_noH _ _) .nil) (.cons (.sl rfl) (.cons (.same rfl) (.cons (.same rfl) .nil))) .nil (.sl rfl) rfl) rfl ?_)
        | (refine isLc 86 rfl ?_; refine lex_R rfl (by kernel_rfl) rfl (st_callN (K := []) (K2 := []) (Rs' := [regOf clT 53 (dropC b.wait (bestC b.wait))]) [2] (by decide) rfl (c_delC b.wait (bestC b.wait) hbl h2) (.flat rfl rfl rfl (flat_noH _ _) (flat_noH _ _) .nil) (.cons (.sl rfl) (.cons (.same rfl) (.cons (.same rfl) .nil))) .nil (.sl rfl) rfl) rfl ?_)
        | refine aops_nil ?_
        | refine lex_done _ rfl (by kernel_rfl) ?_
        | refine aw_ct rfl ?_
        | refine aw_cf rfl ?_
        | refine aw_block ?_
        | refine then_n ?_
        | refine aw_skip ?_
        | refine aw_exit ?_
        | refine then_x ?_
        | refine then_r ?_
        | refine block_x ?_
        | refine block_n ?_
        | refine block_r ?_
        | refine aw_ret ?_
      refine aw_loop (α := { q : Nat // q ≤ posC (dropC b.act i) w }) (fun q => ⟨(.any :: .any :: .any :: .any :: (.ptr 0 0) :: .any :: (.ptr 1 0) :: .any :: .any :: .any :: .any :: .any :: (.ptr 4 0) :: (I q.1) :: .any :: .any :: .any :: .any :: .any :: .any :: .any :: .any :: .any :: .any :: .any :: .any :: .any :: .any :: .any :: .any :: .any :: .any :: .any :: .any :: .any :: .any :: .any :: .any :: .any :: .any :: .any :: .any :: .any :: .any :: .any :: .any :: .any :: .any :: .any :: .any :: .any :: .any :: .any :: .any :: .any :: .any :: .any :: .any :: .any :: .any :: .any :: .any :: .any :: .any :: .any :: .any :: .any :: .any :: .any :: .any :: .any :: .any :: .any :: .any :: .any :: .any :: .any :: .any :: .any :: .any :: .any :: .any :: .any :: .any :: .any :: .any :: .any :: .any :: .any :: .any :: .any :: .any :: .any :: .any :: .any :: .any :: .any :: .any :: .any :: .any :: .any :: .any :: .any :: .any :: .any :: .any :: .any :: .any :: .any :: []), [⟨24, 4, [I 0, I 0, .k (.slice none 0 0), .k (.slice none 0 0)], 0⟩, ⟨24, 4, [I b.pool, I b.next, .sl 3 0 (dropC b.act i).length, .sl 2 0 (dropC b.wait (bestC b.wait)).length], 0⟩, regOf clT 53 (dropC b.wait (bestC b.wait)), regOf clT 53 (dropC b.act i ++ [z3]), ⟨53, 3, clE w, 0⟩], 0⟩) (fun q => posC (dropC b.act i) w - q.1) ⟨0, Nat.zero_le _⟩ ?_ ?_
      · exact sub0 [0, 1, 2, 3, 4] rfl rfl (by decide) (.cons rfl rfl rfl rfl (by repeat' first | exact les_nil | refine les_cons ?_ ?_ | exact le_any | exact le_refl rfl | exact le_sl rfl rfl | exact le_ptr rfl) (.cons rfl rfl rfl rfl (by repeat' first | exact les_nil | refine les_cons ?_ ?_ | exact le_any | exact le_refl rfl | exact le_sl rfl rfl | exact le_ptr rfl) (.cons rfl rfl rfl rfl (les_refl (flat_noH _ _)) (.cons rfl rfl rfl rfl (les_refl (flat_noH _ _)) (.cons rfl rfl rfl rfl (les_eq rfl (noHs_mem rfl)) .nil))))) (by repeat' first | exact les_nil | refine les_cons ?_ ?_ | exact le_any | exact le_refl rfl | exact le_sl rfl rfl | exact le_ptr rfl)
      · rintro ⟨q, hq⟩
        repeat' first
          | refine aw_seq ?_
          | refine aw_region ?_
          | refine aw_lex [] ?_
          | (refine isA ?_; refine do_F rfl ?_)
          | (refine isL ?_; refine lex_F rfl (by kernel_rfl) rfl rfl ?_)
          | (refine isLg rfl ?_; refine lex_S rfl (by kernel_rfl) rfl rfl ?_)
          | refine aops_nil ?_
          | refine lex_done _ rfl (by kernel_rfl) ?_
          | refine aw_ct rfl ?_
          | refine aw_cf rfl ?_
          | refine aw_block ?_
          | refine then_n ?_
          | refine aw_skip ?_
          | refine aw_exit ?_
          | refine then_x ?_
          | refine then_r ?_
          | refine block_x ?_
          | refine block_n ?_
          | refine block_r ?_
          | refine aw_ret ?_
        refine lex_br rfl rfl rfl rfl (fun h6 => ?_) (fun h6 => ?_)
        · have hlt2 : q < (dropC b.act i).length := by have := of_decide_eq_true h6; simp only at this; omega
          obtain ⟨y, hy⟩ : ∃ y, (dropC b.act i)[q]? = some y := ⟨_, List.getElem?_eq_getElem hlt2⟩
          have hy2 := posC_step hq hy
          have hy3 : (dropC b.act i ++ [z3])[0 + (q : Int).toNat]? = some y := by rw [Nat.zero_add]; exact app_left hy
          repeat' first
            | refine aw_seq ?_
            | refine aw_region ?_
            | refine aw_lex [] ?_
            | (refine isA ?_; refine do_F rfl ?_)
            | (refine isL ?_; refine lex_F rfl (by kernel_rfl) rfl rfl ?_)
            | (refine isLg rfl ?_; refine lex_S rfl (by kernel_rfl) rfl rfl ?_)
            | (refine isAi ?_; refine do_R rfl (step_ia_sl (j := q) rfl rfl rfl (Nat.zero_le _) rfl rfl (Int.natCast_nonneg q) (by omega)) rfl ?_)
            | (refine isLi rfl ?_; refine lex_R rfl (by kernel_rfl) rfl (step_ia_sl (j := q) rfl rfl rfl (Nat.zero_le _) rfl rfl (Int.natCast_nonneg q) (by omega)) rfl ?_)
            | (refine isAl (x := .tmp 93) ?_; refine do_R rfl (ld_f (T := clT) (i := 0 + (q : Int).toNat) (off := 0) (z := y) (v := I y.a) rfl rfl rfl hy3 rfl) rfl ?_)
            | (refine isLl (x := .tmp 93) rfl ?_; refine lex_R rfl (by kernel_rfl) rfl (ld_f (T := clT) (i := 0 + (q : Int).toNat) (off := 0) (z := y) (v := I y.a) rfl rfl rfl hy3 rfl) rfl ?_)
            | refine aops_nil ?_
            | refine lex_done _ rfl (by kernel_rfl) ?_
            | refine aw_ct rfl ?_
            | refine aw_cf rfl ?_
            | refine aw_block ?_
            | refine then_n ?_
            | refine aw_skip ?_
            | refine aw_exit ?_
            | refine then_x ?_
            | refine then_r ?_
            | refine block_x ?_
            | refine block_n ?_
            | refine block_r ?_
            | refine aw_ret ?_
          refine aw_cond rfl (fun h7 => ?_) (fun h7 => ?_)
          · have h8 := hy2.1 (of_decide_eq_true h7)
            repeat' first
              | refine aw_seq ?_
              | refine aw_region ?_
              | refine aw_lex [] ?_
              | (refine isA ?_; refine do_F rfl ?_)
              | (refine isL ?_; refine lex_F rfl (by kernel_rfl) rfl rfl ?_)
              | (refine isLg rfl ?_; refine lex_S rfl (by kernel_rfl) rfl rfl ?_)
              | refine aops_nil ?_
              | refine lex_done _ rfl (by kernel_rfl) ?_
              | refine aw_ct rfl ?_
              | refine aw_cf rfl ?_
              | refine aw_block ?_
              | refine then_n ?_
              | refine aw_skip ?_
              | refine aw_exit ?_
              | refine then_x ?_
              | refine then_r ?_
              | refine block_x ?_
              | refine block_n ?_
              | refine block_r ?_
              | refine aw_ret ?_
            refine ⟨⟨q + 1, h8⟩, by simp only; omega, ?_⟩
            exact sub0 [0, 1, 2, 3, 4] rfl rfl (by decide) (.cons rfl rfl rfl rfl (by repeat' first | exact les_nil | refine les_cons ?_ ?_ | exact le_any | exact le_refl rfl | exact le_sl rfl rfl | exact le_ptr rfl) (.cons rfl rfl rfl rfl (by repeat' first | exact les_nil | refine les_cons ?_ ?_ | exact le_any | exact le_refl rfl | exact le_sl rfl rfl | exact le_ptr rfl) (.cons rfl rfl rfl rfl (les_refl (flat_noH _ _)) (.cons rfl rfl rfl rfl (les_refl (flat_noH _ _)) (.cons rfl rfl rfl rfl (les_eq rfl (noHs_mem rfl)) .nil))))) (by repeat' first | exact les_nil | refine les_cons ?_ ?_ | exact le_any | exact le_refl rfl | exact le_sl rfl rfl | exact le_ptr rfl | exact le_i hlt2 (by omega))
          · have h8 : q = posC (dropC b.act i) w := by have := of_decide_eq_false h7; have := mt hy2.2 this; omega
            subst h8
            repeat' first
              | refine aw_seq ?_
              | refine aw_region ?_
              | refine aw_lex [] ?_
              | (refine isA ?_; refine do_F rfl ?_)
              | (refine isL ?_; refine lex_F rfl (by kernel_rfl) rfl rfl ?_)
              | (refine isLg rfl ?_; refine lex_S rfl (by kernel_rfl) rfl rfl ?_)
              | (refine isAc 87 ?_; refine do_R rfl (st_callN (K := []) (K2 := []) (Rs' := [regOf clT 53 (putC (dropC b.act i) w), regOf clT 53 [w]]) [3, 5] (by decide) rfl (c_insert (dropC b.act i) z3 w (posC (dropC b.act i) w) hp (by omega)) (.flat rfl rfl rfl (flat_noH _ _) (flat_noH _ _) (.flat rfl rfl rfl (flat_noH _ _) (flat_noH _ _) .nil)) (.cons (.sl rfl) (.cons (.same rfl) (.cons (.sl rfl) .nil))) .nil (.sl rfl) rfl) rfl ?_)
              | (refine isLc 87 rfl ?_; refine lex_R rfl (by kernel_rfl) rfl (st_callN (K := []) (K2 := []) (Rs' := [regOf clT 53 (putC (dropC b.act i) w), regOf clT 53 [w]]) [3, 5] (by decide) rfl (c_insert (dropC b.act i) z3 w (posC (dropC b.act i) w) hp (by omega)) (.flat rfl rfl rfl (flat_noH _ _) (flat_noH _ _) (.flat rfl rfl rfl (flat_noH _ _) (flat_noH _ _) .nil)) (.cons (.sl rfl) (.cons (.same rfl) (.cons (.sl rfl) .nil))) .nil (.sl rfl) rfl) rfl ?_)
              | exact (by rw [hr]; exact finMCTf [3, 2] (by decide) (cell_is rfl rfl rfl rfl rfl) (le_tup (les_cons (le_agg (les_cons (le_refl rfl) (les_cons (le_refl rfl) (les_cons (le_sl rfl (putC_len _ _).symm) (les_cons (le_sl rfl rfl) les_nil))))) (les_cons (le_refl rfl) les_nil))) (.cons rfl rfl rfl rfl (les_eq rfl (flat_noH _ _)) (.cons rfl rfl rfl rfl (les_eq rfl (flat_noH _ _)) .nil)) rfl (brK_flat _ _))
              | refine aops_nil ?_
              | refine lex_done _ rfl (by kernel_rfl) ?_
              | refine aw_ct rfl ?_
              | refine aw_cf rfl ?_
              | refine aw_block ?_
              | refine then_n ?_
              | refine aw_skip ?_
              | refine aw_exit ?_
              | refine then_x ?_
              | refine then_r ?_
              | refine block_x ?_
              | refine block_n ?_
              | refine block_r ?_
              | refine aw_ret ?_

        · have h8 : q = posC (dropC b.act i) w := by have := of_decide_eq_false h6; simp only at this; omega
          subst h8
          repeat' first
            | refine aw_seq ?_
            | refine aw_region ?_
            | refine aw_lex [] ?_
            | (refine isA ?_; refine do_F rfl ?_)
            | (refine isL ?_; refine lex_F rfl (by kernel_rfl) rfl rfl ?_)
            | (refine isLg rfl ?_; refine lex_S rfl (by kernel_rfl) rfl rfl ?_)
            | (refine isAc 87 ?_; refine do_R rfl (st_callN (K := []) (K2 := []) (Rs' := [regOf clT 53 (putC (dropC b.act i) w), regOf clT 53 [w]]) [3, 5] (by decide) rfl (c_insert (dropC b.act i) z3 w (posC (dropC b.act i) w) hp (by omega)) (.flat rfl rfl rfl (flat_noH _ _) (flat_noH _ _) (.flat rfl rfl rfl (flat_noH _ _) (flat_noH _ _) .nil)) (.cons (.sl rfl) (.cons (.same rfl) (.cons (.sl rfl) .nil))) .nil (.sl rfl) rfl) rfl ?_)
            | (refine isLc 87 rfl ?_; refine lex_R rfl (by kernel_rfl) rfl (st_callN (K := []) (K2 := []) (Rs' := [regOf clT 53 (putC (dropC b.act i) w), regOf clT 53 [w]]) [3, 5] (by decide) rfl (c_insert (dropC b.act i) z3 w (posC (dropC b.act i) w) hp (by omega)) (.flat rfl rfl rfl (flat_noH _ _) (flat_noH _ _) (.flat rfl rfl rfl (flat_noH _ _) (flat_noH _ _) .nil)) (.cons (.sl rfl) (.cons (.same rfl) (.cons (.sl rfl) .nil))) .nil (.sl rfl) rfl) rfl ?_)
            | exact (by rw [hr]; exact finMCTf [3, 2] (by decide) (cell_is rfl rfl rfl rfl rfl) (le_tup (les_cons (le_agg (les_cons (le_refl rfl) (les_cons (le_refl rfl) (les_cons (le_sl rfl (putC_len _ _).symm) (les_cons (le_sl rfl rfl) les_nil))))) (les_cons (le_refl rfl) les_nil))) (.cons rfl rfl rfl rfl (les_eq rfl (flat_noH _ _)) (.cons rfl rfl rfl rfl (les_eq rfl (flat_noH _ _)) .nil)) rfl (brK_flat _ _))
            | refine aops_nil ?_
            | refine lex_done _ rfl (by kernel_rfl) ?_
            | refine aw_ct rfl ?_
            | refine aw_cf rfl ?_
            | refine aw_block ?_
            | refine then_n ?_
            | refine aw_skip ?_
            | refine aw_exit ?_
            | refine then_x ?_
            | refine then_r ?_
            | refine block_x ?_
            | refine block_n ?_
            | refine block_r ?_
            | refine aw_ret ?_

end Go.Proofs.Ytjlhfemfmkdlhaa.Ab
