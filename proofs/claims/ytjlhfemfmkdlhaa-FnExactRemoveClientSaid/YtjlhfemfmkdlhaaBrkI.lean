/-
  Copies and results as rows of one's own; marks.
-/
import Derived.Test.YtjlhfemfmkdlhaaBrkG
import Derived.Test.YtjlhfemfmkdlhaaAbU
namespace Go.Proofs.Ytjlhfemfmkdlhaa.Ab
open Go.RowKit
set_option linter.unusedVariables false
set_option linter.unusedSimpArgs false
set_option maxRecDepth 20000
set_option maxHeartbeats 2000000

theorem flat_int (xs : List Int) : FlatL (intT.flat xs) := fun c hc => by
  simp only [Ty.flat, List.mem_flatMap] at hc
  obtain ⟨x, _, hx⟩ := hc
  simp only [intT, List.mem_cons, List.not_mem_nil, or_false] at hx
  exact ⟨_, hx⟩

theorem c_toClientSO (xs : List Cl) (hl : xs.length ≤ 1000000000) : Meets Go.Proofs.Try.prog 72 [clL xs] [] (.sl 0 0 xs.length) [regOf clT 53 xs] true := by
  refine meets_of [2] Go.Proofs.Try.func72 rfl rfl ?_
  simp only [Go.Proofs.Try.ntmps72, List.length_cons, List.length_nil, Nat.reduceAdd, Nat.reduceSub, List.replicate_succ, List.replicate_zero, List.cons_append, List.nil_append]
  repeat' first
    | refine aw_seq ?_
    | refine aw_region ?_
    | refine aw_lex [] ?_
    | (refine isA ?_; refine do_F rfl ?_)
    | (refine isL ?_; refine lex_F rfl (by kernel_rfl) rfl rfl ?_)
    | (refine isLg rfl ?_; refine lex_S rfl (by kernel_rfl) rfl rfl ?_)
    | refine do_R rfl (mk_l clT z3 rfl rfl rfl hl rfl rfl rfl) rfl ?_
    | refine lex_R rfl (by kernel_rfl) rfl (mk_l clT z3 rfl rfl rfl hl rfl rfl rfl) rfl ?_
    | refine aops_nil ?_
    | refine lex_done _ rfl (by kernel_rfl) ?_
    | refine aw_ct rfl ?_
    | refine aw_cf rfl ?_
    | refine aw_block ?_
    | refine then_n ?_
    | refine aw_skip ?_
    | refine aw_exit ?_
    | refine then_x ?_
    | refine then_r ?_
    | refine block_x ?_
    | refine block_n ?_
    | refine block_r ?_
    | refine aw_ret ?_
  refine aw_loop (α := { i : Nat // i ≤ xs.length }) (fun i => ⟨[clL xs, .any, .any, .sl 0 0 xs.length, I i.1, .any, .any, .any, .any, .any, .any, .any, .any, .any, .any, .any, .any, .any, .any, .any, .any, .any, .any], [regOf clT 53 (xs.take i.1 ++ List.replicate (xs.length - i.1) z3)], 0⟩) (fun i => xs.length - i.1) ⟨0, Nat.zero_le _⟩ ?_ ?_
  · exact sub0 [0] rfl rfl (by decide) (.cons rfl rfl rfl rfl (les_refl (flat_noH _ _)) .nil) (by repeat' first | exact les_nil | refine les_cons ?_ ?_ | exact le_any | exact le_refl rfl | exact le_sl rfl rfl | exact le_ptr rfl)
  · rintro ⟨i, hi⟩
    repeat' first
      | refine aw_seq ?_
      | refine aw_region ?_
      | refine aw_lex [] ?_
      | (refine isA ?_; refine do_F rfl ?_)
      | (refine isL ?_; refine lex_F rfl (by kernel_rfl) rfl rfl ?_)
      | (refine isLg rfl ?_; refine lex_S rfl (by kernel_rfl) rfl rfl ?_)
      | refine aops_nil ?_
      | refine lex_done _ rfl (by kernel_rfl) ?_
      | refine aw_ct rfl ?_
      | refine aw_cf rfl ?_
      | refine aw_block ?_
      | refine then_n ?_
      | refine aw_skip ?_
      | refine aw_exit ?_
      | refine then_x ?_
      | refine then_r ?_
      | refine block_x ?_
      | refine block_n ?_
      | refine block_r ?_
      | refine aw_ret ?_
    refine aw_cond rfl (fun h => ?_) (fun h => ?_)
    · have hlt : i < xs.length := by simpa using h
      obtain ⟨z, hz⟩ : ∃ z, xs[i]? = some z := ⟨_, List.getElem?_eq_getElem hlt⟩
      repeat' first
        | refine aw_seq ?_
        | refine aw_region ?_
        | refine aw_lex [] ?_
        | (refine isA ?_; refine do_F rfl ?_)
        | (refine isL ?_; refine lex_F rfl (by kernel_rfl) rfl rfl ?_)
        | (refine isLg rfl ?_; refine lex_S rfl (by kernel_rfl) rfl rfl ?_)
        | refine do_R rfl (ia_l (z := z) rfl rfl rfl rfl (Int.natCast_nonneg _) hz) rfl ?_
        | refine lex_R rfl (by kernel_rfl) rfl (ia_l (z := z) rfl rfl rfl rfl (Int.natCast_nonneg _) hz) rfl ?_
        | refine do_R rfl (st_call rfl (c_toClient _) (.cons (.same rfl) .nil) rfl) rfl ?_
        | refine lex_R rfl (by kernel_rfl) rfl (st_call rfl (c_toClient _) (.cons (.same rfl) .nil) rfl) rfl ?_
        | refine do_R rfl (step_ia_sl rfl rfl rfl (Nat.zero_le _) rfl rfl (Int.natCast_nonneg _) (by simpa using hlt)) rfl ?_
        | refine lex_R rfl (by kernel_rfl) rfl (step_ia_sl rfl rfl rfl (Nat.zero_le _) rfl rfl (Int.natCast_nonneg _) (by simpa using hlt)) rfl ?_
        | refine do_R rfl (set_l rfl rfl rfl rfl rfl (by simp; omega)) rfl ?_
        | refine lex_R rfl (by kernel_rfl) rfl (set_l rfl rfl rfl rfl rfl (by simp; omega)) rfl ?_
        | refine aops_nil ?_
        | refine lex_done _ rfl (by kernel_rfl) ?_
        | refine aw_ct rfl ?_
        | refine aw_cf rfl ?_
        | refine aw_block ?_
        | refine then_n ?_
        | refine aw_skip ?_
        | refine aw_exit ?_
        | refine then_x ?_
        | refine then_r ?_
        | refine block_x ?_
        | refine block_n ?_
        | refine block_r ?_
        | refine aw_ret ?_
      refine ⟨⟨i + 1, hlt⟩, by simp only; omega, ?_⟩
      exact sub0 [0] rfl rfl (by decide) (.cons rfl rfl rfl rfl (les_eq (by rw [Nat.zero_add]; exact congrArg clT.flat (fill_step (xs := xs) hz rfl)) (flat_noH _ _)) .nil) (by repeat' first | exact les_nil | refine les_cons ?_ ?_ | exact le_any | exact le_refl rfl | exact le_sl rfl rfl | exact le_ptr rfl | exact le_i (by assumption) (by omega))
    · have hge : i = xs.length := by
        have : ¬ ((i : Int) < xs.length) := by simpa using h
        omega
      subst hge
      repeat' first
        | refine aw_seq ?_
        | refine aw_region ?_
        | refine aw_lex [] ?_
        | (refine isA ?_; refine do_F rfl ?_)
        | (refine isL ?_; refine lex_F rfl (by kernel_rfl) rfl rfl ?_)
        | (refine isLg rfl ?_; refine lex_S rfl (by kernel_rfl) rfl rfl ?_)
        | exact finM 0 [0] (fun i hi => absurd hi (Nat.not_lt_zero _)) (by decide) rfl (le_sl rfl rfl) (.cons rfl rfl rfl rfl (les_eq (by simp) (flat_noH _ _)) .nil)
        | refine aops_nil ?_
        | refine lex_done _ rfl (by kernel_rfl) ?_
        | refine aw_ct rfl ?_
        | refine aw_cf rfl ?_
        | refine aw_block ?_
        | refine then_n ?_
        | refine aw_skip ?_
        | refine aw_exit ?_
        | refine then_x ?_
        | refine then_r ?_
        | refine block_x ?_
        | refine block_n ?_
        | refine block_r ?_
        | refine aw_ret ?_


def brO (b : Br) : List V := [I b.pool, I b.next, .sl 0 0 b.act.length, .sl 1 0 b.wait.length]
def brK (a w : List Cl) : List Reg := [regOf clT 53 a, regOf clT 53 w]

theorem c_toBrokerO (b : Br) (h1 : b.act.length ≤ 1000000000) (h2 : b.wait.length ≤ 1000000000) : Meets Go.Proofs.Try.prog 22 [.agg (brE b)] [] (.agg (brO b)) (brK b.act b.wait) true := by
  refine meets_ofC 2 24 Go.Proofs.Try.func22 rfl rfl ?_
  simp only [Go.Proofs.Try.ntmps22, List.length_cons, List.length_nil, Nat.reduceAdd, Nat.reduceSub, List.replicate_succ, List.replicate_zero, List.cons_append, List.nil_append]
  repeat' first
    | refine aw_seq ?_
    | refine aw_region ?_
    | refine aw_lex [] ?_
    | (refine isA ?_; refine do_F rfl ?_)
    | (refine isL ?_; refine lex_F rfl (by kernel_rfl) rfl rfl ?_)
    | (refine isLg rfl ?_; refine lex_S rfl (by kernel_rfl) rfl rfl ?_)
    | (refine isAc 72 ?_; refine do_R rfl (st_callK rfl (c_toClientSO _ h1) (.cons (.same rfl) .nil) (fun q hq => by simp at hq; subst hq; exact flat_noH _ _) rfl rfl) rfl ?_)
    | (refine isAc 72 ?_; refine do_R rfl (st_callK rfl (c_toClientSO _ h2) (.cons (.same rfl) .nil) (fun q hq => by simp at hq; subst hq; exact flat_noH _ _) rfl rfl) rfl ?_)
    | exact finMC [3, 4] (by decide) (cell_is rfl rfl rfl rfl rfl) (le_agg (les_cons (le_refl rfl) (les_cons (le_refl rfl) (les_cons (le_sl rfl rfl) (les_cons (le_sl rfl rfl) les_nil))))) (.cons rfl rfl rfl rfl (les_refl (flat_noH _ _)) (.cons rfl rfl rfl rfl (les_refl (flat_noH _ _)) .nil))
    | refine aops_nil ?_
    | refine lex_done _ rfl (by kernel_rfl) ?_
    | refine aw_ct rfl ?_
    | refine aw_cf rfl ?_
    | refine aw_block ?_
    | refine then_n ?_
    | refine aw_skip ?_
    | refine aw_exit ?_
    | refine then_x ?_
    | refine then_r ?_
    | refine block_x ?_
    | refine block_n ?_
    | refine block_r ?_
    | refine aw_ret ?_

theorem c_icgO (b : Br) (h1 : b.act.length ≤ 1000000000) (h2 : b.wait.length ≤ 1000000000) : Meets Go.Proofs.Try.prog 31 [.agg (brE b)] [] (.sl 0 0 (cg b).length) [regOf intT 3 (cg b)] false := by
  refine meets_of [2] Go.Proofs.Try.func31 rfl rfl ?_
  simp only [Go.Proofs.Try.ntmps31, List.length_cons, List.length_nil, Nat.reduceAdd, Nat.reduceSub, List.replicate_succ, List.replicate_zero, List.cons_append, List.nil_append]
  repeat' first
    | refine aw_seq ?_
    | refine aw_region ?_
    | refine aw_lex [] ?_
    | (refine isA ?_; refine do_F rfl ?_)
    | (refine isL ?_; refine lex_F rfl (by kernel_rfl) rfl rfl ?_)
    | (refine isLg rfl ?_; refine lex_S rfl (by kernel_rfl) rfl rfl ?_)
    | (refine isAc 25 ?_; refine do_R rfl (st_call rfl (c_ivalid _ h1 h2) (.cons (.same rfl) .nil) rfl) rfl ?_)
    | (refine isLc 25 rfl ?_; refine lex_R rfl (by kernel_rfl) rfl (st_call rfl (c_ivalid _ h1 h2) (.cons (.same rfl) .nil) rfl) rfl ?_)
    | refine aops_nil ?_
    | refine lex_done _ rfl (by kernel_rfl) ?_
    | refine aw_ct rfl ?_
    | refine aw_cf rfl ?_
    | refine aw_block ?_
    | refine then_n ?_
    | refine aw_skip ?_
    | refine aw_exit ?_
    | refine then_x ?_
    | refine then_r ?_
    | refine block_x ?_
    | refine block_n ?_
    | refine block_r ?_
    | refine aw_ret ?_
  refine aw_cond rfl (fun hv => ?_) (fun hv => ?_)
  · have hv : validB b = false := by simpa using hv
    repeat' first
      | refine aw_seq ?_
      | refine aw_region ?_
      | refine aw_lex [] ?_
      | (refine isA ?_; refine do_F rfl ?_)
      | (refine isL ?_; refine lex_F rfl (by kernel_rfl) rfl rfl ?_)
      | (refine isLg rfl ?_; refine lex_S rfl (by kernel_rfl) rfl rfl ?_)
      | exact (by rw [cg, hv]; exact finNil rfl)
      | refine aops_nil ?_
      | refine lex_done _ rfl (by kernel_rfl) ?_
      | refine aw_ct rfl ?_
      | refine aw_cf rfl ?_
      | refine aw_block ?_
      | refine then_n ?_
      | refine aw_skip ?_
      | refine aw_exit ?_
      | refine then_x ?_
      | refine then_r ?_
      | refine block_x ?_
      | refine block_n ?_
      | refine block_r ?_
      | refine aw_ret ?_
  · have hv : validB b = true := by simpa using hv
    refine aw_skip ?_
    refine then_n ?_
    refine aw_seq ?_
    refine aw_per [3] 8 rfl ?_
    refine per_P 0 rfl (by kernel_rfl) rfl (fun _ => rfl) rfl ?_
    refine per_F 1 rfl (by kernel_rfl) rfl rfl rfl ?_
    refine per_P 2 rfl (by kernel_rfl) rfl (fun _ => rfl) rfl ?_
    refine per_P 4 rfl (by kernel_rfl) rfl (fun _ => rfl) rfl ?_
    refine per_2F 3 5 rfl rfl (by kernel_rfl) (by kernel_rfl) rfl rfl (mk_l intT 0 rfl rfl rfl h1 rfl rfl rfl) rfl rfl rfl rfl ?_ ?_
    · refine per_F 5 rfl (by kernel_rfl) rfl rfl rfl ?_
      refine per_P 6 rfl (by kernel_rfl) rfl (fun _ => rfl) rfl ?_
      refine per_P 7 rfl (by kernel_rfl) rfl (fun _ => rfl) rfl ?_
      refine per_done (by kernel_rfl) ?_
      repeat' first
        | refine aw_seq ?_
        | refine aw_region ?_
        | refine aw_lex [] ?_
        | (refine isA ?_; refine do_F rfl ?_)
        | (refine isL ?_; refine lex_F rfl (by kernel_rfl) rfl rfl ?_)
        | (refine isLg rfl ?_; refine lex_S rfl (by kernel_rfl) rfl rfl ?_)
        | refine aops_nil ?_
        | refine lex_done _ rfl (by kernel_rfl) ?_
        | refine aw_ct rfl ?_
        | refine aw_cf rfl ?_
        | refine aw_block ?_
        | refine then_n ?_
        | refine aw_skip ?_
        | refine aw_exit ?_
        | refine then_x ?_
        | refine then_r ?_
        | refine block_x ?_
        | refine block_n ?_
        | refine block_r ?_
        | refine aw_ret ?_
      refine aw_loop (α := { i : Nat // i ≤ b.act.length }) (fun i => ⟨[.any, .ptr 0 0, .any, .sl 1 0 b.act.length, I (frI b.pool i.1), .any, .any, .any, .any, .any, .any, .any, .any, .any, .any, .any, .any, .any, .any, .any, I b.act.length, I i.1, .any, .any, .any, .any, .any, .any, .any, .any, .any, .any, .any, .any, .any, .any, .any, .any, .any, .any, .any, .any, .any, .any, .any, .any, .any, .any, .any, .any, .any, .any, .any, .any, .any, .any, .any, .any, .any, .any, .any, .any, .any], [⟨24, 4, brE b, 0⟩, regOf intT 3 (List.replicate i.1 (8 : Int) ++ List.replicate (b.act.length - i.1) 0)], 0⟩) (fun i => b.act.length - i.1) ⟨0, Nat.zero_le _⟩ ?_ ?_
      · exact sub0 [0, 1] rfl rfl (by decide) (.cons rfl rfl rfl rfl (les_refl' rfl) (.cons rfl rfl rfl rfl (les_eq rfl (flat_noH _ _)) .nil)) (by repeat' first | exact les_nil | refine les_cons ?_ ?_ | exact le_any | exact le_refl rfl | exact le_sl rfl rfl | exact le_ptr rfl)
      · rintro ⟨i, hi⟩
        repeat' first
          | refine aw_seq ?_
          | refine aw_region ?_
          | refine aw_lex [] ?_
          | (refine isA ?_; refine do_F rfl ?_)
          | (refine isL ?_; refine lex_F rfl (by kernel_rfl) rfl rfl ?_)
          | (refine isLg rfl ?_; refine lex_S rfl (by kernel_rfl) rfl rfl ?_)
          | refine aops_nil ?_
          | refine lex_done _ rfl (by kernel_rfl) ?_
          | refine aw_ct rfl ?_
          | refine aw_cf rfl ?_
          | refine aw_block ?_
          | refine then_n ?_
          | refine aw_skip ?_
          | refine aw_exit ?_
          | refine then_x ?_
          | refine then_r ?_
          | refine block_x ?_
          | refine block_n ?_
          | refine block_r ?_
          | refine aw_ret ?_
        refine aw_cond rfl (fun h => ?_) (fun h => ?_)
        · have hlt : i < b.act.length := by simpa using h
          repeat' first
            | refine aw_seq ?_
            | refine aw_region ?_
            | refine aw_lex [] ?_
            | (refine isA ?_; refine do_F rfl ?_)
            | (refine isL ?_; refine lex_F rfl (by kernel_rfl) rfl rfl ?_)
            | (refine isLg rfl ?_; refine lex_S rfl (by kernel_rfl) rfl rfl ?_)
            | (refine isAi ?_; refine do_R rfl (step_ia_sl (j := i) rfl rfl rfl (Nat.zero_le _) rfl rfl (Int.natCast_nonneg i) (by omega)) rfl ?_)
            | (refine isLi rfl ?_; refine lex_R rfl (by kernel_rfl) rfl (step_ia_sl (j := i) rfl rfl rfl (Nat.zero_le _) rfl rfl (Int.natCast_nonneg i) (by omega)) rfl ?_)
            | (refine isAs ?_; refine do_R rfl (set_l1 (T := intT) (xs := List.replicate i (8 : Int) ++ List.replicate (b.act.length - i) 0) (z := 8) rfl rfl rfl rfl rfl rfl (Nat.lt_of_lt_of_eq (show (0 + i) * 1 < b.act.length by omega) (by simp; omega))) rfl ?_)
            | (refine isLs rfl ?_; refine lex_R rfl (by kernel_rfl) rfl (set_l1 (T := intT) (xs := List.replicate i (8 : Int) ++ List.replicate (b.act.length - i) 0) (z := 8) rfl rfl rfl rfl rfl rfl (Nat.lt_of_lt_of_eq (show (0 + i) * 1 < b.act.length by omega) (by simp; omega))) rfl ?_)
            | refine aops_nil ?_
            | refine lex_done _ rfl (by kernel_rfl) ?_
            | refine aw_ct rfl ?_
            | refine aw_cf rfl ?_
            | refine aw_block ?_
            | refine then_n ?_
            | refine aw_skip ?_
            | refine aw_exit ?_
            | refine then_x ?_
            | refine then_r ?_
            | refine block_x ?_
            | refine block_n ?_
            | refine block_r ?_
            | refine aw_ret ?_
          refine ⟨⟨i + 1, hlt⟩, by simp only; omega, ?_⟩
          exact sub0 [0, 1] rfl rfl (by decide) (.cons rfl rfl rfl rfl (les_refl' rfl) (.cons rfl rfl rfl rfl (les_eq (by rw [Nat.zero_add]; show (regOf intT 3 (List.set _ (i * 1) _)).cells = _; rw [Nat.mul_one]; exact congrArg intT.flat (fill8 hlt)) (flat_noH _ _)) .nil)) (by repeat' first | exact les_nil | refine les_cons ?_ ?_ | exact le_any | exact le_refl rfl | exact le_sl rfl rfl | exact le_ptr rfl | exact le_i (by assumption) (by omega))
        · have hge : i = b.act.length := by
            have : ¬ ((i : Int) < b.act.length) := by simpa using h
            omega
          subst hge
          repeat' first
            | refine aw_seq ?_
            | refine aw_region ?_
            | refine aw_lex [] ?_
            | (refine isA ?_; refine do_F rfl ?_)
            | (refine isL ?_; refine lex_F rfl (by kernel_rfl) rfl rfl ?_)
            | (refine isLg rfl ?_; refine lex_S rfl (by kernel_rfl) rfl rfl ?_)
            | refine aops_nil ?_
            | refine lex_done _ rfl (by kernel_rfl) ?_
            | refine aw_ct rfl ?_
            | refine aw_cf rfl ?_
            | refine aw_block ?_
            | refine then_n ?_
            | refine aw_skip ?_
            | refine aw_exit ?_
            | refine then_x ?_
            | refine then_r ?_
            | refine block_x ?_
            | refine block_n ?_
            | refine block_r ?_
            | refine aw_ret ?_
          refine aw_loop (α := { j : Nat // j ≤ 10 }) (fun j => ⟨[.any, .ptr 0 0, .any, .sl 1 0 b.act.length, I (outerG b.act (startG b) j.1).2, .any, I (9 - (j.1 : Int)), .any, .any, .any, .any, .any, .any, .any, .any, .any, .any, .any, .any, .any, .any, .any, .any, .any, .any, .any, .any, .any, .any, .any, .any, .any, .any, .any, .any, .any, .any, .any, .any, .any, .any, .any, .any, .any, .any, .any, .any, .any, .any, .any, .any, .any, .any, .any, .any, .any, .any, .any, .any, .any, .any, .any, .any], [⟨24, 4, brE b, 0⟩, regOf intT 3 (outerG b.act (startG b) j.1).1], 0⟩) (fun j => 10 - j.1) ⟨0, Nat.zero_le _⟩ ?_ ?_
          · exact sub0 [0, 1] rfl rfl (by decide) (.cons rfl rfl rfl rfl (les_refl' rfl) (.cons rfl rfl rfl rfl (les_eq (by rw [Nat.sub_self]; simp [outerG, startG]) (flat_noH _ _)) .nil)) (by
              repeat' first
                | exact les_nil
                | refine les_cons ?_ ?_
                | exact le_any
                | exact le_refl rfl
                | exact le_ptr rfl
                | exact le_sl rfl (by simp))
          · rintro ⟨j, hj⟩
            repeat' first
              | refine aw_seq ?_
              | refine aw_region ?_
              | refine aw_lex [] ?_
              | (refine isA ?_; refine do_F rfl ?_)
              | (refine isL ?_; refine lex_F rfl (by kernel_rfl) rfl rfl ?_)
              | (refine isLg rfl ?_; refine lex_S rfl (by kernel_rfl) rfl rfl ?_)
              | refine aops_nil ?_
              | refine lex_done _ rfl (by kernel_rfl) ?_
              | refine aw_ct rfl ?_
              | refine aw_cf rfl ?_
              | refine aw_block ?_
              | refine then_n ?_
              | refine aw_skip ?_
              | refine aw_exit ?_
              | refine then_x ?_
              | refine then_r ?_
              | refine block_x ?_
              | refine block_n ?_
              | refine block_r ?_
              | refine aw_ret ?_
            refine aw_cond rfl (fun h => ?_) (fun h => ?_)
            · have hlj : j < 10 := by have := of_decide_eq_true h; simp only at this; omega
              repeat' first
                | refine aw_seq ?_
                | refine aw_region ?_
                | refine aw_lex [] ?_
                | (refine isA ?_; refine do_F rfl ?_)
                | (refine isL ?_; refine lex_F rfl (by kernel_rfl) rfl rfl ?_)
                | (refine isLg rfl ?_; refine lex_S rfl (by kernel_rfl) rfl rfl ?_)
                | refine aops_nil ?_
                | refine lex_done _ rfl (by kernel_rfl) ?_
                | refine aw_ct rfl ?_
                | refine aw_cf rfl ?_
                | refine aw_block ?_
                | refine then_n ?_
                | refine aw_skip ?_
                | refine aw_exit ?_
                | refine then_x ?_
                | refine then_r ?_
                | refine block_x ?_
                | refine block_n ?_
                | refine block_r ?_
                | refine aw_ret ?_
              refine aw_loop (α := { k : Nat // k ≤ b.act.length }) (fun k => ⟨[.any, .ptr 0 0, .any, .sl 1 0 b.act.length, I (innerG b.act (9 - (j : Int)) (outerG b.act (startG b) j) k.1).2, .any, I (9 - (j : Int)), .any, .any, .any, .any, .any, .any, .any, .any, .any, .any, .any, .any, .any, .any, .any, .any, .any, .any, .any, .any, .any, .any, .any, .any, .any, .any, .any, .any, clL b.act, I b.act.length, I k.1, .any, .any, .any, .any, .any, .any, .any, .any, .any, .any, .any, .any, .any, .any, .any, .any, .any, .any, .any, .any, .any, .any, .any, .any, .any], [⟨24, 4, brE b, 0⟩, regOf intT 3 (innerG b.act (9 - (j : Int)) (outerG b.act (startG b) j) k.1).1], 0⟩) (fun k => b.act.length - k.1) ⟨0, Nat.zero_le _⟩ ?_ ?_
              · exact sub0 [0, 1] rfl rfl (by decide) (.cons rfl rfl rfl rfl (les_refl' rfl) (.cons rfl rfl rfl rfl (les_eq rfl (flat_noH _ _)) .nil)) (by repeat' first | exact les_nil | refine les_cons ?_ ?_ | exact le_any | exact le_refl rfl | exact le_sl rfl rfl | exact le_ptr rfl)
              · rintro ⟨k, hk⟩
                have hgl : (innerG b.act (9 - (j : Int)) (outerG b.act (startG b) j) k).1.length = b.act.length := by rw [innerG_len, outerG_len, startG]; simp
                repeat' first
                  | refine aw_seq ?_
                  | refine aw_region ?_
                  | refine aw_lex [] ?_
                  | (refine isA ?_; refine do_F rfl ?_)
                  | (refine isL ?_; refine lex_F rfl (by kernel_rfl) rfl rfl ?_)
                  | (refine isLg rfl ?_; refine lex_S rfl (by kernel_rfl) rfl rfl ?_)
                  | refine aops_nil ?_
                  | refine lex_done _ rfl (by kernel_rfl) ?_
                  | refine aw_ct rfl ?_
                  | refine aw_cf rfl ?_
                  | refine aw_block ?_
                  | refine then_n ?_
                  | refine aw_skip ?_
                  | refine aw_exit ?_
                  | refine then_x ?_
                  | refine then_r ?_
                  | refine block_x ?_
                  | refine block_n ?_
                  | refine block_r ?_
                  | refine aw_ret ?_
                refine aw_cond rfl (fun h => ?_) (fun h => ?_)
                · have hlk : k < b.act.length := by simpa using h
                  obtain ⟨z, hz⟩ : ∃ z, b.act[k]? = some z := ⟨_, List.getElem?_eq_getElem hlk⟩
                  obtain ⟨g, hg⟩ : ∃ g, (innerG b.act (9 - (j : Int)) (outerG b.act (startG b) j) k).1[k]? = some g := ⟨_, List.getElem?_eq_getElem (by rw [hgl]; exact hlk)⟩
                  have hg1 : (innerG b.act (9 - (j : Int)) (outerG b.act (startG b) j) k).1[(0 + k) * 1]? = some g := by rw [Nat.zero_add, Nat.mul_one]; exact hg
                  repeat' first
                    | refine aw_seq ?_
                    | refine aw_region ?_
                    | refine aw_lex [] ?_
                    | (refine isA ?_; refine do_F rfl ?_)
                    | (refine isL ?_; refine lex_F rfl (by kernel_rfl) rfl rfl ?_)
                    | (refine isLg rfl ?_; refine lex_S rfl (by kernel_rfl) rfl rfl ?_)
                    | (refine isAi (x := .tmp 35) ?_; refine do_R rfl (ia_l (z := z) rfl rfl rfl rfl (Int.natCast_nonneg k) hz) rfl ?_)
                    | (refine isLi (x := .tmp 35) rfl ?_; refine lex_R rfl (by kernel_rfl) rfl (ia_l (z := z) rfl rfl rfl rfl (Int.natCast_nonneg k) hz) rfl ?_)
                    | refine aops_nil ?_
                    | refine lex_done _ rfl (by kernel_rfl) ?_
                    | refine aw_ct rfl ?_
                    | refine aw_cf rfl ?_
                    | refine aw_block ?_
                    | refine then_n ?_
                    | refine aw_skip ?_
                    | refine aw_exit ?_
                    | refine then_x ?_
                    | refine then_r ?_
                    | refine block_x ?_
                    | refine block_n ?_
                    | refine block_r ?_
                    | refine aw_ret ?_
                  refine aw_cond rfl (fun he => ?_) (fun he => ?_)
                  · have he := of_decide_eq_true he
                    repeat' first
                      | refine aw_seq ?_
                      | refine aw_region ?_
                      | refine aw_lex [] ?_
                      | (refine isA ?_; refine do_F rfl ?_)
                      | (refine isL ?_; refine lex_F rfl (by kernel_rfl) rfl rfl ?_)
                      | (refine isLg rfl ?_; refine lex_S rfl (by kernel_rfl) rfl rfl ?_)
                      | (refine isAi (x := .tmp 49) ?_; refine do_R rfl (ia_l (z := z) rfl rfl rfl rfl (Int.natCast_nonneg k) hz) rfl ?_)
                      | (refine isLi (x := .tmp 49) rfl ?_; refine lex_R rfl (by kernel_rfl) rfl (ia_l (z := z) rfl rfl rfl rfl (Int.natCast_nonneg k) hz) rfl ?_)
                      | (refine isAi (x := .tmp 51) ?_; refine do_R rfl (step_ia_sl (j := k) rfl rfl rfl (Nat.zero_le _) rfl rfl (Int.natCast_nonneg k) (by omega)) rfl ?_)
                      | (refine isLi (x := .tmp 51) rfl ?_; refine lex_R rfl (by kernel_rfl) rfl (step_ia_sl (j := k) rfl rfl rfl (Nat.zero_le _) rfl rfl (Int.natCast_nonneg k) (by omega)) rfl ?_)
                      | (refine isAi (x := .tmp 51) ?_; refine do_R rfl (step_ia_sl (j := k) rfl rfl rfl (Nat.zero_le _) rfl rfl (Int.natCast_nonneg k) (by omega)) rfl ?_)
                      | (refine isLi (x := .tmp 51) rfl ?_; refine lex_R rfl (by kernel_rfl) rfl (step_ia_sl (j := k) rfl rfl rfl (Nat.zero_le _) rfl rfl (Int.natCast_nonneg k) (by omega)) rfl ?_)
                      | (refine isAl (x := .tmp 53) ?_; refine do_R rfl (step_load1 (T := intT) (z := g) rfl rfl rfl rfl hg1 rfl) rfl ?_)
                      | (refine isLl (x := .tmp 53) rfl ?_; refine lex_R rfl (by kernel_rfl) rfl (step_load1 (T := intT) (z := g) rfl rfl rfl rfl hg1 rfl) rfl ?_)
                      | (refine isAs ?_; refine do_R rfl (set_l1 (T := intT) (z := IntKind.i64.wrap (g + moreG z (innerG b.act (9 - (j : Int)) (outerG b.act (startG b) j) k).2)) rfl rfl rfl rfl rfl rfl (Nat.lt_of_lt_of_eq (show (0 + k) * 1 < b.act.length by omega) hgl.symm)) rfl ?_)
                      | (refine isLs rfl ?_; refine lex_R rfl (by kernel_rfl) rfl (set_l1 (T := intT) (z := IntKind.i64.wrap (g + moreG z (innerG b.act (9 - (j : Int)) (outerG b.act (startG b) j) k).2)) rfl rfl rfl rfl rfl rfl (Nat.lt_of_lt_of_eq (show (0 + k) * 1 < b.act.length by omega) hgl.symm)) rfl ?_)
                      | refine aops_nil ?_
                      | refine lex_done _ rfl (by kernel_rfl) ?_
                      | refine aw_ct rfl ?_
                      | refine aw_cf rfl ?_
                      | refine aw_block ?_
                      | refine then_n ?_
                      | refine aw_skip ?_
                      | refine aw_exit ?_
                      | refine then_x ?_
                      | refine then_r ?_
                      | refine block_x ?_
                      | refine block_n ?_
                      | refine block_r ?_
                      | refine aw_ret ?_
                    refine ⟨⟨k + 1, hlk⟩, by simp only; omega, ?_⟩
                    have e := innerG_at (p := 9 - (j : Int)) (s := outerG b.act (startG b) j) hz
                    rw [stepG, if_pos he, hg] at e
                    exact sub0 [0, 1] rfl rfl (by decide) (.cons rfl rfl rfl rfl (les_refl' rfl) (.cons rfl rfl rfl rfl (les_eq (by rw [e, Nat.zero_add]; show (regOf intT 3 (List.set _ (k * 1) _)).cells = _; rw [Nat.mul_one]; rfl) (flat_noH _ _)) .nil)) (by
                      repeat' first
                        | exact les_nil
                        | refine les_cons ?_ ?_
                        | exact le_any
                        | exact le_refl rfl
                        | exact le_ptr rfl
                        | exact le_sl rfl rfl
                        | exact le_i hlk (by omega)
                        | (refine le_k ?_; rw [e]; rfl))
                  · have he := of_decide_eq_false he
                    repeat' first
                      | refine aw_seq ?_
                      | refine aw_region ?_
                      | refine aw_lex [] ?_
                      | (refine isA ?_; refine do_F rfl ?_)
                      | (refine isL ?_; refine lex_F rfl (by kernel_rfl) rfl rfl ?_)
                      | (refine isLg rfl ?_; refine lex_S rfl (by kernel_rfl) rfl rfl ?_)
                      | refine aops_nil ?_
                      | refine lex_done _ rfl (by kernel_rfl) ?_
                      | refine aw_ct rfl ?_
                      | refine aw_cf rfl ?_
                      | refine aw_block ?_
                      | refine then_n ?_
                      | refine aw_skip ?_
                      | refine aw_exit ?_
                      | refine then_x ?_
                      | refine then_r ?_
                      | refine block_x ?_
                      | refine block_n ?_
                      | refine block_r ?_
                      | refine aw_ret ?_
                    refine ⟨⟨k + 1, hlk⟩, by simp only; omega, ?_⟩
                    have e := innerG_at (p := 9 - (j : Int)) (s := outerG b.act (startG b) j) hz
                    rw [stepG_no he] at e
                    exact sub0 [0, 1] rfl rfl (by decide) (.cons rfl rfl rfl rfl (les_refl' rfl) (.cons rfl rfl rfl rfl (les_eq (by rw [e]) (flat_noH _ _)) .nil)) (by
                      repeat' first
                        | exact les_nil
                        | refine les_cons ?_ ?_
                        | exact le_any
                        | exact le_refl rfl
                        | exact le_ptr rfl
                        | exact le_sl rfl rfl
                        | exact le_i hlk (by omega)
                        | (refine le_k ?_; rw [e]))
                · have hge : k = b.act.length := by
                    have : ¬ ((k : Int) < b.act.length) := by simpa using h
                    omega
                  subst hge
                  repeat' first
                    | refine aw_seq ?_
                    | refine aw_region ?_
                    | refine aw_lex [] ?_
                    | (refine isA ?_; refine do_F rfl ?_)
                    | (refine isL ?_; refine lex_F rfl (by kernel_rfl) rfl rfl ?_)
                    | (refine isLg rfl ?_; refine lex_S rfl (by kernel_rfl) rfl rfl ?_)
                    | refine aops_nil ?_
                    | refine lex_done _ rfl (by kernel_rfl) ?_
                    | refine aw_ct rfl ?_
                    | refine aw_cf rfl ?_
                    | refine aw_block ?_
                    | refine then_n ?_
                    | refine aw_skip ?_
                    | refine aw_exit ?_
                    | refine then_x ?_
                    | refine then_r ?_
                    | refine block_x ?_
                    | refine block_n ?_
                    | refine block_r ?_
                    | refine aw_ret ?_
                  refine ⟨⟨j + 1, hlj⟩, by simp only; omega, ?_⟩
                  exact sub0 [0, 1] rfl rfl (by decide) (.cons rfl rfl rfl rfl (les_refl' rfl) (.cons rfl rfl rfl rfl (les_eq rfl (flat_noH _ _)) .nil)) (by
                    repeat' first
                      | exact les_nil
                      | refine les_cons ?_ ?_
                      | exact le_any
                      | exact le_refl rfl
                      | exact le_ptr rfl
                      | exact le_sl rfl rfl
                      | exact le_p hlj)
            · have hge : j = 10 := by have := of_decide_eq_false h; simp only at this; omega
              subst hge
              repeat' first
                | refine aw_seq ?_
                | refine aw_region ?_
                | refine aw_lex [] ?_
                | (refine isA ?_; refine do_F rfl ?_)
                | (refine isL ?_; refine lex_F rfl (by kernel_rfl) rfl rfl ?_)
                | (refine isLg rfl ?_; refine lex_S rfl (by kernel_rfl) rfl rfl ?_)
                | exact (by rw [cg, hv]; exact finL (ty := intT) rfl rfl rfl rfl (cgV_len b).symm rfl (flat_int _))
                | refine aops_nil ?_
                | refine lex_done _ rfl (by kernel_rfl) ?_
                | refine aw_ct rfl ?_
                | refine aw_cf rfl ?_
                | refine aw_block ?_
                | refine then_n ?_
                | refine aw_skip ?_
                | refine aw_exit ?_
                | refine then_x ?_
                | refine then_r ?_
                | refine block_x ?_
                | refine block_n ?_
                | refine block_r ?_
                | refine aw_ret ?_
    · refine per_W 3 rfl (by kernel_rfl) rfl rfl (mk_l intT 0 rfl rfl rfl h1 rfl rfl rfl) rfl ?_
      refine per_P 6 rfl (by kernel_rfl) rfl (fun _ => rfl) rfl ?_
      refine per_P 7 rfl (by kernel_rfl) rfl (fun _ => rfl) rfl ?_
      refine per_done (by kernel_rfl) ?_
      repeat' first
        | refine aw_seq ?_
        | refine aw_region ?_
        | refine aw_lex [] ?_
        | (refine isA ?_; refine do_F rfl ?_)
        | (refine isL ?_; refine lex_F rfl (by kernel_rfl) rfl rfl ?_)
        | (refine isLg rfl ?_; refine lex_S rfl (by kernel_rfl) rfl rfl ?_)
        | refine aops_nil ?_
        | refine lex_done _ rfl (by kernel_rfl) ?_
        | refine aw_ct rfl ?_
        | refine aw_cf rfl ?_
        | refine aw_block ?_
        | refine then_n ?_
        | refine aw_skip ?_
        | refine aw_exit ?_
        | refine then_x ?_
        | refine then_r ?_
        | refine block_x ?_
        | refine block_n ?_
        | refine block_r ?_
        | refine aw_ret ?_
      refine aw_loop (α := { i : Nat // i ≤ b.act.length }) (fun i => ⟨[.any, .ptr 0 0, .any, .sl 1 0 b.act.length, I (frI b.pool i.1), .any, .any, .any, .any, .any, .any, .any, .any, .any, .any, .any, .any, .any, .any, .any, I b.act.length, I i.1, .any, .any, .any, .any, .any, .any, .any, .any, .any, .any, .any, .any, .any, .any, .any, .any, .any, .any, .any, .any, .any, .any, .any, .any, .any, .any, .any, .any, .any, .any, .any, .any, .any, .any, .any, .any, .any, .any, .any, .any, .any], [⟨24, 4, brE b, 0⟩, regOf intT 3 (List.replicate i.1 (8 : Int) ++ List.replicate (b.act.length - i.1) 0)], 0⟩) (fun i => b.act.length - i.1) ⟨0, Nat.zero_le _⟩ ?_ ?_
      · exact sub0 [0, 1] rfl rfl (by decide) (.cons rfl rfl rfl rfl (les_refl' rfl) (.cons rfl rfl rfl rfl (les_eq rfl (flat_noH _ _)) .nil)) (by repeat' first | exact les_nil | refine les_cons ?_ ?_ | exact le_any | exact le_refl rfl | exact le_sl rfl rfl | exact le_ptr rfl)
      · rintro ⟨i, hi⟩
        repeat' first
          | refine aw_seq ?_
          | refine aw_region ?_
          | refine aw_lex [] ?_
          | (refine isA ?_; refine do_F rfl ?_)
          | (refine isL ?_; refine lex_F rfl (by kernel_rfl) rfl rfl ?_)
          | (refine isLg rfl ?_; refine lex_S rfl (by kernel_rfl) rfl rfl ?_)
          | refine aops_nil ?_
          | refine lex_done _ rfl (by kernel_rfl) ?_
          | refine aw_ct rfl ?_
          | refine aw_cf rfl ?_
          | refine aw_block ?_
          | refine then_n ?_
          | refine aw_skip ?_
          | refine aw_exit ?_
          | refine then_x ?_
          | refine then_r ?_
          | refine block_x ?_
          | refine block_n ?_
          | refine block_r ?_
          | refine aw_ret ?_
        refine aw_cond rfl (fun h => ?_) (fun h => ?_)
        · have hlt : i < b.act.length := by simpa using h
          repeat' first
            | refine aw_seq ?_
            | refine aw_region ?_
            | refine aw_lex [] ?_
            | (refine isA ?_; refine do_F rfl ?_)
            | (refine isL ?_; refine lex_F rfl (by kernel_rfl) rfl rfl ?_)
            | (refine isLg rfl ?_; refine lex_S rfl (by kernel_rfl) rfl rfl ?_)
            | (refine isAi ?_; refine do_R rfl (step_ia_sl (j := i) rfl rfl rfl (Nat.zero_le _) rfl rfl (Int.natCast_nonneg i) (by omega)) rfl ?_)
            | (refine isLi rfl ?_; refine lex_R rfl (by kernel_rfl) rfl (step_ia_sl (j := i) rfl rfl rfl (Nat.zero_le _) rfl rfl (Int.natCast_nonneg i) (by omega)) rfl ?_)
            | (refine isAs ?_; refine do_R rfl (set_l1 (T := intT) (xs := List.replicate i (8 : Int) ++ List.replicate (b.act.length - i) 0) (z := 8) rfl rfl rfl rfl rfl rfl (Nat.lt_of_lt_of_eq (show (0 + i) * 1 < b.act.length by omega) (by simp; omega))) rfl ?_)
            | (refine isLs rfl ?_; refine lex_R rfl (by kernel_rfl) rfl (set_l1 (T := intT) (xs := List.replicate i (8 : Int) ++ List.replicate (b.act.length - i) 0) (z := 8) rfl rfl rfl rfl rfl rfl (Nat.lt_of_lt_of_eq (show (0 + i) * 1 < b.act.length by omega) (by simp; omega))) rfl ?_)
            | refine aops_nil ?_
            | refine lex_done _ rfl (by kernel_rfl) ?_
            | refine aw_ct rfl ?_
            | refine aw_cf rfl ?_
            | refine aw_block ?_
            | refine then_n ?_
            | refine aw_skip ?_
            | refine aw_exit ?_
            | refine then_x ?_
            | refine then_r ?_
            | refine block_x ?_
            | refine block_n ?_
            | refine block_r ?_
            | refine aw_ret ?_
          refine ⟨⟨i + 1, hlt⟩, by simp only; omega, ?_⟩
          exact sub0 [0, 1] rfl rfl (by decide) (.cons rfl rfl rfl rfl (les_refl' rfl) (.cons rfl rfl rfl rfl (les_eq (by rw [Nat.zero_add]; show (regOf intT 3 (List.set _ (i * 1) _)).cells = _; rw [Nat.mul_one]; exact congrArg intT.flat (fill8 hlt)) (flat_noH _ _)) .nil)) (by repeat' first | exact les_nil | refine les_cons ?_ ?_ | exact le_any | exact le_refl rfl | exact le_sl rfl rfl | exact le_ptr rfl | exact le_i (by assumption) (by omega))
        · have hge : i = b.act.length := by
            have : ¬ ((i : Int) < b.act.length) := by simpa using h
            omega
          subst hge
          repeat' first
            | refine aw_seq ?_
            | refine aw_region ?_
            | refine aw_lex [] ?_
            | (refine isA ?_; refine do_F rfl ?_)
            | (refine isL ?_; refine lex_F rfl (by kernel_rfl) rfl rfl ?_)
            | (refine isLg rfl ?_; refine lex_S rfl (by kernel_rfl) rfl rfl ?_)
            | refine aops_nil ?_
            | refine lex_done _ rfl (by kernel_rfl) ?_
            | refine aw_ct rfl ?_
            | refine aw_cf rfl ?_
            | refine aw_block ?_
            | refine then_n ?_
            | refine aw_skip ?_
            | refine aw_exit ?_
            | refine then_x ?_
            | refine then_r ?_
            | refine block_x ?_
            | refine block_n ?_
            | refine block_r ?_
            | refine aw_ret ?_
          refine aw_loop (α := { j : Nat // j ≤ 10 }) (fun j => ⟨[.any, .ptr 0 0, .any, .sl 1 0 b.act.length, I (outerG b.act (startG b) j.1).2, .any, I (9 - (j.1 : Int)), .any, .any, .any, .any, .any, .any, .any, .any, .any, .any, .any, .any, .any, .any, .any, .any, .any, .any, .any, .any, .any, .any, .any, .any, .any, .any, .any, .any, .any, .any, .any, .any, .any, .any, .any, .any, .any, .any, .any, .any, .any, .any, .any, .any, .any, .any, .any, .any, .any, .any, .any, .any, .any, .any, .any, .any], [⟨24, 4, brE b, 0⟩, regOf intT 3 (outerG b.act (startG b) j.1).1], 0⟩) (fun j => 10 - j.1) ⟨0, Nat.zero_le _⟩ ?_ ?_
          · exact sub0 [0, 1] rfl rfl (by decide) (.cons rfl rfl rfl rfl (les_refl' rfl) (.cons rfl rfl rfl rfl (les_eq (by rw [Nat.sub_self]; simp [outerG, startG]) (flat_noH _ _)) .nil)) (by
              repeat' first
                | exact les_nil
                | refine les_cons ?_ ?_
                | exact le_any
                | exact le_refl rfl
                | exact le_ptr rfl
                | exact le_sl rfl (by simp))
          · rintro ⟨j, hj⟩
            repeat' first
              | refine aw_seq ?_
              | refine aw_region ?_
              | refine aw_lex [] ?_
              | (refine isA ?_; refine do_F rfl ?_)
              | (refine isL ?_; refine lex_F rfl (by kernel_rfl) rfl rfl ?_)
              | (refine isLg rfl ?_; refine lex_S rfl (by kernel_rfl) rfl rfl ?_)
              | refine aops_nil ?_
              | refine lex_done _ rfl (by kernel_rfl) ?_
              | refine aw_ct rfl ?_
              | refine aw_cf rfl ?_
              | refine aw_block ?_
              | refine then_n ?_
              | refine aw_skip ?_
              | refine aw_exit ?_
              | refine then_x ?_
              | refine then_r ?_
              | refine block_x ?_
              | refine block_n ?_
              | refine block_r ?_
              | refine aw_ret ?_
            refine aw_cond rfl (fun h => ?_) (fun h => ?_)
            · have hlj : j < 10 := by have := of_decide_eq_true h; simp only at this; omega
              repeat' first
                | refine aw_seq ?_
                | refine aw_region ?_
                | refine aw_lex [] ?_
                | (refine isA ?_; refine do_F rfl ?_)
                | (refine isL ?_; refine lex_F rfl (by kernel_rfl) rfl rfl ?_)
                | (refine isLg rfl ?_; refine lex_S rfl (by kernel_rfl) rfl rfl ?_)
                | refine aops_nil ?_
                | refine lex_done _ rfl (by kernel_rfl) ?_
                | refine aw_ct rfl ?_
                | refine aw_cf rfl ?_
                | refine aw_block ?_
                | refine then_n ?_
                | refine aw_skip ?_
                | refine aw_exit ?_
                | refine then_x ?_
                | refine then_r ?_
                | refine block_x ?_
                | refine block_n ?_
                | refine block_r ?_
                | refine aw_ret ?_
              refine aw_loop (α := { k : Nat // k ≤ b.act.length }) (fun k => ⟨[.any, .ptr 0 0, .any, .sl 1 0 b.act.length, I (innerG b.act (9 - (j : Int)) (outerG b.act (startG b) j) k.1).2, .any, I (9 - (j : Int)), .any, .any, .any, .any, .any, .any, .any, .any, .any, .any, .any, .any, .any, .any, .any, .any, .any, .any, .any, .any, .any, .any, .any, .any, .any, .any, .any, .any, clL b.act, I b.act.length, I k.1, .any, .any, .any, .any, .any, .any, .any, .any, .any, .any, .any, .any, .any, .any, .any, .any, .any, .any, .any, .any, .any, .any, .any, .any, .any], [⟨24, 4, brE b, 0⟩, regOf intT 3 (innerG b.act (9 - (j : Int)) (outerG b.act (startG b) j) k.1).1], 0⟩) (fun k => b.act.length - k.1) ⟨0, Nat.zero_le _⟩ ?_ ?_
              · exact sub0 [0, 1] rfl rfl (by decide) (.cons rfl rfl rfl rfl (les_refl' rfl) (.cons rfl rfl rfl rfl (les_eq rfl (flat_noH _ _)) .nil)) (by repeat' first | exact les_nil | refine les_cons ?_ ?_ | exact le_any | exact le_refl rfl | exact le_sl rfl rfl | exact le_ptr rfl)
              · rintro ⟨k, hk⟩
                have hgl : (innerG b.act (9 - (j : Int)) (outerG b.act (startG b) j) k).1.length = b.act.length := by rw [innerG_len, outerG_len, startG]; simp
                repeat' first
                  | refine aw_seq ?_
                  | refine aw_region ?_
                  | refine aw_lex [] ?_
                  | (refine isA ?_; refine do_F rfl ?_)
                  | (refine isL ?_; refine lex_F rfl (by kernel_rfl) rfl rfl ?_)
                  | (refine isLg rfl ?_; refine lex_S rfl (by kernel_rfl) rfl rfl ?_)
                  | refine aops_nil ?_
                  | refine lex_done _ rfl (by kernel_rfl) ?_
                  | refine aw_ct rfl ?_
                  | refine aw_cf rfl ?_
                  | refine aw_block ?_
                  | refine then_n ?_
                  | refine aw_skip ?_
                  | refine aw_exit ?_
                  | refine then_x ?_
                  | refine then_r ?_
                  | refine block_x ?_
                  | refine block_n ?_
                  | refine block_r ?_
                  | refine aw_ret ?_
                refine aw_cond rfl (fun h => ?_) (fun h => ?_)
                · have hlk : k < b.act.length := by simpa using h
                  obtain ⟨z, hz⟩ : ∃ z, b.act[k]? = some z := ⟨_, List.getElem?_eq_getElem hlk⟩
                  obtain ⟨g, hg⟩ : ∃ g, (innerG b.act (9 - (j : Int)) (outerG b.act (startG b) j) k).1[k]? = some g := ⟨_, List.getElem?_eq_getElem (by rw [hgl]; exact hlk)⟩
                  have hg1 : (innerG b.act (9 - (j : Int)) (outerG b.act (startG b) j) k).1[(0 + k) * 1]? = some g := by rw [Nat.zero_add, Nat.mul_one]; exact hg
                  repeat' first
                    | refine aw_seq ?_
                    | refine aw_region ?_
                    | refine aw_lex [] ?_
                    | (refine isA ?_; refine do_F rfl ?_)
                    | (refine isL ?_; refine lex_F rfl (by kernel_rfl) rfl rfl ?_)
                    | (refine isLg rfl ?_; refine lex_S rfl (by kernel_rfl) rfl rfl ?_)
                    | (refine isAi (x := .tmp 35) ?_; refine do_R rfl (ia_l (z := z) rfl rfl rfl rfl (Int.natCast_nonneg k) hz) rfl ?_)
                    | (refine isLi (x := .tmp 35) rfl ?_; refine lex_R rfl (by kernel_rfl) rfl (ia_l (z := z) rfl rfl rfl rfl (Int.natCast_nonneg k) hz) rfl ?_)
                    | refine aops_nil ?_
                    | refine lex_done _ rfl (by kernel_rfl) ?_
                    | refine aw_ct rfl ?_
                    | refine aw_cf rfl ?_
                    | refine aw_block ?_
                    | refine then_n ?_
                    | refine aw_skip ?_
                    | refine aw_exit ?_
                    | refine then_x ?_
                    | refine then_r ?_
                    | refine block_x ?_
                    | refine block_n ?_
                    | refine block_r ?_
                    | refine aw_ret ?_
                  refine aw_cond rfl (fun he => ?_) (fun he => ?_)
                  · have he := of_decide_eq_true he
                    repeat' first
                      | refine aw_seq ?_
                      | refine aw_region ?_
                      | refine aw_lex [] ?_
                      | (refine isA ?_; refine do_F rfl ?_)
                      | (refine isL ?_; refine lex_F rfl (by kernel_rfl) rfl rfl ?_)
                      | (refine isLg rfl ?_; refine lex_S rfl (by kernel_rfl) rfl rfl ?_)
                      | (refine isAi (x := .tmp 49) ?_; refine do_R rfl (ia_l (z := z) rfl rfl rfl rfl (Int.natCast_nonneg k) hz) rfl ?_)
                      | (refine isLi (x := .tmp 49) rfl ?_; refine lex_R rfl (by kernel_rfl) rfl (ia_l (z := z) rfl rfl rfl rfl (Int.natCast_nonneg k) hz) rfl ?_)
                      | (refine isAi (x := .tmp 51) ?_; refine do_R rfl (step_ia_sl (j := k) rfl rfl rfl (Nat.zero_le _) rfl rfl (Int.natCast_nonneg k) (by omega)) rfl ?_)
                      | (refine isLi (x := .tmp 51) rfl ?_; refine lex_R rfl (by kernel_rfl) rfl (step_ia_sl (j := k) rfl rfl rfl (Nat.zero_le _) rfl rfl (Int.natCast_nonneg k) (by omega)) rfl ?_)
                      | (refine isAi (x := .tmp 51) ?_; refine do_R rfl (step_ia_sl (j := k) rfl rfl rfl (Nat.zero_le _) rfl rfl (Int.natCast_nonneg k) (by omega)) rfl ?_)
                      | (refine isLi (x := .tmp 51) rfl ?_; refine lex_R rfl (by kernel_rfl) rfl (step_ia_sl (j := k) rfl rfl rfl (Nat.zero_le _) rfl rfl (Int.natCast_nonneg k) (by omega)) rfl ?_)
                      | (refine isAl (x := .tmp 53) ?_; refine do_R rfl (step_load1 (T := intT) (z := g) rfl rfl rfl rfl hg1 rfl) rfl ?_)
                      | (refine isLl (x := .tmp 53) rfl ?_; refine lex_R rfl (by kernel_rfl) rfl (step_load1 (T := intT) (z := g) rfl rfl rfl rfl hg1 rfl) rfl ?_)
                      | (refine isAs ?_; refine do_R rfl (set_l1 (T := intT) (z := IntKind.i64.wrap (g + moreG z (innerG b.act (9 - (j : Int)) (outerG b.act (startG b) j) k).2)) rfl rfl rfl rfl rfl rfl (Nat.lt_of_lt_of_eq (show (0 + k) * 1 < b.act.length by omega) hgl.symm)) rfl ?_)
                      | (refine isLs rfl ?_; refine lex_R rfl (by kernel_rfl) rfl (set_l1 (T := intT) (z := IntKind.i64.wrap (g + moreG z (innerG b.act (9 - (j : Int)) (outerG b.act (startG b) j) k).2)) rfl rfl rfl rfl rfl rfl (Nat.lt_of_lt_of_eq (show (0 + k) * 1 < b.act.length by omega) hgl.symm)) rfl ?_)
                      | refine aops_nil ?_
                      | refine lex_done _ rfl (by kernel_rfl) ?_
                      | refine aw_ct rfl ?_
                      | refine aw_cf rfl ?_
                      | refine aw_block ?_
                      | refine then_n ?_
                      | refine aw_skip ?_
                      | refine aw_exit ?_
                      | refine then_x ?_
                      | refine then_r ?_
                      | refine block_x ?_
                      | refine block_n ?_
                      | refine block_r ?_
                      | refine aw_ret ?_
                    refine ⟨⟨k + 1, hlk⟩, by simp only; omega, ?_⟩
                    have e := innerG_at (p := 9 - (j : Int)) (s := outerG b.act (startG b) j) hz
                    rw [stepG, if_pos he, hg] at e
                    exact sub0 [0, 1] rfl rfl (by decide) (.cons rfl rfl rfl rfl (les_refl' rfl) (.cons rfl rfl rfl rfl (les_eq (by rw [e, Nat.zero_add]; show (regOf intT 3 (List.set _ (k * 1) _)).cells = _; rw [Nat.mul_one]; rfl) (flat_noH _ _)) .nil)) (by
                      repeat' first
                        | exact les_nil
                        | refine les_cons ?_ ?_
                        | exact le_any
                        | exact le_refl rfl
                        | exact le_ptr rfl
                        | exact le_sl rfl rfl
                        | exact le_i hlk (by omega)
                        | (refine le_k ?_; rw [e]; rfl))
                  · have he := of_decide_eq_false he
                    repeat' first
                      | refine aw_seq ?_
                      | refine aw_region ?_
                      | refine aw_lex [] ?_
                      | (refine isA ?_; refine do_F rfl ?_)
                      | (refine isL ?_; refine lex_F rfl (by kernel_rfl) rfl rfl ?_)
                      | (refine isLg rfl ?_; refine lex_S rfl (by kernel_rfl) rfl rfl ?_)
                      | refine aops_nil ?_
                      | refine lex_done _ rfl (by kernel_rfl) ?_
                      | refine aw_ct rfl ?_
                      | refine aw_cf rfl ?_
                      | refine aw_block ?_
                      | refine then_n ?_
                      | refine aw_skip ?_
                      | refine aw_exit ?_
                      | refine then_x ?_
                      | refine then_r ?_
                      | refine block_x ?_
                      | refine block_n ?_
                      | refine block_r ?_
                      | refine aw_ret ?_
                    refine ⟨⟨k + 1, hlk⟩, by simp only; omega, ?_⟩
                    have e := innerG_at (p := 9 - (j : Int)) (s := outerG b.act (startG b) j) hz
                    rw [stepG_no he] at e
                    exact sub0 [0, 1] rfl rfl (by decide) (.cons rfl rfl rfl rfl (les_refl' rfl) (.cons rfl rfl rfl rfl (les_eq (by rw [e]) (flat_noH _ _)) .nil)) (by
                      repeat' first
                        | exact les_nil
                        | refine les_cons ?_ ?_
                        | exact le_any
                        | exact le_refl rfl
                        | exact le_ptr rfl
                        | exact le_sl rfl rfl
                        | exact le_i hlk (by omega)
                        | (refine le_k ?_; rw [e]))
                · have hge : k = b.act.length := by
                    have : ¬ ((k : Int) < b.act.length) := by simpa using h
                    omega
                  subst hge
                  repeat' first
                    | refine aw_seq ?_
                    | refine aw_region ?_
                    | refine aw_lex [] ?_
                    | (refine isA ?_; refine do_F rfl ?_)
                    | (refine isL ?_; refine lex_F rfl (by kernel_rfl) rfl rfl ?_)
                    | (refine isLg rfl ?_; refine lex_S rfl (by kernel_rfl) rfl rfl ?_)
                    | refine aops_nil ?_
                    | refine lex_done _ rfl (by kernel_rfl) ?_
                    | refine aw_ct rfl ?_
                    | refine aw_cf rfl ?_
                    | refine aw_block ?_
                    | refine then_n ?_
                    | refine aw_skip ?_
                    | refine aw_exit ?_
                    | refine then_x ?_
                    | refine then_r ?_
                    | refine block_x ?_
                    | refine block_n ?_
                    | refine block_r ?_
                    | refine aw_ret ?_
                  refine ⟨⟨j + 1, hlj⟩, by simp only; omega, ?_⟩
                  exact sub0 [0, 1] rfl rfl (by decide) (.cons rfl rfl rfl rfl (les_refl' rfl) (.cons rfl rfl rfl rfl (les_eq rfl (flat_noH _ _)) .nil)) (by
                    repeat' first
                      | exact les_nil
                      | refine les_cons ?_ ?_
                      | exact le_any
                      | exact le_refl rfl
                      | exact le_ptr rfl
                      | exact le_sl rfl rfl
                      | exact le_p hlj)
            · have hge : j = 10 := by have := of_decide_eq_false h; simp only at this; omega
              subst hge
              repeat' first
                | refine aw_seq ?_
                | refine aw_region ?_
                | refine aw_lex [] ?_
                | (refine isA ?_; refine do_F rfl ?_)
                | (refine isL ?_; refine lex_F rfl (by kernel_rfl) rfl rfl ?_)
                | (refine isLg rfl ?_; refine lex_S rfl (by kernel_rfl) rfl rfl ?_)
                | exact (by rw [cg, hv]; exact finL (ty := intT) rfl rfl rfl rfl (cgV_len b).symm rfl (flat_int _))
                | refine aops_nil ?_
                | refine lex_done _ rfl (by kernel_rfl) ?_
                | refine aw_ct rfl ?_
                | refine aw_cf rfl ?_
                | refine aw_block ?_
                | refine then_n ?_
                | refine aw_skip ?_
                | refine aw_exit ?_
                | refine then_x ?_
                | refine then_r ?_
                | refine block_x ?_
                | refine block_n ?_
                | refine block_r ?_
                | refine aw_ret ?_

/-! ### Marks -/
def kk (k : Int) : Nat → Int
  | 0 => k
  | n + 1 => IntKind.i64.wrap (kk k n + 1)
theorem kk_val {k : Int} (h0 : 0 ≤ k) (h1 : k ≤ 1000000000000) : ∀ {n : Nat}, n ≤ 1000000000000 → kk k n = k + n
  | 0, _ => by simp [kk]
  | n + 1, hn => by rw [kk, kk_val h0 h1 (by omega), IntKind.wrap_i64]; omega

def mkI (k : Int) (xs : List Int) (i : Nat) : List Int := (List.range i).map (kk k) ++ xs.drop i
theorem mkI_len (k : Int) {xs : List Int} {i : Nat} (h : i ≤ xs.length) : (mkI k xs i).length = xs.length := by simp [mkI]; omega
theorem mk_step {α : Type} {g : Nat → α} {xs : List α} {i : Nat} (h : i < xs.length) : ((List.range i).map g ++ xs.drop i).set i (g i) = (List.range (i + 1)).map g ++ xs.drop (i + 1) := by
  rw [List.set_append_right _ _ (by simp), List.length_map, List.length_range, Nat.sub_self, List.drop_eq_getElem_cons h, List.set_cons_zero, List.range_succ, List.map_append, List.append_assoc]
  rfl

theorem c_markIntS (xs : List Int) (k : Int) (hl : xs.length ≤ 1000000000) : Meets Go.Proofs.Try.prog 33 [.sl 0 0 xs.length, I k] [regOf intT 3 xs] (I (kk k xs.length)) [regOf intT 3 (mkI k xs xs.length)] true := by
  refine meets_of [4] Go.Proofs.Try.func33 rfl rfl ?_
  simp only [Go.Proofs.Try.ntmps33, List.length_cons, List.length_nil, Nat.reduceAdd, Nat.reduceSub, List.replicate_succ, List.replicate_zero, List.cons_append, List.nil_append]
  repeat' first
    | refine aw_seq ?_
    | refine aw_region ?_
    | refine aw_lex [] ?_
    | (refine isA ?_; refine do_F rfl ?_)
    | (refine isL ?_; refine lex_F rfl (by kernel_rfl) rfl rfl ?_)
    | (refine isLg rfl ?_; refine lex_S rfl (by kernel_rfl) rfl rfl ?_)
    | refine aops_nil ?_
    | refine lex_done _ rfl (by kernel_rfl) ?_
    | refine aw_ct rfl ?_
    | refine aw_cf rfl ?_
    | refine aw_block ?_
    | refine then_n ?_
    | refine aw_skip ?_
    | refine aw_exit ?_
    | refine then_x ?_
    | refine then_r ?_
    | refine block_x ?_
    | refine block_n ?_
    | refine block_r ?_
    | refine aw_ret ?_
  refine aw_loop (α := { i : Nat // i ≤ xs.length }) (fun i => ⟨[.sl 0 0 xs.length, I (kk k i.1), .any, .any, .any, I i.1, .any, .any, .any, .any, .any, .any, .any, .any, .any, .any, .any, .any, .any], [regOf intT 3 (mkI k xs i.1)], 1⟩) (fun i => xs.length - i.1) ⟨0, Nat.zero_le _⟩ ?_ ?_
  · exact subm 1 [0] rfl rfl fix1 (by decide) (.cons rfl rfl rfl rfl (les_refl (flat_noH _ _)) .nil) (by repeat' first | exact les_nil | refine les_cons ?_ ?_ | exact le_any | exact le_refl rfl | exact le_sl rfl rfl | exact le_ptr rfl)
  · rintro ⟨i, hi⟩
    have hgl := mkI_len k hi
    repeat' first
      | refine aw_seq ?_
      | refine aw_region ?_
      | refine aw_lex [] ?_
      | (refine isA ?_; refine do_F rfl ?_)
      | (refine isL ?_; refine lex_F rfl (by kernel_rfl) rfl rfl ?_)
      | (refine isLg rfl ?_; refine lex_S rfl (by kernel_rfl) rfl rfl ?_)
      | refine aops_nil ?_
      | refine lex_done _ rfl (by kernel_rfl) ?_
      | refine aw_ct rfl ?_
      | refine aw_cf rfl ?_
      | refine aw_block ?_
      | refine then_n ?_
      | refine aw_skip ?_
      | refine aw_exit ?_
      | refine then_x ?_
      | refine then_r ?_
      | refine block_x ?_
      | refine block_n ?_
      | refine block_r ?_
      | refine aw_ret ?_
    refine aw_cond rfl (fun h => ?_) (fun h => ?_)
    · have hlt : i < xs.length := by simpa using h
      repeat' first
        | refine aw_seq ?_
        | refine aw_region ?_
        | refine aw_lex [] ?_
        | (refine isA ?_; refine do_F rfl ?_)
        | (refine isL ?_; refine lex_F rfl (by kernel_rfl) rfl rfl ?_)
        | (refine isLg rfl ?_; refine lex_S rfl (by kernel_rfl) rfl rfl ?_)
        | (refine isAi ?_; refine do_R rfl (step_ia_sl (j := i) rfl rfl rfl (Nat.zero_le _) rfl rfl (Int.natCast_nonneg i) (by omega)) rfl ?_)
        | (refine isLi rfl ?_; refine lex_R rfl (by kernel_rfl) rfl (step_ia_sl (j := i) rfl rfl rfl (Nat.zero_le _) rfl rfl (Int.natCast_nonneg i) (by omega)) rfl ?_)
        | (refine isAs ?_; refine do_R rfl (set_l1 (T := intT) (xs := mkI k xs i) (z := kk k i) rfl rfl rfl rfl rfl rfl (Nat.lt_of_lt_of_eq (show (0 + i) * 1 < xs.length by omega) hgl.symm)) rfl ?_)
        | (refine isLs rfl ?_; refine lex_R rfl (by kernel_rfl) rfl (set_l1 (T := intT) (xs := mkI k xs i) (z := kk k i) rfl rfl rfl rfl rfl rfl (Nat.lt_of_lt_of_eq (show (0 + i) * 1 < xs.length by omega) hgl.symm)) rfl ?_)
        | refine aops_nil ?_
        | refine lex_done _ rfl (by kernel_rfl) ?_
        | refine aw_ct rfl ?_
        | refine aw_cf rfl ?_
        | refine aw_block ?_
        | refine then_n ?_
        | refine aw_skip ?_
        | refine aw_exit ?_
        | refine then_x ?_
        | refine then_r ?_
        | refine block_x ?_
        | refine block_n ?_
        | refine block_r ?_
        | refine aw_ret ?_
      refine ⟨⟨i + 1, hlt⟩, by simp only; omega, ?_⟩
      exact subm 1 [0] rfl rfl fix1 (by decide) (.cons rfl rfl rfl rfl (les_eq (by rw [Nat.zero_add]; show (regOf intT 3 (List.set _ (i * 1) _)).cells = _; rw [Nat.mul_one]; exact congrArg intT.flat (mk_step (g := kk k) hlt)) (flat_noH _ _)) .nil) (by repeat' first | exact les_nil | refine les_cons ?_ ?_ | exact le_any | exact le_refl rfl | exact le_sl rfl rfl | exact le_ptr rfl | exact le_i (by assumption) (by omega))
    · have hge : i = xs.length := by
        have : ¬ ((i : Int) < xs.length) := by simpa using h
        omega
      subst hge
      repeat' first
        | refine aw_seq ?_
        | refine aw_region ?_
        | refine aw_lex [] ?_
        | (refine isA ?_; refine do_F rfl ?_)
        | (refine isL ?_; refine lex_F rfl (by kernel_rfl) rfl rfl ?_)
        | (refine isLg rfl ?_; refine lex_S rfl (by kernel_rfl) rfl rfl ?_)
        | exact finM 1 [0] fix1 (by decide) rfl (le_refl rfl) (.cons rfl rfl rfl rfl (les_refl (flat_noH _ _)) .nil)
        | refine aops_nil ?_
        | refine lex_done _ rfl (by kernel_rfl) ?_
        | refine aw_ct rfl ?_
        | refine aw_cf rfl ?_
        | refine aw_block ?_
        | refine then_n ?_
        | refine aw_skip ?_
        | refine aw_exit ?_
        | refine then_x ?_
        | refine then_r ?_
        | refine block_x ?_
        | refine block_n ?_
        | refine block_r ?_
        | refine aw_ret ?_

theorem c_heldIntS (xs : List Int) (k : Int) (hl : xs.length ≤ 1000000000) (hk : ∀ i x, xs[i]? = some x → x = kk k i) : Meets Go.Proofs.Try.prog 34 [lstOf intT xs, I k] [] (I (kk k xs.length)) [] false := by
  refine meets_of [4] Go.Proofs.Try.func34 rfl rfl ?_
  simp only [Go.Proofs.Try.ntmps34, List.length_cons, List.length_nil, Nat.reduceAdd, Nat.reduceSub, List.replicate_succ, List.replicate_zero, List.cons_append, List.nil_append]
  repeat' first
    | refine aw_seq ?_
    | refine aw_region ?_
    | refine aw_lex [] ?_
    | (refine isA ?_; refine do_F rfl ?_)
    | (refine isL ?_; refine lex_F rfl (by kernel_rfl) rfl rfl ?_)
    | (refine isLg rfl ?_; refine lex_S rfl (by kernel_rfl) rfl rfl ?_)
    | refine aops_nil ?_
    | refine lex_done _ rfl (by kernel_rfl) ?_
    | refine aw_ct rfl ?_
    | refine aw_cf rfl ?_
    | refine aw_block ?_
    | refine then_n ?_
    | refine aw_skip ?_
    | refine aw_exit ?_
    | refine then_x ?_
    | refine then_r ?_
    | refine block_x ?_
    | refine block_n ?_
    | refine block_r ?_
    | refine aw_ret ?_
  refine aw_loop (α := { i : Nat // i ≤ xs.length }) (fun i => ⟨[lstOf intT xs, I (kk k i.1), .any, .any, .any, I i.1, .any, .any, .any, .any, .any, .any, .any, .any, .any, .any, .any, .any, .any, .any, .any], [], 0⟩) (fun i => xs.length - i.1) ⟨0, Nat.zero_le _⟩ ?_ ?_
  · exact sub0 [] rfl rfl (by decide) .nil (by repeat' first | exact les_nil | refine les_cons ?_ ?_ | exact le_any | exact le_refl rfl | exact le_sl rfl rfl | exact le_ptr rfl)
  · rintro ⟨i, hi⟩
    repeat' first
      | refine aw_seq ?_
      | refine aw_region ?_
      | refine aw_lex [] ?_
      | (refine isA ?_; refine do_F rfl ?_)
      | (refine isL ?_; refine lex_F rfl (by kernel_rfl) rfl rfl ?_)
      | (refine isLg rfl ?_; refine lex_S rfl (by kernel_rfl) rfl rfl ?_)
      | refine aops_nil ?_
      | refine lex_done _ rfl (by kernel_rfl) ?_
      | refine aw_ct rfl ?_
      | refine aw_cf rfl ?_
      | refine aw_block ?_
      | refine then_n ?_
      | refine aw_skip ?_
      | refine aw_exit ?_
      | refine then_x ?_
      | refine then_r ?_
      | refine block_x ?_
      | refine block_n ?_
      | refine block_r ?_
      | refine aw_ret ?_
    refine aw_cond rfl (fun h => ?_) (fun h => ?_)
    · have hlt : i < xs.length := by simpa using h
      obtain ⟨z, hz⟩ : ∃ z, xs[i]? = some z := ⟨_, List.getElem?_eq_getElem hlt⟩
      have hzk := hk i z hz
      repeat' first
        | refine aw_seq ?_
        | refine aw_region ?_
        | refine aw_lex [] ?_
        | (refine isA ?_; refine do_F rfl ?_)
        | (refine isL ?_; refine lex_F rfl (by kernel_rfl) rfl rfl ?_)
        | (refine isLg rfl ?_; refine lex_S rfl (by kernel_rfl) rfl rfl ?_)
        | (refine isAi ?_; refine do_R rfl (ia_l (t := intT) (z := z) rfl rfl rfl rfl (Int.natCast_nonneg i) hz) rfl ?_)
        | (refine isLi rfl ?_; refine lex_R rfl (by kernel_rfl) rfl (ia_l (t := intT) (z := z) rfl rfl rfl rfl (Int.natCast_nonneg i) hz) rfl ?_)
        | refine aops_nil ?_
        | refine lex_done _ rfl (by kernel_rfl) ?_
        | refine aw_ct rfl ?_
        | refine aw_cf rfl ?_
        | refine aw_block ?_
        | refine then_n ?_
        | refine aw_skip ?_
        | refine aw_exit ?_
        | refine then_x ?_
        | refine then_r ?_
        | refine block_x ?_
        | refine block_n ?_
        | refine block_r ?_
        | refine aw_ret ?_
      refine aw_cond rfl (fun h => by simp [hzk] at h) (fun _ => ?_)
      repeat' first
        | refine aw_seq ?_
        | refine aw_region ?_
        | refine aw_lex [] ?_
        | (refine isA ?_; refine do_F rfl ?_)
        | (refine isL ?_; refine lex_F rfl (by kernel_rfl) rfl rfl ?_)
        | (refine isLg rfl ?_; refine lex_S rfl (by kernel_rfl) rfl rfl ?_)
        | refine aops_nil ?_
        | refine lex_done _ rfl (by kernel_rfl) ?_
        | refine aw_ct rfl ?_
        | refine aw_cf rfl ?_
        | refine aw_block ?_
        | refine then_n ?_
        | refine aw_skip ?_
        | refine aw_exit ?_
        | refine then_x ?_
        | refine then_r ?_
        | refine block_x ?_
        | refine block_n ?_
        | refine block_r ?_
        | refine aw_ret ?_
      refine ⟨⟨i + 1, hlt⟩, by simp only; omega, ?_⟩
      exact sub0 [] rfl rfl (by decide) .nil (by repeat' first | exact les_nil | refine les_cons ?_ ?_ | exact le_any | exact le_refl rfl | exact le_sl rfl rfl | exact le_ptr rfl | exact le_i (by assumption) (by omega))
    · have hge : i = xs.length := by
        have : ¬ ((i : Int) < xs.length) := by simpa using h
        omega
      subst hge
      repeat' first
        | refine aw_seq ?_
        | refine aw_region ?_
        | refine aw_lex [] ?_
        | (refine isA ?_; refine do_F rfl ?_)
        | (refine isL ?_; refine lex_F rfl (by kernel_rfl) rfl rfl ?_)
        | (refine isLg rfl ?_; refine lex_S rfl (by kernel_rfl) rfl rfl ?_)
        | exact fin1 rfl rfl rfl
        | refine aops_nil ?_
        | refine lex_done _ rfl (by kernel_rfl) ?_
        | refine aw_ct rfl ?_
        | refine aw_cf rfl ?_
        | refine aw_block ?_
        | refine then_n ?_
        | refine aw_skip ?_
        | refine aw_exit ?_
        | refine then_x ?_
        | refine then_r ?_
        | refine block_x ?_
        | refine block_n ?_
        | refine block_r ?_
        | refine aw_ret ?_

theorem c_eqIntS (xs : List Int) (hl : xs.length ≤ 1000000000) : Meets Go.Proofs.Try.prog 32 [lstOf intT xs, lstOf intT xs] [] (B true) [] false := by
  refine meets_of [4] Go.Proofs.Try.func32 rfl rfl ?_
  simp only [Go.Proofs.Try.ntmps32, List.length_cons, List.length_nil, Nat.reduceAdd, Nat.reduceSub, List.replicate_succ, List.replicate_zero, List.cons_append, List.nil_append]
  repeat' first
    | refine aw_seq ?_
    | refine aw_region ?_
    | refine aw_lex [] ?_
    | (refine isA ?_; refine do_F rfl ?_)
    | (refine isL ?_; refine lex_F rfl (by kernel_rfl) rfl rfl ?_)
    | (refine isLg rfl ?_; refine lex_S rfl (by kernel_rfl) rfl rfl ?_)
    | refine aops_nil ?_
    | refine lex_done _ rfl (by kernel_rfl) ?_
    | refine aw_ct rfl ?_
    | refine aw_cf rfl ?_
    | refine aw_block ?_
    | refine then_n ?_
    | refine aw_skip ?_
    | refine aw_exit ?_
    | refine then_x ?_
    | refine then_r ?_
    | refine block_x ?_
    | refine block_n ?_
    | refine block_r ?_
    | refine aw_ret ?_
  refine aw_cond rfl (fun h => by simp at h) (fun _ => ?_)
  repeat' first
    | refine aw_seq ?_
    | refine aw_region ?_
    | refine aw_lex [] ?_
    | (refine isA ?_; refine do_F rfl ?_)
    | (refine isL ?_; refine lex_F rfl (by kernel_rfl) rfl rfl ?_)
    | (refine isLg rfl ?_; refine lex_S rfl (by kernel_rfl) rfl rfl ?_)
    | refine aops_nil ?_
    | refine lex_done _ rfl (by kernel_rfl) ?_
    | refine aw_ct rfl ?_
    | refine aw_cf rfl ?_
    | refine aw_block ?_
    | refine then_n ?_
    | refine aw_skip ?_
    | refine aw_exit ?_
    | refine then_x ?_
    | refine then_r ?_
    | refine block_x ?_
    | refine block_n ?_
    | refine block_r ?_
    | refine aw_ret ?_
  refine aw_loop (α := { i : Nat // i ≤ xs.length }) (fun i => ⟨[lstOf intT xs, lstOf intT xs, .any, .any, .any, I i.1, .any, .any, .any, .any, .any, .any, .any, .any, .any, .any, .any, .any, .any, .any, .any, .any, .any, .any, .any, .any], [], 0⟩) (fun i => xs.length - i.1) ⟨0, Nat.zero_le _⟩ ?_ ?_
  · exact sub0 [] rfl rfl (by decide) .nil (by repeat' first | exact les_nil | refine les_cons ?_ ?_ | exact le_any | exact le_refl rfl | exact le_sl rfl rfl | exact le_ptr rfl)
  · rintro ⟨i, hi⟩
    repeat' first
      | refine aw_seq ?_
      | refine aw_region ?_
      | refine aw_lex [] ?_
      | (refine isA ?_; refine do_F rfl ?_)
      | (refine isL ?_; refine lex_F rfl (by kernel_rfl) rfl rfl ?_)
      | (refine isLg rfl ?_; refine lex_S rfl (by kernel_rfl) rfl rfl ?_)
      | refine aops_nil ?_
      | refine lex_done _ rfl (by kernel_rfl) ?_
      | refine aw_ct rfl ?_
      | refine aw_cf rfl ?_
      | refine aw_block ?_
      | refine then_n ?_
      | refine aw_skip ?_
      | refine aw_exit ?_
      | refine then_x ?_
      | refine then_r ?_
      | refine block_x ?_
      | refine block_n ?_
      | refine block_r ?_
      | refine aw_ret ?_
    refine aw_cond rfl (fun h => ?_) (fun h => ?_)
    · have hlt : i < xs.length := by simpa using h
      obtain ⟨z, hz⟩ : ∃ z, xs[i]? = some z := ⟨_, List.getElem?_eq_getElem hlt⟩
      repeat' first
        | refine aw_seq ?_
        | refine aw_region ?_
        | refine aw_lex [] ?_
        | (refine isA ?_; refine do_F rfl ?_)
        | (refine isL ?_; refine lex_F rfl (by kernel_rfl) rfl rfl ?_)
        | (refine isLg rfl ?_; refine lex_S rfl (by kernel_rfl) rfl rfl ?_)
        | (refine isAi ?_; refine do_R rfl (ia_l (t := intT) (z := z) rfl rfl rfl rfl (Int.natCast_nonneg i) hz) rfl ?_)
        | (refine isLi rfl ?_; refine lex_R rfl (by kernel_rfl) rfl (ia_l (t := intT) (z := z) rfl rfl rfl rfl (Int.natCast_nonneg i) hz) rfl ?_)
        | refine aops_nil ?_
        | refine lex_done _ rfl (by kernel_rfl) ?_
        | refine aw_ct rfl ?_
        | refine aw_cf rfl ?_
        | refine aw_block ?_
        | refine then_n ?_
        | refine aw_skip ?_
        | refine aw_exit ?_
        | refine then_x ?_
        | refine then_r ?_
        | refine block_x ?_
        | refine block_n ?_
        | refine block_r ?_
        | refine aw_ret ?_
      refine aw_cond rfl (fun h => by simp at h) (fun _ => ?_)
      repeat' first
        | refine aw_seq ?_
        | refine aw_region ?_
        | refine aw_lex [] ?_
        | (refine isA ?_; refine do_F rfl ?_)
        | (refine isL ?_; refine lex_F rfl (by kernel_rfl) rfl rfl ?_)
        | (refine isLg rfl ?_; refine lex_S rfl (by kernel_rfl) rfl rfl ?_)
        | refine aops_nil ?_
        | refine lex_done _ rfl (by kernel_rfl) ?_
        | refine aw_ct rfl ?_
        | refine aw_cf rfl ?_
        | refine aw_block ?_
        | refine then_n ?_
        | refine aw_skip ?_
        | refine aw_exit ?_
        | refine then_x ?_
        | refine then_r ?_
        | refine block_x ?_
        | refine block_n ?_
        | refine block_r ?_
        | refine aw_ret ?_
      refine ⟨⟨i + 1, hlt⟩, by simp only; omega, ?_⟩
      exact sub0 [] rfl rfl (by decide) .nil (by repeat' first | exact les_nil | refine les_cons ?_ ?_ | exact le_any | exact le_refl rfl | exact le_sl rfl rfl | exact le_ptr rfl | exact le_i (by assumption) (by omega))
    · repeat' first
        | refine aw_seq ?_
        | refine aw_region ?_
        | refine aw_lex [] ?_
        | (refine isA ?_; refine do_F rfl ?_)
        | (refine isL ?_; refine lex_F rfl (by kernel_rfl) rfl rfl ?_)
        | (refine isLg rfl ?_; refine lex_S rfl (by kernel_rfl) rfl rfl ?_)
        | exact fin1 rfl rfl rfl
        | refine aops_nil ?_
        | refine lex_done _ rfl (by kernel_rfl) ?_
        | refine aw_ct rfl ?_
        | refine aw_cf rfl ?_
        | refine aw_block ?_
        | refine then_n ?_
        | refine aw_skip ?_
        | refine aw_exit ?_
        | refine then_x ?_
        | refine then_r ?_
        | refine block_x ?_
        | refine block_n ?_
        | refine block_r ?_
        | refine aw_ret ?_
end Go.Proofs.Ytjlhfemfmkdlhaa.Ab
