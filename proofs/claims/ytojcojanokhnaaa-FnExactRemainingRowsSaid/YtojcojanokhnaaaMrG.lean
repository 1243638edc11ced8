/- Texts SqA, SqB, SqC in one. -/
import Derived.Test.YtojcojanokhnaaaMrF
import Derived.Test.YtojcojanokhnaaaMrE
import Derived.Test.YtojcojanokhnaaaMrA
set_option linter.unusedVariables false
set_option linter.unusedSimpArgs false
set_option maxRecDepth 20000
set_option maxHeartbeats 4000000
/- SqA -/
namespace Go.Proofs.Ytojcojanokhnaaa.Ab
open Go.RowKit

theorem c_irc (x : Rw) : Meets Go.Proofs.Try.prog 58 [.agg (rwE x)] [] (I (costV x)) [] false := by
  refine meets_of [2] Go.Proofs.Try.func58 rfl rfl ?_
  simp only [Go.Proofs.Try.ntmps58, List.length_cons, List.length_nil, Nat.reduceAdd, Nat.reduceSub, List.replicate_succ, List.replicate_zero, List.cons_append, List.nil_append]
  repeat' first
    | refine aw_seq ?_
    | refine aw_region ?_
    | refine aw_lex [] ?_
    | (refine isA ?_; refine do_F rfl ?_)
    | (refine isL ?_; refine lex_F rfl (by kernel_rfl) rfl rfl ?_)
    | (refine isLg rfl ?_; refine lex_S rfl (by kernel_rfl) rfl rfl ?_)
    | (refine isAc 116 ?_; refine do_R rfl (st_call rfl (c_ivRow x) (.cons (.same rfl) .nil) rfl) rfl ?_)
    | (refine isLc 116 rfl ?_; refine lex_R rfl (by kernel_rfl) rfl (st_call rfl (c_ivRow x) (.cons (.same rfl) .nil) rfl) rfl ?_)
    | refine aops_nil ?_
    | refine lex_done _ rfl (by kernel_rfl) ?_
    | refine aw_ct rfl ?_
    | refine aw_cf rfl ?_
    | refine aw_block ?_
    | refine then_n ?_
    | refine aw_skip ?_
    | refine aw_exit ?_
    | refine then_x ?_
    | refine then_r ?_
    | refine block_x ?_
    | refine block_n ?_
    | refine block_r ?_
    | refine aw_ret ?_
  refine aw_cond rfl (fun h => ?_) (fun h => ?_)
  · have h : vRw x = false := by simpa using h
    repeat' first
      | refine aw_seq ?_
      | refine aw_region ?_
      | refine aw_lex [] ?_
      | (refine isA ?_; refine do_F rfl ?_)
      | (refine isL ?_; refine lex_F rfl (by kernel_rfl) rfl rfl ?_)
      | (refine isLg rfl ?_; refine lex_S rfl (by kernel_rfl) rfl rfl ?_)
      | exact fin1 rfl rfl (by simp only [costV, h, cond_false])
      | refine aops_nil ?_
      | refine lex_done _ rfl (by kernel_rfl) ?_
      | refine aw_ct rfl ?_
      | refine aw_cf rfl ?_
      | refine aw_block ?_
      | refine then_n ?_
      | refine aw_skip ?_
      | refine aw_exit ?_
      | refine then_x ?_
      | refine then_r ?_
      | refine block_x ?_
      | refine block_n ?_
      | refine block_r ?_
      | refine aw_ret ?_
  · have h : vRw x = true := by simpa using h
    have := (vRw_iff.1 h).2.2
    repeat' first
      | refine aw_seq ?_
      | refine aw_region ?_
      | refine aw_lex [] ?_
      | (refine isA ?_; refine do_F rfl ?_)
      | (refine isL ?_; refine lex_F rfl (by kernel_rfl) rfl rfl ?_)
      | (refine isLg rfl ?_; refine lex_S rfl (by kernel_rfl) rfl rfl ?_)
      | exact fin1 rfl rfl (by simp only [costV, h, cond_true]; refine congrArg I ?_; rw [IntKind.wrap_i64]; omega)
      | refine aops_nil ?_
      | refine lex_done _ rfl (by kernel_rfl) ?_
      | refine aw_ct rfl ?_
      | refine aw_cf rfl ?_
      | refine aw_block ?_
      | refine then_n ?_
      | refine aw_skip ?_
      | refine aw_exit ?_
      | refine then_x ?_
      | refine then_r ?_
      | refine block_x ?_
      | refine block_n ?_
      | refine block_r ?_
      | refine aw_ret ?_
theorem c_src (x : Rw) : Meets Go.Proofs.Try.prog 67 [.agg (rwE x)] [] (I (costV x)) [] false := by
  refine meets_of [2] Go.Proofs.Try.func67 rfl rfl ?_
  simp only [Go.Proofs.Try.ntmps67, List.length_cons, List.length_nil, Nat.reduceAdd, Nat.reduceSub, List.replicate_succ, List.replicate_zero, List.cons_append, List.nil_append]
  repeat' first
    | refine aw_seq ?_
    | refine aw_region ?_
    | refine aw_lex [] ?_
    | (refine isA ?_; refine do_F rfl ?_)
    | (refine isL ?_; refine lex_F rfl (by kernel_rfl) rfl rfl ?_)
    | (refine isLg rfl ?_; refine lex_S rfl (by kernel_rfl) rfl rfl ?_)
    | (refine isAc 99 ?_; refine do_R rfl (st_call rfl (c_svRow x) (.cons (.same rfl) .nil) rfl) rfl ?_)
    | (refine isLc 99 rfl ?_; refine lex_R rfl (by kernel_rfl) rfl (st_call rfl (c_svRow x) (.cons (.same rfl) .nil) rfl) rfl ?_)
    | refine aops_nil ?_
    | refine lex_done _ rfl (by kernel_rfl) ?_
    | refine aw_ct rfl ?_
    | refine aw_cf rfl ?_
    | refine aw_block ?_
    | refine then_n ?_
    | refine aw_skip ?_
    | refine aw_exit ?_
    | refine then_x ?_
    | refine then_r ?_
    | refine block_x ?_
    | refine block_n ?_
    | refine block_r ?_
    | refine aw_ret ?_
  refine aw_cond rfl (fun h => ?_) (fun h => ?_)
  · have h : vRw x = false := by simpa using h
    repeat' first
      | refine aw_seq ?_
      | refine aw_region ?_
      | refine aw_lex [] ?_
      | (refine isA ?_; refine do_F rfl ?_)
      | (refine isL ?_; refine lex_F rfl (by kernel_rfl) rfl rfl ?_)
      | (refine isLg rfl ?_; refine lex_S rfl (by kernel_rfl) rfl rfl ?_)
      | exact fin1 rfl rfl (by simp only [costV, h, cond_false])
      | refine aops_nil ?_
      | refine lex_done _ rfl (by kernel_rfl) ?_
      | refine aw_ct rfl ?_
      | refine aw_cf rfl ?_
      | refine aw_block ?_
      | refine then_n ?_
      | refine aw_skip ?_
      | refine aw_exit ?_
      | refine then_x ?_
      | refine then_r ?_
      | refine block_x ?_
      | refine block_n ?_
      | refine block_r ?_
      | refine aw_ret ?_
  · have h : vRw x = true := by simpa using h
    have := (vRw_iff.1 h).2.2
    repeat' first
      | refine aw_seq ?_
      | refine aw_region ?_
      | refine aw_lex [] ?_
      | (refine isA ?_; refine do_F rfl ?_)
      | (refine isL ?_; refine lex_F rfl (by kernel_rfl) rfl rfl ?_)
      | (refine isLg rfl ?_; refine lex_S rfl (by kernel_rfl) rfl rfl ?_)
      | exact fin1 rfl rfl (by simp only [costV, h, cond_true]; refine congrArg I ?_; rw [IntKind.wrap_i64]; omega)
      | refine aops_nil ?_
      | refine lex_done _ rfl (by kernel_rfl) ?_
      | refine aw_ct rfl ?_
      | refine aw_cf rfl ?_
      | refine aw_block ?_
      | refine then_n ?_
      | refine aw_skip ?_
      | refine aw_exit ?_
      | refine then_x ?_
      | refine then_r ?_
      | refine block_x ?_
      | refine block_n ?_
      | refine block_r ?_
      | refine aw_ret ?_
theorem tot_wrap {xs : List Rw} {i : Nat} {z : Rw} (hz : xs[i]? = some z) (hl : xs.length ≤ 1000000000) : I (totV (xs.take (i + 1))) = I (IntKind.i64.wrap (totV (xs.take i) + costV z)) := by
  have h1 := tot_b (xs.take i)
  have h2 := cost_b z
  have h3 := (List.getElem?_eq_some_iff.1 hz).1
  have h4 : (xs.take i).length ≤ xs.length := by simp; omega
  rw [totV_snoc hz]
  refine congrArg I ?_
  rw [IntKind.wrap_i64]
  omega
theorem c_itot (xs : List Rw) (hl : xs.length ≤ 1000000000) : Meets Go.Proofs.Try.prog 88 [rwL xs] [] (I (totV xs)) [] false := by
  refine meets_of [2] Go.Proofs.Try.func88 rfl rfl ?_
  simp only [Go.Proofs.Try.ntmps88, List.length_cons, List.length_nil, Nat.reduceAdd, Nat.reduceSub, List.replicate_succ, List.replicate_zero, List.cons_append, List.nil_append]
  repeat' first
    | refine aw_seq ?_
    | refine aw_region ?_
    | refine aw_lex [] ?_
    | (refine isA ?_; refine do_F rfl ?_)
    | (refine isL ?_; refine lex_F rfl (by kernel_rfl) rfl rfl ?_)
    | (refine isLg rfl ?_; refine lex_S rfl (by kernel_rfl) rfl rfl ?_)
    | refine aops_nil ?_
    | refine lex_done _ rfl (by kernel_rfl) ?_
    | refine aw_ct rfl ?_
    | refine aw_cf rfl ?_
    | refine aw_block ?_
    | refine then_n ?_
    | refine aw_skip ?_
    | refine aw_exit ?_
    | refine then_x ?_
    | refine then_r ?_
    | refine block_x ?_
    | refine block_n ?_
    | refine block_r ?_
    | refine aw_ret ?_
  refine aw_loop (α := { i : Nat // i ≤ xs.length }) (fun i => ⟨[.any, .any, .any, I (totV (xs.take i.1)), .any, .any, rwL xs, I xs.length, I i.1, .any, .any, .any, .any, .any, .any, .any, .any, .any], [], 0⟩) (fun i => xs.length - i.1) ⟨0, Nat.zero_le _⟩ ?_ ?_
  · exact sub0 [] rfl rfl (by decide) .nil (by repeat' first | exact les_nil | refine les_cons ?_ ?_ | exact le_any | exact le_refl rfl | exact le_sl rfl rfl | exact le_ptr rfl)
  · rintro ⟨i, hi⟩
    repeat' first
      | refine aw_seq ?_
      | refine aw_region ?_
      | refine aw_lex [] ?_
      | (refine isA ?_; refine do_F rfl ?_)
      | (refine isL ?_; refine lex_F rfl (by kernel_rfl) rfl rfl ?_)
      | (refine isLg rfl ?_; refine lex_S rfl (by kernel_rfl) rfl rfl ?_)
      | refine aops_nil ?_
      | refine lex_done _ rfl (by kernel_rfl) ?_
      | refine aw_ct rfl ?_
      | refine aw_cf rfl ?_
      | refine aw_block ?_
      | refine then_n ?_
      | refine aw_skip ?_
      | refine aw_exit ?_
      | refine then_x ?_
      | refine then_r ?_
      | refine block_x ?_
      | refine block_n ?_
      | refine block_r ?_
      | refine aw_ret ?_
    refine aw_cond rfl (fun h => ?_) (fun h => ?_)
    · have hlt : i < xs.length := by simpa using h
      obtain ⟨z, hz⟩ : ∃ z, xs[i]? = some z := ⟨_, List.getElem?_eq_getElem hlt⟩
      repeat' first
        | refine aw_seq ?_
        | refine aw_region ?_
        | refine aw_lex [] ?_
        | (refine isA ?_; refine do_F rfl ?_)
        | (refine isL ?_; refine lex_F rfl (by kernel_rfl) rfl rfl ?_)
        | (refine isLg rfl ?_; refine lex_S rfl (by kernel_rfl) rfl rfl ?_)
        | refine do_R rfl (ia_l (z := z) rfl rfl rfl rfl (Int.natCast_nonneg _) hz) rfl ?_
        | refine lex_R rfl (by kernel_rfl) rfl (ia_l (z := z) rfl rfl rfl rfl (Int.natCast_nonneg _) hz) rfl ?_
        | (refine isAc 58 ?_; refine do_R rfl (st_call rfl (c_irc z) (.cons (.same rfl) .nil) rfl) rfl ?_)
        | (refine isLc 58 rfl ?_; refine lex_R rfl (by kernel_rfl) rfl (st_call rfl (c_irc z) (.cons (.same rfl) .nil) rfl) rfl ?_)
        | refine aops_nil ?_
        | refine lex_done _ rfl (by kernel_rfl) ?_
        | refine aw_ct rfl ?_
        | refine aw_cf rfl ?_
        | refine aw_block ?_
        | refine then_n ?_
        | refine aw_skip ?_
        | refine aw_exit ?_
        | refine then_x ?_
        | refine then_r ?_
        | refine block_x ?_
        | refine block_n ?_
        | refine block_r ?_
        | refine aw_ret ?_
      refine ⟨⟨i + 1, hlt⟩, by simp only; omega, ?_⟩
      exact sub0 [] rfl rfl (by decide) .nil (by
        repeat' first
          | exact les_nil
          | refine les_cons ?_ ?_
          | exact le_any
          | exact le_refl rfl
          | exact le_eq (tot_wrap hz hl).symm rfl
          | exact le_i (by assumption) (by omega))
    · have hge : i = xs.length := by
        have : ¬ ((i : Int) < xs.length) := by simpa using h
        omega
      subst hge
      repeat' first
        | refine aw_seq ?_
        | refine aw_region ?_
        | refine aw_lex [] ?_
        | (refine isA ?_; refine do_F rfl ?_)
        | (refine isL ?_; refine lex_F rfl (by kernel_rfl) rfl rfl ?_)
        | (refine isLg rfl ?_; refine lex_S rfl (by kernel_rfl) rfl rfl ?_)
        | exact fin1 rfl rfl (by simp only [List.take_length])
        | refine aops_nil ?_
        | refine lex_done _ rfl (by kernel_rfl) ?_
        | refine aw_ct rfl ?_
        | refine aw_cf rfl ?_
        | refine aw_block ?_
        | refine then_n ?_
        | refine aw_skip ?_
        | refine aw_exit ?_
        | refine then_x ?_
        | refine then_r ?_
        | refine block_x ?_
        | refine block_n ?_
        | refine block_r ?_
        | refine aw_ret ?_
theorem c_stot (xs : List Rw) (hl : xs.length ≤ 1000000000) : Meets Go.Proofs.Try.prog 90 [rwL xs] [] (I (totV xs)) [] false := by
  refine meets_of [2] Go.Proofs.Try.func90 rfl rfl ?_
  simp only [Go.Proofs.Try.ntmps90, List.length_cons, List.length_nil, Nat.reduceAdd, Nat.reduceSub, List.replicate_succ, List.replicate_zero, List.cons_append, List.nil_append]
  repeat' first
    | refine aw_seq ?_
    | refine aw_region ?_
    | refine aw_lex [] ?_
    | (refine isA ?_; refine do_F rfl ?_)
    | (refine isL ?_; refine lex_F rfl (by kernel_rfl) rfl rfl ?_)
    | (refine isLg rfl ?_; refine lex_S rfl (by kernel_rfl) rfl rfl ?_)
    | refine aops_nil ?_
    | refine lex_done _ rfl (by kernel_rfl) ?_
    | refine aw_ct rfl ?_
    | refine aw_cf rfl ?_
    | refine aw_block ?_
    | refine then_n ?_
    | refine aw_skip ?_
    | refine aw_exit ?_
    | refine then_x ?_
    | refine then_r ?_
    | refine block_x ?_
    | refine block_n ?_
    | refine block_r ?_
    | refine aw_ret ?_
  refine aw_loop (α := { i : Nat // i ≤ xs.length }) (fun i => ⟨[rwL xs, .any, .any, I (totV (xs.take i.1)), I i.1, .any, .any, .any, .any, .any, .any, .any, .any, .any, .any, .any, .any, .any, .any], [], 0⟩) (fun i => xs.length - i.1) ⟨0, Nat.zero_le _⟩ ?_ ?_
  · exact sub0 [] rfl rfl (by decide) .nil (by repeat' first | exact les_nil | refine les_cons ?_ ?_ | exact le_any | exact le_refl rfl | exact le_sl rfl rfl | exact le_ptr rfl)
  · rintro ⟨i, hi⟩
    repeat' first
      | refine aw_seq ?_
      | refine aw_region ?_
      | refine aw_lex [] ?_
      | (refine isA ?_; refine do_F rfl ?_)
      | (refine isL ?_; refine lex_F rfl (by kernel_rfl) rfl rfl ?_)
      | (refine isLg rfl ?_; refine lex_S rfl (by kernel_rfl) rfl rfl ?_)
      | refine aops_nil ?_
      | refine lex_done _ rfl (by kernel_rfl) ?_
      | refine aw_ct rfl ?_
      | refine aw_cf rfl ?_
      | refine aw_block ?_
      | refine then_n ?_
      | refine aw_skip ?_
      | refine aw_exit ?_
      | refine then_x ?_
      | refine then_r ?_
      | refine block_x ?_
      | refine block_n ?_
      | refine block_r ?_
      | refine aw_ret ?_
    refine aw_cond rfl (fun h => ?_) (fun h => ?_)
    · have hlt : i < xs.length := by simpa using h
      obtain ⟨z, hz⟩ : ∃ z, xs[i]? = some z := ⟨_, List.getElem?_eq_getElem hlt⟩
      repeat' first
        | refine aw_seq ?_
        | refine aw_region ?_
        | refine aw_lex [] ?_
        | (refine isA ?_; refine do_F rfl ?_)
        | (refine isL ?_; refine lex_F rfl (by kernel_rfl) rfl rfl ?_)
        | (refine isLg rfl ?_; refine lex_S rfl (by kernel_rfl) rfl rfl ?_)
        | refine do_R rfl (ia_l (z := z) rfl rfl rfl rfl (Int.natCast_nonneg _) hz) rfl ?_
        | refine lex_R rfl (by kernel_rfl) rfl (ia_l (z := z) rfl rfl rfl rfl (Int.natCast_nonneg _) hz) rfl ?_
        | (refine isAc 67 ?_; refine do_R rfl (st_call rfl (c_src z) (.cons (.same rfl) .nil) rfl) rfl ?_)
        | (refine isLc 67 rfl ?_; refine lex_R rfl (by kernel_rfl) rfl (st_call rfl (c_src z) (.cons (.same rfl) .nil) rfl) rfl ?_)
        | refine aops_nil ?_
        | refine lex_done _ rfl (by kernel_rfl) ?_
        | refine aw_ct rfl ?_
        | refine aw_cf rfl ?_
        | refine aw_block ?_
        | refine then_n ?_
        | refine aw_skip ?_
        | refine aw_exit ?_
        | refine then_x ?_
        | refine then_r ?_
        | refine block_x ?_
        | refine block_n ?_
        | refine block_r ?_
        | refine aw_ret ?_
      refine ⟨⟨i + 1, hlt⟩, by simp only; omega, ?_⟩
      exact sub0 [] rfl rfl (by decide) .nil (by
        repeat' first
          | exact les_nil
          | refine les_cons ?_ ?_
          | exact le_any
          | exact le_refl rfl
          | exact le_eq (tot_wrap hz hl).symm rfl
          | exact le_i (by assumption) (by omega))
    · have hge : i = xs.length := by
        have : ¬ ((i : Int) < xs.length) := by simpa using h
        omega
      subst hge
      repeat' first
        | refine aw_seq ?_
        | refine aw_region ?_
        | refine aw_lex [] ?_
        | (refine isA ?_; refine do_F rfl ?_)
        | (refine isL ?_; refine lex_F rfl (by kernel_rfl) rfl rfl ?_)
        | (refine isLg rfl ?_; refine lex_S rfl (by kernel_rfl) rfl rfl ?_)
        | exact fin1 rfl rfl (by simp only [List.take_length])
        | refine aops_nil ?_
        | refine lex_done _ rfl (by kernel_rfl) ?_
        | refine aw_ct rfl ?_
        | refine aw_cf rfl ?_
        | refine aw_block ?_
        | refine then_n ?_
        | refine aw_skip ?_
        | refine aw_exit ?_
        | refine then_x ?_
        | refine then_r ?_
        | refine block_x ?_
        | refine block_n ?_
        | refine block_r ?_
        | refine aw_ret ?_

/-! ### In order -/
theorem iso_take {xs : List Rw} {i : Nat} {z y : Rw} (h : Srt (xs.take (i + 1))) (hz : xs[i + 1]? = some z) (hy : xs[i]? = some y) (hle : leW y z) : Srt (xs.take (i + 2)) := by
  rw [take_snoc hz]
  refine List.pairwise_append.2 ⟨h, List.pairwise_singleton _ _, fun a ha c hc => ?_⟩
  have hc' : c = z := by simpa using hc
  subst hc'
  obtain ⟨j, hj⟩ := List.getElem?_of_mem ha
  have hlt := (List.getElem?_eq_some_iff.1 hj).1
  simp only [List.length_take] at hlt
  have hy' : (xs.take (i + 1))[i]? = some y := by rw [List.getElem?_take_of_lt (by omega)]; exact hy
  exact leW_trans (srt_le h (show j ≤ i by omega) hj hy') hle
theorem iso_no {xs : List Rw} {i : Nat} {z y : Rw} (hz : xs[i + 1]? = some z) (hy : xs[i]? = some y) (hle : ¬ leW y z) : isoV xs = false := by
  refine decide_eq_false fun h => hle ?_
  exact srt_le h (Nat.le_succ i) hy hz
theorem iso_yes {xs : List Rw} {i : Nat} (h : Srt (xs.take i)) (hi : xs.length ≤ i) : isoV xs = true := by
  rw [List.take_of_length_le hi] at h
  exact decide_eq_true h
theorem srt_one (xs : List Rw) : Srt (xs.take 1) := by
  cases xs with
  | nil => exact List.Pairwise.nil
  | cons x xs => exact List.pairwise_singleton _ _
theorem c_iiso (xs : List Rw) (hl : xs.length ≤ 1000000000) : Meets Go.Proofs.Try.prog 77 [rwL xs] [] (B (isoV xs)) [] false := by
  refine meets_of [2] Go.Proofs.Try.func77 rfl rfl ?_
  simp only [Go.Proofs.Try.ntmps77, List.length_cons, List.length_nil, Nat.reduceAdd, Nat.reduceSub, List.replicate_succ, List.replicate_zero, List.cons_append, List.nil_append]
  repeat' first
    | refine aw_seq ?_
    | refine aw_region ?_
    | refine aw_lex [] ?_
    | (refine isA ?_; refine do_F rfl ?_)
    | (refine isL ?_; refine lex_F rfl (by kernel_rfl) rfl rfl ?_)
    | (refine isLg rfl ?_; refine lex_S rfl (by kernel_rfl) rfl rfl ?_)
    | refine aops_nil ?_
    | refine lex_done _ rfl (by kernel_rfl) ?_
    | refine aw_ct rfl ?_
    | refine aw_cf rfl ?_
    | refine aw_block ?_
    | refine then_n ?_
    | refine aw_skip ?_
    | refine aw_exit ?_
    | refine then_x ?_
    | refine then_r ?_
    | refine block_x ?_
    | refine block_n ?_
    | refine block_r ?_
    | refine aw_ret ?_
  refine aw_loop (α := { i : Nat // Srt (xs.take (i + 1)) }) (fun i => ⟨[rwL xs, .any, .any, I ((i.1 + 1 : Nat) : Int), .any, .any, .any, .any, .any, .any, .any, .any, .any, .any, .any, .any, .any, .any, .any, .any, .any], [], 0⟩) (fun i => xs.length - i.1) ⟨0, srt_one xs⟩ ?_ ?_
  · exact sub0 [] rfl rfl (by decide) .nil (by repeat' first | exact les_nil | refine les_cons ?_ ?_ | exact le_any | exact le_refl rfl | exact le_sl rfl rfl | exact le_ptr rfl)
  · rintro ⟨i, hi⟩
    repeat' first
      | refine aw_seq ?_
      | refine aw_region ?_
      | refine aw_lex [] ?_
      | (refine isA ?_; refine do_F rfl ?_)
      | (refine isL ?_; refine lex_F rfl (by kernel_rfl) rfl rfl ?_)
      | (refine isLg rfl ?_; refine lex_S rfl (by kernel_rfl) rfl rfl ?_)
      | refine aops_nil ?_
      | refine lex_done _ rfl (by kernel_rfl) ?_
      | refine aw_ct rfl ?_
      | refine aw_cf rfl ?_
      | refine aw_block ?_
      | refine then_n ?_
      | refine aw_skip ?_
      | refine aw_exit ?_
      | refine then_x ?_
      | refine then_r ?_
      | refine block_x ?_
      | refine block_n ?_
      | refine block_r ?_
      | refine aw_ret ?_
    refine aw_cond rfl (fun h => ?_) (fun h => ?_)
    · have hlt : i + 1 < xs.length := by have := of_decide_eq_true h; simp only at this; omega
      obtain ⟨z, hz⟩ : ∃ z, xs[i + 1]? = some z := ⟨_, List.getElem?_eq_getElem hlt⟩
      obtain ⟨y, hy⟩ : ∃ z, xs[i]? = some z := ⟨_, List.getElem?_eq_getElem (by omega)⟩
      have ew : IntKind.i64.wrap (((i + 1 : Nat) : Int) - 1) = ((i : Nat) : Int) := by rw [IntKind.wrap_i64]; omega
      repeat' first
        | refine aw_seq ?_
        | refine aw_region ?_
        | refine aw_lex [] ?_
        | (refine isA ?_; refine do_F rfl ?_)
        | (refine isL ?_; refine lex_F rfl (by kernel_rfl) rfl rfl ?_)
        | (refine isLg rfl ?_; refine lex_S rfl (by kernel_rfl) rfl rfl ?_)
        | (refine isAi (x := .tmp 10) ?_; refine do_R rfl (ia_l (t := rwT) (z := z) rfl rfl rfl rfl (Int.natCast_nonneg _) hz) rfl ?_)
        | (refine isLi (x := .tmp 10) rfl ?_; refine lex_R rfl (by kernel_rfl) rfl (ia_l (t := rwT) (z := z) rfl rfl rfl rfl (Int.natCast_nonneg _) hz) rfl ?_)
        | (refine isAi (x := .tmp 14) ?_; refine do_R rfl (ia_l (t := rwT) (j := ((i : Nat) : Int)) (z := y) rfl rfl rfl (congrArg I ew) (Int.natCast_nonneg _) hy) rfl ?_)
        | (refine isLi (x := .tmp 14) rfl ?_; refine lex_R rfl (by kernel_rfl) rfl (ia_l (t := rwT) (j := ((i : Nat) : Int)) (z := y) rfl rfl rfl (congrArg I ew) (Int.natCast_nonneg _) hy) rfl ?_)
        | (refine isAc 64 ?_; refine do_R rfl (st_call rfl (c_icmp z y) (.cons (.same rfl) (.cons (.same rfl) .nil)) rfl) rfl ?_)
        | (refine isLc 64 rfl ?_; refine lex_R rfl (by kernel_rfl) rfl (st_call rfl (c_icmp z y) (.cons (.same rfl) (.cons (.same rfl) .nil)) rfl) rfl ?_)
        | refine aops_nil ?_
        | refine lex_done _ rfl (by kernel_rfl) ?_
        | refine aw_ct rfl ?_
        | refine aw_cf rfl ?_
        | refine aw_block ?_
        | refine then_n ?_
        | refine aw_skip ?_
        | refine aw_exit ?_
        | refine then_x ?_
        | refine then_r ?_
        | refine block_x ?_
        | refine block_n ?_
        | refine block_r ?_
        | refine aw_ret ?_
      refine aw_cond rfl (fun p => ?_) (fun p => ?_)
      · have e := iso_no hz hy (cmp_neg.1 (of_decide_eq_true p))
        repeat' first
          | refine aw_seq ?_
          | refine aw_region ?_
          | refine aw_lex [] ?_
          | (refine isA ?_; refine do_F rfl ?_)
          | (refine isL ?_; refine lex_F rfl (by kernel_rfl) rfl rfl ?_)
          | (refine isLg rfl ?_; refine lex_S rfl (by kernel_rfl) rfl rfl ?_)
          | exact fin1 rfl rfl (by rw [e])
          | refine aops_nil ?_
          | refine lex_done _ rfl (by kernel_rfl) ?_
          | refine aw_ct rfl ?_
          | refine aw_cf rfl ?_
          | refine aw_block ?_
          | refine then_n ?_
          | refine aw_skip ?_
          | refine aw_exit ?_
          | refine then_x ?_
          | refine then_r ?_
          | refine block_x ?_
          | refine block_n ?_
          | refine block_r ?_
          | refine aw_ret ?_
      · have q : leW y z := Classical.byContradiction fun hn => absurd (cmp_neg.2 hn) (of_decide_eq_false p)
        repeat' first
          | refine aw_seq ?_
          | refine aw_region ?_
          | refine aw_lex [] ?_
          | (refine isA ?_; refine do_F rfl ?_)
          | (refine isL ?_; refine lex_F rfl (by kernel_rfl) rfl rfl ?_)
          | (refine isLg rfl ?_; refine lex_S rfl (by kernel_rfl) rfl rfl ?_)
          | refine aops_nil ?_
          | refine lex_done _ rfl (by kernel_rfl) ?_
          | refine aw_ct rfl ?_
          | refine aw_cf rfl ?_
          | refine aw_block ?_
          | refine then_n ?_
          | refine aw_skip ?_
          | refine aw_exit ?_
          | refine then_x ?_
          | refine then_r ?_
          | refine block_x ?_
          | refine block_n ?_
          | refine block_r ?_
          | refine aw_ret ?_
        refine ⟨⟨i + 1, iso_take hi hz hy q⟩, by simp only; omega, ?_⟩
        exact sub0 [] rfl rfl (by decide) .nil (by
          repeat' first
            | exact les_nil
            | refine les_cons ?_ ?_
            | exact le_any
            | exact le_refl rfl
            | exact le_k (congrArg _ (show ((i + 1 + 1 : Nat) : Int) = IntKind.i64.wrap (((i + 1 : Nat) : Int) + 1) by rw [IntKind.wrap_i64]; omega)))
    · have e := iso_yes hi (by have := of_decide_eq_false h; simp only at this; omega)
      repeat' first
        | refine aw_seq ?_
        | refine aw_region ?_
        | refine aw_lex [] ?_
        | (refine isA ?_; refine do_F rfl ?_)
        | (refine isL ?_; refine lex_F rfl (by kernel_rfl) rfl rfl ?_)
        | (refine isLg rfl ?_; refine lex_S rfl (by kernel_rfl) rfl rfl ?_)
        | exact fin1 rfl rfl (by rw [e])
        | refine aops_nil ?_
        | refine lex_done _ rfl (by kernel_rfl) ?_
        | refine aw_ct rfl ?_
        | refine aw_cf rfl ?_
        | refine aw_block ?_
        | refine then_n ?_
        | refine aw_skip ?_
        | refine aw_exit ?_
        | refine then_x ?_
        | refine then_r ?_
        | refine block_x ?_
        | refine block_n ?_
        | refine block_r ?_
        | refine aw_ret ?_
theorem c_siso (xs : List Rw) (hl : xs.length ≤ 1000000000) : Meets Go.Proofs.Try.prog 84 [rwL xs] [] (B (isoV xs)) [] false := by
  refine meets_of [2] Go.Proofs.Try.func84 rfl rfl ?_
  simp only [Go.Proofs.Try.ntmps84, List.length_cons, List.length_nil, Nat.reduceAdd, Nat.reduceSub, List.replicate_succ, List.replicate_zero, List.cons_append, List.nil_append]
  repeat' first
    | refine aw_seq ?_
    | refine aw_region ?_
    | refine aw_lex [] ?_
    | (refine isA ?_; refine do_F rfl ?_)
    | (refine isL ?_; refine lex_F rfl (by kernel_rfl) rfl rfl ?_)
    | (refine isLg rfl ?_; refine lex_S rfl (by kernel_rfl) rfl rfl ?_)
    | refine aops_nil ?_
    | refine lex_done _ rfl (by kernel_rfl) ?_
    | refine aw_ct rfl ?_
    | refine aw_cf rfl ?_
    | refine aw_block ?_
    | refine then_n ?_
    | refine aw_skip ?_
    | refine aw_exit ?_
    | refine then_x ?_
    | refine then_r ?_
    | refine block_x ?_
    | refine block_n ?_
    | refine block_r ?_
    | refine aw_ret ?_
  refine aw_loop (α := { i : Nat // Srt (xs.take (i + 1)) }) (fun i => ⟨[rwL xs, .any, .any, I ((i.1 + 1 : Nat) : Int), .any, .any, .any, .any, .any, .any, .any, .any, .any, .any, .any, .any, .any, .any, .any, .any, .any], [], 0⟩) (fun i => xs.length - i.1) ⟨0, srt_one xs⟩ ?_ ?_
  · exact sub0 [] rfl rfl (by decide) .nil (by repeat' first | exact les_nil | refine les_cons ?_ ?_ | exact le_any | exact le_refl rfl | exact le_sl rfl rfl | exact le_ptr rfl)
  · rintro ⟨i, hi⟩
    repeat' first
      | refine aw_seq ?_
      | refine aw_region ?_
      | refine aw_lex [] ?_
      | (refine isA ?_; refine do_F rfl ?_)
      | (refine isL ?_; refine lex_F rfl (by kernel_rfl) rfl rfl ?_)
      | (refine isLg rfl ?_; refine lex_S rfl (by kernel_rfl) rfl rfl ?_)
      | refine aops_nil ?_
      | refine lex_done _ rfl (by kernel_rfl) ?_
      | refine aw_ct rfl ?_
      | refine aw_cf rfl ?_
      | refine aw_block ?_
      | refine then_n ?_
      | refine aw_skip ?_
      | refine aw_exit ?_
      | refine then_x ?_
      | refine then_r ?_
      | refine block_x ?_
      | refine block_n ?_
      | refine block_r ?_
      | refine aw_ret ?_
    refine aw_cond rfl (fun h => ?_) (fun h => ?_)
    · have hlt : i + 1 < xs.length := by have := of_decide_eq_true h; simp only at this; omega
      obtain ⟨z, hz⟩ : ∃ z, xs[i + 1]? = some z := ⟨_, List.getElem?_eq_getElem hlt⟩
      obtain ⟨y, hy⟩ : ∃ z, xs[i]? = some z := ⟨_, List.getElem?_eq_getElem (by omega)⟩
      have ew : IntKind.i64.wrap (((i + 1 : Nat) : Int) - 1) = ((i : Nat) : Int) := by rw [IntKind.wrap_i64]; omega
      repeat' first
        | refine aw_seq ?_
        | refine aw_region ?_
        | refine aw_lex [] ?_
        | (refine isA ?_; refine do_F rfl ?_)
        | (refine isL ?_; refine lex_F rfl (by kernel_rfl) rfl rfl ?_)
        | (refine isLg rfl ?_; refine lex_S rfl (by kernel_rfl) rfl rfl ?_)
        | (refine isAi (x := .tmp 15) ?_; refine do_R rfl (ia_l (t := rwT) (z := z) rfl rfl rfl rfl (Int.natCast_nonneg _) hz) rfl ?_)
        | (refine isLi (x := .tmp 15) rfl ?_; refine lex_R rfl (by kernel_rfl) rfl (ia_l (t := rwT) (z := z) rfl rfl rfl rfl (Int.natCast_nonneg _) hz) rfl ?_)
        | (refine isAi (x := .tmp 10) ?_; refine do_R rfl (ia_l (t := rwT) (j := ((i : Nat) : Int)) (z := y) rfl rfl rfl (congrArg I ew) (Int.natCast_nonneg _) hy) rfl ?_)
        | (refine isLi (x := .tmp 10) rfl ?_; refine lex_R rfl (by kernel_rfl) rfl (ia_l (t := rwT) (j := ((i : Nat) : Int)) (z := y) rfl rfl rfl (congrArg I ew) (Int.natCast_nonneg _) hy) rfl ?_)
        | (refine isAc 68 ?_; refine do_R rfl (st_call rfl (c_scmp y z) (.cons (.same rfl) (.cons (.same rfl) .nil)) rfl) rfl ?_)
        | (refine isLc 68 rfl ?_; refine lex_R rfl (by kernel_rfl) rfl (st_call rfl (c_scmp y z) (.cons (.same rfl) (.cons (.same rfl) .nil)) rfl) rfl ?_)
        | refine aops_nil ?_
        | refine lex_done _ rfl (by kernel_rfl) ?_
        | refine aw_ct rfl ?_
        | refine aw_cf rfl ?_
        | refine aw_block ?_
        | refine then_n ?_
        | refine aw_skip ?_
        | refine aw_exit ?_
        | refine then_x ?_
        | refine then_r ?_
        | refine block_x ?_
        | refine block_n ?_
        | refine block_r ?_
        | refine aw_ret ?_
      refine aw_cond rfl (fun p => ?_) (fun p => ?_)
      · have e := iso_no hz hy (fun h => by have h : cmpV y z ≤ 0 := h; have := of_decide_eq_true p; omega)
        repeat' first
          | refine aw_seq ?_
          | refine aw_region ?_
          | refine aw_lex [] ?_
          | (refine isA ?_; refine do_F rfl ?_)
          | (refine isL ?_; refine lex_F rfl (by kernel_rfl) rfl rfl ?_)
          | (refine isLg rfl ?_; refine lex_S rfl (by kernel_rfl) rfl rfl ?_)
          | exact fin1 rfl rfl (by rw [e])
          | refine aops_nil ?_
          | refine lex_done _ rfl (by kernel_rfl) ?_
          | refine aw_ct rfl ?_
          | refine aw_cf rfl ?_
          | refine aw_block ?_
          | refine then_n ?_
          | refine aw_skip ?_
          | refine aw_exit ?_
          | refine then_x ?_
          | refine then_r ?_
          | refine block_x ?_
          | refine block_n ?_
          | refine block_r ?_
          | refine aw_ret ?_
      · have q : leW y z := by show cmpV y z ≤ 0; have := of_decide_eq_false p; omega
        repeat' first
          | refine aw_seq ?_
          | refine aw_region ?_
          | refine aw_lex [] ?_
          | (refine isA ?_; refine do_F rfl ?_)
          | (refine isL ?_; refine lex_F rfl (by kernel_rfl) rfl rfl ?_)
          | (refine isLg rfl ?_; refine lex_S rfl (by kernel_rfl) rfl rfl ?_)
          | refine aops_nil ?_
          | refine lex_done _ rfl (by kernel_rfl) ?_
          | refine aw_ct rfl ?_
          | refine aw_cf rfl ?_
          | refine aw_block ?_
          | refine then_n ?_
          | refine aw_skip ?_
          | refine aw_exit ?_
          | refine then_x ?_
          | refine then_r ?_
          | refine block_x ?_
          | refine block_n ?_
          | refine block_r ?_
          | refine aw_ret ?_
        refine ⟨⟨i + 1, iso_take hi hz hy q⟩, by simp only; omega, ?_⟩
        exact sub0 [] rfl rfl (by decide) .nil (by
          repeat' first
            | exact les_nil
            | refine les_cons ?_ ?_
            | exact le_any
            | exact le_refl rfl
            | exact le_k (congrArg _ (show ((i + 1 + 1 : Nat) : Int) = IntKind.i64.wrap (((i + 1 : Nat) : Int) + 1) by rw [IntKind.wrap_i64]; omega)))
    · have e := iso_yes hi (by have := of_decide_eq_false h; simp only at this; omega)
      repeat' first
        | refine aw_seq ?_
        | refine aw_region ?_
        | refine aw_lex [] ?_
        | (refine isA ?_; refine do_F rfl ?_)
        | (refine isL ?_; refine lex_F rfl (by kernel_rfl) rfl rfl ?_)
        | (refine isLg rfl ?_; refine lex_S rfl (by kernel_rfl) rfl rfl ?_)
        | exact fin1 rfl rfl (by rw [e])
        | refine aops_nil ?_
        | refine lex_done _ rfl (by kernel_rfl) ?_
        | refine aw_ct rfl ?_
        | refine aw_cf rfl ?_
        | refine aw_block ?_
        | refine then_n ?_
        | refine aw_skip ?_
        | refine aw_exit ?_
        | refine then_x ?_
        | refine then_r ?_
        | refine block_x ?_
        | refine block_n ?_
        | refine block_r ?_
        | refine aw_ret ?_

/-! ### Before the last -/
theorem c_below (x : Rw) (out : List Rw) (hl : out.length ≤ 1000000000) : Meets Go.Proofs.Try.prog 59 [.agg (rwE x), rwL out] [] (B (bel x out)) [] false := by
  rcases Nat.eq_zero_or_pos out.length with h0 | h0
  · rw [List.eq_nil_of_length_eq_zero h0]
    refine meets_of [4] Go.Proofs.Try.func59 rfl rfl ?_
    simp only [Go.Proofs.Try.ntmps59, List.length_cons, List.length_nil, Nat.reduceAdd, Nat.reduceSub, List.replicate_succ, List.replicate_zero, List.cons_append, List.nil_append]
    repeat' first
      | refine aw_seq ?_
      | refine aw_region ?_
      | refine aw_lex [] ?_
      | (refine isA ?_; refine do_F rfl ?_)
      | (refine isL ?_; refine lex_F rfl (by kernel_rfl) rfl rfl ?_)
      | (refine isLg rfl ?_; refine lex_S rfl (by kernel_rfl) rfl rfl ?_)
      | exact fin1 rfl rfl rfl
      | refine aops_nil ?_
      | refine lex_done _ rfl (by kernel_rfl) ?_
      | refine aw_ct rfl ?_
      | refine aw_cf rfl ?_
      | refine aw_block ?_
      | refine then_n ?_
      | refine aw_skip ?_
      | refine aw_exit ?_
      | refine then_x ?_
      | refine then_r ?_
      | refine block_x ?_
      | refine block_n ?_
      | refine block_r ?_
      | refine aw_ret ?_
  · obtain ⟨y, hy⟩ : ∃ z, out[out.length - 1]? = some z := ⟨_, List.getElem?_eq_getElem (by omega)⟩
    have ew : IntKind.i64.wrap ((out.length : Int) - 1) = ((out.length - 1 : Nat) : Int) := by rw [IntKind.wrap_i64]; omega
    have e : bel x out = decide (cmpV x y < 0) := by unfold bel; rw [hy]; rfl
    refine meets_of [4] Go.Proofs.Try.func59 rfl rfl ?_
    simp only [Go.Proofs.Try.ntmps59, List.length_cons, List.length_nil, Nat.reduceAdd, Nat.reduceSub, List.replicate_succ, List.replicate_zero, List.cons_append, List.nil_append]
    repeat' first
      | refine aw_seq ?_
      | refine aw_region ?_
      | refine aw_lex [] ?_
      | (refine isA ?_; refine do_F rfl ?_)
      | (refine isL ?_; refine lex_F rfl (by kernel_rfl) rfl rfl ?_)
      | (refine isLg rfl ?_; refine lex_S rfl (by kernel_rfl) rfl rfl ?_)
      | refine aops_nil ?_
      | refine lex_done _ rfl (by kernel_rfl) ?_
      | refine aw_ct rfl ?_
      | refine aw_cf rfl ?_
      | refine aw_block ?_
      | refine then_n ?_
      | refine aw_skip ?_
      | refine aw_exit ?_
      | refine then_x ?_
      | refine then_r ?_
      | refine block_x ?_
      | refine block_n ?_
      | refine block_r ?_
      | refine aw_ret ?_
    refine lex_br rfl rfl rfl rfl (fun p1 => ?_) (fun p1 => absurd (of_decide_eq_false p1) (by omega))
    repeat' first
      | refine aw_seq ?_
      | refine aw_region ?_
      | refine aw_lex [] ?_
      | (refine isA ?_; refine do_F rfl ?_)
      | (refine isL ?_; refine lex_F rfl (by kernel_rfl) rfl rfl ?_)
      | (refine isLg rfl ?_; refine lex_S rfl (by kernel_rfl) rfl rfl ?_)
      | (refine isAi ?_; refine do_R rfl (ia_l (t := rwT) (j := ((out.length - 1 : Nat) : Int)) (z := y) rfl rfl rfl (congrArg I ew) (Int.natCast_nonneg _) hy) rfl ?_)
      | (refine isLi rfl ?_; refine lex_R rfl (by kernel_rfl) rfl (ia_l (t := rwT) (j := ((out.length - 1 : Nat) : Int)) (z := y) rfl rfl rfl (congrArg I ew) (Int.natCast_nonneg _) hy) rfl ?_)
      | (refine isAc 64 ?_; refine do_R rfl (st_call rfl (c_icmp x y) (.cons (.same rfl) (.cons (.same rfl) .nil)) rfl) rfl ?_)
      | (refine isLc 64 rfl ?_; refine lex_R rfl (by kernel_rfl) rfl (st_call rfl (c_icmp x y) (.cons (.same rfl) (.cons (.same rfl) .nil)) rfl) rfl ?_)
      | exact fin1 rfl rfl (by rw [e])
      | refine aops_nil ?_
      | refine lex_done _ rfl (by kernel_rfl) ?_
      | refine aw_ct rfl ?_
      | refine aw_cf rfl ?_
      | refine aw_block ?_
      | refine then_n ?_
      | refine aw_skip ?_
      | refine aw_exit ?_
      | refine then_x ?_
      | refine then_r ?_
      | refine block_x ?_
      | refine block_n ?_
      | refine block_r ?_
      | refine aw_ret ?_
end Go.Proofs.Ytojcojanokhnaaa.Ab

/- SqB -/
namespace Go.Proofs.Ytojcojanokhnaaa.Ab
open Go.RowKit

/-! ### Bags -/
theorem c_ieqB (xs ys : List Rw) (h1 : xs.length ≤ 100000000) (h2 : ys.length ≤ 100000000) : Meets Go.Proofs.Try.prog 79 [rwL xs, rwL ys] [] (B (eqB xs ys)) [] false := by
  have s1 := (c_isort xs h1).frozen (pur_row rfl)
  have s2 := (c_isort ys h2).frozen (pur_row rfl)
  have l1 := srtV_len xs
  have l2 := srtV_len ys
  have q := c_iequal (srtV xs) (srtV ys) (by omega)
  refine meets_of [4] Go.Proofs.Try.func79 rfl rfl ?_
  simp only [Go.Proofs.Try.ntmps79, List.length_cons, List.length_nil, Nat.reduceAdd, Nat.reduceSub, List.replicate_succ, List.replicate_zero, List.cons_append, List.nil_append]
  repeat' first
    | refine aw_seq ?_
    | refine aw_region ?_
    | refine aw_lex [] ?_
    | (refine isA ?_; refine do_F rfl ?_)
    | (refine isL ?_; refine lex_F rfl (by kernel_rfl) rfl rfl ?_)
    | (refine isLg rfl ?_; refine lex_S rfl (by kernel_rfl) rfl rfl ?_)
    | refine aops_nil ?_
    | refine lex_done _ rfl (by kernel_rfl) ?_
    | refine aw_ct rfl ?_
    | refine aw_cf rfl ?_
    | refine aw_block ?_
    | with_reducible refine then_n ?_
    | refine aw_skip ?_
    | refine aw_exit ?_
    | with_reducible refine then_x ?_
    | with_reducible refine then_r ?_
    | with_reducible refine block_x ?_
    | with_reducible refine block_n ?_
    | with_reducible refine block_r ?_
    | refine aw_ret ?_
  refine do_br rfl rfl (fun h => ?_) (fun h => ?_)
  · repeat' first
      | refine aw_seq ?_
      | refine aw_region ?_
      | refine aw_lex [] ?_
      | (refine isA ?_; refine do_F rfl ?_)
      | (refine isL ?_; refine lex_F rfl (by kernel_rfl) rfl rfl ?_)
      | (refine isLg rfl ?_; refine lex_S rfl (by kernel_rfl) rfl rfl ?_)
      | (refine isAc 122 (x := #[.tmp 11]) ?_; refine do_R rfl (st_call rfl s1 (.cons (.same rfl) .nil) rfl) rfl ?_)
      | (refine isLc 122 (x := #[.tmp 11]) rfl ?_; refine lex_R rfl (by kernel_rfl) rfl (st_call rfl s1 (.cons (.same rfl) .nil) rfl) rfl ?_)
      | (refine isAc 122 (x := #[.tmp 13]) ?_; refine do_R rfl (st_call rfl s2 (.cons (.same rfl) .nil) rfl) rfl ?_)
      | (refine isLc 122 (x := #[.tmp 13]) rfl ?_; refine lex_R rfl (by kernel_rfl) rfl (st_call rfl s2 (.cons (.same rfl) .nil) rfl) rfl ?_)
      | (refine isAc 81 ?_; refine do_R rfl (st_call rfl q (.cons (.same rfl) (.cons (.same rfl) .nil)) rfl) rfl ?_)
      | (refine isLc 81 rfl ?_; refine lex_R rfl (by kernel_rfl) rfl (st_call rfl q (.cons (.same rfl) (.cons (.same rfl) .nil)) rfl) rfl ?_)
      | exact fin1 rfl rfl rfl
      | refine aops_nil ?_
      | refine lex_done _ rfl (by kernel_rfl) ?_
      | refine aw_ct rfl ?_
      | refine aw_cf rfl ?_
      | refine aw_block ?_
      | with_reducible refine then_n ?_
      | refine aw_skip ?_
      | refine aw_exit ?_
      | with_reducible refine then_x ?_
      | with_reducible refine then_r ?_
      | with_reducible refine block_x ?_
      | with_reducible refine block_n ?_
      | with_reducible refine block_r ?_
      | refine aw_ret ?_
  · have e : eqB xs ys = false := eqLd_len (by rw [l1, l2]; have := of_decide_eq_false h; omega)
    repeat' first
      | refine aw_seq ?_
      | refine aw_region ?_
      | refine aw_lex [] ?_
      | (refine isA ?_; refine do_F rfl ?_)
      | (refine isL ?_; refine lex_F rfl (by kernel_rfl) rfl rfl ?_)
      | (refine isLg rfl ?_; refine lex_S rfl (by kernel_rfl) rfl rfl ?_)
      | exact fin1 rfl rfl (by rw [e])
      | refine aops_nil ?_
      | refine lex_done _ rfl (by kernel_rfl) ?_
      | refine aw_ct rfl ?_
      | refine aw_cf rfl ?_
      | refine aw_block ?_
      | with_reducible refine then_n ?_
      | refine aw_skip ?_
      | refine aw_exit ?_
      | with_reducible refine then_x ?_
      | with_reducible refine then_r ?_
      | with_reducible refine block_x ?_
      | with_reducible refine block_n ?_
      | with_reducible refine block_r ?_
      | refine aw_ret ?_
theorem c_seqB2 (xs ys : List Rw) (h1 : xs.length ≤ 100000000) (h2 : ys.length ≤ 100000000) : Meets Go.Proofs.Try.prog 86 [rwL xs, rwL ys] [] (B (eqB xs ys)) [] false := by
  have s1 := (c_ssort xs h1).frozen (pur_row rfl)
  have s2 := (c_ssort ys h2).frozen (pur_row rfl)
  have l1 := srtV_len xs
  have l2 := srtV_len ys
  show Meets Go.Proofs.Try.prog 86 [rwL xs, rwL ys] [] (B (eqLd (srtV xs) (srtV ys))) [] false
  generalize srtV xs = us at s1 l1 ⊢
  generalize srtV ys = vs at s2 l2 ⊢
  refine meets_of [4] Go.Proofs.Try.func86 rfl rfl ?_
  simp only [Go.Proofs.Try.ntmps86, List.length_cons, List.length_nil, Nat.reduceAdd, Nat.reduceSub, List.replicate_succ, List.replicate_zero, List.cons_append, List.nil_append]
  repeat' first
    | refine aw_seq ?_
    | refine aw_region ?_
    | refine aw_lex [] ?_
    | (refine isA ?_; refine do_F rfl ?_)
    | (refine isL ?_; refine lex_F rfl (by kernel_rfl) rfl rfl ?_)
    | (refine isLg rfl ?_; refine lex_S rfl (by kernel_rfl) rfl rfl ?_)
    | (refine isAc 28 (x := #[.tmp 8]) ?_; refine do_R rfl (st_call rfl s1 (.cons (.same rfl) .nil) rfl) rfl ?_)
    | (refine isLc 28 (x := #[.tmp 8]) rfl ?_; refine lex_R rfl (by kernel_rfl) rfl (st_call rfl s1 (.cons (.same rfl) .nil) rfl) rfl ?_)
    | (refine isAc 28 (x := #[.tmp 10]) ?_; refine do_R rfl (st_call rfl s2 (.cons (.same rfl) .nil) rfl) rfl ?_)
    | (refine isLc 28 (x := #[.tmp 10]) rfl ?_; refine lex_R rfl (by kernel_rfl) rfl (st_call rfl s2 (.cons (.same rfl) .nil) rfl) rfl ?_)
    | refine aops_nil ?_
    | refine lex_done _ rfl (by kernel_rfl) ?_
    | refine aw_ct rfl ?_
    | refine aw_cf rfl ?_
    | refine aw_block ?_
    | with_reducible refine then_n ?_
    | refine aw_skip ?_
    | refine aw_exit ?_
    | with_reducible refine then_x ?_
    | with_reducible refine then_r ?_
    | with_reducible refine block_x ?_
    | with_reducible refine block_n ?_
    | with_reducible refine block_r ?_
    | refine aw_ret ?_
  refine aw_cond rfl (fun h => ?_) (fun h => ?_)
  · have hne : us.length ≠ vs.length := by have : ¬ ((us.length : Int) = vs.length) := (by simpa using h); omega
    repeat' first
      | refine aw_seq ?_
      | refine aw_region ?_
      | refine aw_lex [] ?_
      | (refine isA ?_; refine do_F rfl ?_)
      | (refine isL ?_; refine lex_F rfl (by kernel_rfl) rfl rfl ?_)
      | (refine isLg rfl ?_; refine lex_S rfl (by kernel_rfl) rfl rfl ?_)
      | exact fin1 rfl rfl (by rw [eqLd_len hne])
      | refine aops_nil ?_
      | refine lex_done _ rfl (by kernel_rfl) ?_
      | refine aw_ct rfl ?_
      | refine aw_cf rfl ?_
      | refine aw_block ?_
      | with_reducible refine then_n ?_
      | refine aw_skip ?_
      | refine aw_exit ?_
      | with_reducible refine then_x ?_
      | with_reducible refine then_r ?_
      | with_reducible refine block_x ?_
      | with_reducible refine block_n ?_
      | with_reducible refine block_r ?_
      | refine aw_ret ?_
  have he : us.length = vs.length := by have : ((us.length : Int) = vs.length) := (by simpa using h); omega
  repeat' first
    | refine aw_seq ?_
    | refine aw_region ?_
    | refine aw_lex [] ?_
    | (refine isA ?_; refine do_F rfl ?_)
    | (refine isL ?_; refine lex_F rfl (by kernel_rfl) rfl rfl ?_)
    | (refine isLg rfl ?_; refine lex_S rfl (by kernel_rfl) rfl rfl ?_)
    | refine aops_nil ?_
    | refine lex_done _ rfl (by kernel_rfl) ?_
    | refine aw_ct rfl ?_
    | refine aw_cf rfl ?_
    | refine aw_block ?_
    | with_reducible refine then_n ?_
    | refine aw_skip ?_
    | refine aw_exit ?_
    | with_reducible refine then_x ?_
    | with_reducible refine then_r ?_
    | with_reducible refine block_x ?_
    | with_reducible refine block_n ?_
    | with_reducible refine block_r ?_
    | refine aw_ret ?_
  refine aw_loop (α := { i : Nat // i ≤ us.length ∧ eqLd (us.drop i) (vs.drop i) = eqLd us vs }) (fun i => ⟨[.any, .any, .any, .any, .any, rwL us, rwL vs, I i.1, .any, .any, .any, .any, .any, .any, .any, .any, .any, .any, .any, .any, .any, .any, .any, .any, .any, .any, .any, .any, .any, .any, .any, .any], [], 0⟩) (fun i => us.length - i.1) ⟨0, Nat.zero_le _, rfl⟩ ?_ ?_
  · exact sub_id rfl (by repeat' first | exact EqS.nil | refine EqS.any ?_ | refine EqS.same rfl ?_)
  · rintro ⟨i, hi, hq⟩
    repeat' first
      | refine aw_seq ?_
      | refine aw_region ?_
      | refine aw_lex [] ?_
      | (refine isA ?_; refine do_F rfl ?_)
      | (refine isL ?_; refine lex_F rfl (by kernel_rfl) rfl rfl ?_)
      | (refine isLg rfl ?_; refine lex_S rfl (by kernel_rfl) rfl rfl ?_)
      | refine aops_nil ?_
      | refine lex_done _ rfl (by kernel_rfl) ?_
      | refine aw_ct rfl ?_
      | refine aw_cf rfl ?_
      | refine aw_block ?_
      | with_reducible refine then_n ?_
      | refine aw_skip ?_
      | refine aw_exit ?_
      | with_reducible refine then_x ?_
      | with_reducible refine then_r ?_
      | with_reducible refine block_x ?_
      | with_reducible refine block_n ?_
      | with_reducible refine block_r ?_
      | refine aw_ret ?_
    refine aw_cond rfl (fun h => ?_) (fun h => ?_)
    · have hlt : i < us.length := by simpa using h
      obtain ⟨x, hx⟩ : ∃ z, us[i]? = some z := ⟨_, List.getElem?_eq_getElem hlt⟩
      obtain ⟨y, hy⟩ : ∃ z, vs[i]? = some z := ⟨_, List.getElem?_eq_getElem (by omega)⟩
      rw [eqLd_at hx hy] at hq
      repeat' first
        | refine aw_seq ?_
        | refine aw_region ?_
        | refine aw_lex [] ?_
        | (refine isA ?_; refine do_F rfl ?_)
        | (refine isL ?_; refine lex_F rfl (by kernel_rfl) rfl rfl ?_)
        | (refine isLg rfl ?_; refine lex_S rfl (by kernel_rfl) rfl rfl ?_)
        | (refine isAi (x := .tmp 23) ?_; refine do_R rfl (ia_l (t := rwT) (z := x) rfl rfl rfl rfl (Int.natCast_nonneg i) hx) rfl ?_)
        | (refine isLi (x := .tmp 23) rfl ?_; refine lex_R rfl (by kernel_rfl) rfl (ia_l (t := rwT) (z := x) rfl rfl rfl rfl (Int.natCast_nonneg i) hx) rfl ?_)
        | (refine isAi (x := .tmp 27) ?_; refine do_R rfl (ia_l (t := rwT) (z := y) rfl rfl rfl rfl (Int.natCast_nonneg i) hy) rfl ?_)
        | (refine isLi (x := .tmp 27) rfl ?_; refine lex_R rfl (by kernel_rfl) rfl (ia_l (t := rwT) (z := y) rfl rfl rfl rfl (Int.natCast_nonneg i) hy) rfl ?_)
        | refine do_R rfl (neqRw rfl rfl rfl) rfl ?_
        | refine lex_R rfl (by kernel_rfl) rfl (neqRw rfl rfl rfl) rfl ?_
        | refine aops_nil ?_
        | refine lex_done _ rfl (by kernel_rfl) ?_
        | refine aw_ct rfl ?_
        | refine aw_cf rfl ?_
        | refine aw_block ?_
        | with_reducible refine then_n ?_
        | refine aw_skip ?_
        | refine aw_exit ?_
        | with_reducible refine then_x ?_
        | with_reducible refine then_r ?_
        | with_reducible refine block_x ?_
        | with_reducible refine block_n ?_
        | with_reducible refine block_r ?_
        | refine aw_ret ?_
      refine aw_cond rfl (fun h1 => ?_) (fun h1 => ?_)
      · have h2 : rwD x y = false := by simpa using h1
        rw [h2, Bool.false_and] at hq
        repeat' first
          | refine aw_seq ?_
          | refine aw_region ?_
          | refine aw_lex [] ?_
          | (refine isA ?_; refine do_F rfl ?_)
          | (refine isL ?_; refine lex_F rfl (by kernel_rfl) rfl rfl ?_)
          | (refine isLg rfl ?_; refine lex_S rfl (by kernel_rfl) rfl rfl ?_)
          | exact fin1 rfl rfl (congrArg B hq)
          | refine aops_nil ?_
          | refine lex_done _ rfl (by kernel_rfl) ?_
          | refine aw_ct rfl ?_
          | refine aw_cf rfl ?_
          | refine aw_block ?_
          | with_reducible refine then_n ?_
          | refine aw_skip ?_
          | refine aw_exit ?_
          | with_reducible refine then_x ?_
          | with_reducible refine then_r ?_
          | with_reducible refine block_x ?_
          | with_reducible refine block_n ?_
          | with_reducible refine block_r ?_
          | refine aw_ret ?_
      · have h2 : rwD x y = true := by simpa using h1
        rw [h2, Bool.true_and] at hq
        repeat' first
          | refine aw_seq ?_
          | refine aw_region ?_
          | refine aw_lex [] ?_
          | (refine isA ?_; refine do_F rfl ?_)
          | (refine isL ?_; refine lex_F rfl (by kernel_rfl) rfl rfl ?_)
          | (refine isLg rfl ?_; refine lex_S rfl (by kernel_rfl) rfl rfl ?_)
          | refine aops_nil ?_
          | refine lex_done _ rfl (by kernel_rfl) ?_
          | refine aw_ct rfl ?_
          | refine aw_cf rfl ?_
          | refine aw_block ?_
          | with_reducible refine then_n ?_
          | refine aw_skip ?_
          | refine aw_exit ?_
          | with_reducible refine then_x ?_
          | with_reducible refine then_r ?_
          | with_reducible refine block_x ?_
          | with_reducible refine block_n ?_
          | with_reducible refine block_r ?_
          | refine aw_ret ?_
        refine ⟨⟨i + 1, hlt, hq⟩, by simp only; omega, ?_⟩
        exact sub_id rfl (by repeat' first | exact EqS.nil | refine EqS.any ?_ | refine EqS.same rfl ?_ | refine EqS.same (i_succ (by assumption) (by omega)) ?_)
    · have hge : i = us.length := by
        have : ¬ ((i : Int) < us.length) := by simpa using h
        omega
      subst hge
      have hq' : eqLd us vs = true := by rw [← hq, List.drop_length, he, List.drop_length]; rfl
      repeat' first
        | refine aw_seq ?_
        | refine aw_region ?_
        | refine aw_lex [] ?_
        | (refine isA ?_; refine do_F rfl ?_)
        | (refine isL ?_; refine lex_F rfl (by kernel_rfl) rfl rfl ?_)
        | (refine isLg rfl ?_; refine lex_S rfl (by kernel_rfl) rfl rfl ?_)
        | exact fin1 rfl rfl (by rw [hq'])
        | refine aops_nil ?_
        | refine lex_done _ rfl (by kernel_rfl) ?_
        | refine aw_ct rfl ?_
        | refine aw_cf rfl ?_
        | refine aw_block ?_
        | with_reducible refine then_n ?_
        | refine aw_skip ?_
        | refine aw_exit ?_
        | with_reducible refine then_x ?_
        | with_reducible refine then_r ?_
        | with_reducible refine block_x ?_
        | with_reducible refine block_n ?_
        | with_reducible refine block_r ?_
        | refine aw_ret ?_

/-! ### Runs -/
def runB (r : Rn) : Bool := !decide (r.length = 0) && (isoV r && avR r)
theorem avS_no {rs : List Rn} {i : Nat} {z : Rn} (hz : rs[i]? = some z) (h : runB z = false) : avS rs = false := by
  cases e : avS rs with
  | false => rfl
  | true =>
    have := List.all_eq_true.1 e z (List.mem_of_getElem? hz)
    rw [show (!decide (z.length = 0) && (isoV z && avR z)) = runB z from rfl, h] at this
    cases this
theorem avS_yes {rs : List Rn} (h : ∀ j z, j < rs.length → rs[j]? = some z → runB z = true) : avS rs = true := List.all_eq_true.2 fun z hz => by
  obtain ⟨j, hj⟩ := List.getElem?_of_mem hz
  exact h j z (List.getElem?_eq_some_iff.1 hj).1 hj
theorem runB_e {z : Rn} : runB z = (!decide ((z.length : Int) = 0) && (isoV z && avR z)) := by
  unfold runB
  congr 2
  exact decide_eq_decide.2 (by omega)
theorem step_all {rs : List Rn} {i : Nat} {z : Rn} (hb : ∀ j z, j < i → rs[j]? = some z → runB z = true) (hz : rs[i]? = some z) (h : runB z = true) : ∀ j z, j < i + 1 → rs[j]? = some z → runB z = true := fun j y hj hy => by
  rcases Nat.lt_or_ge j i with hlt | hge
  · exact hb j y hlt hy
  · obtain rfl : j = i := by omega
    rw [hz] at hy
    cases hy
    exact h
theorem c_iavS (rs : List Rn) (hok : okRn rs) : Meets Go.Proofs.Try.prog 76 [rnL rs] [] (B (avS rs)) [] false := by
  have hl := hok.1
  refine meets_of [2] Go.Proofs.Try.func76 rfl rfl ?_
  simp only [Go.Proofs.Try.ntmps76, List.length_cons, List.length_nil, Nat.reduceAdd, Nat.reduceSub, List.replicate_succ, List.replicate_zero, List.cons_append, List.nil_append]
  repeat' first
    | refine aw_seq ?_
    | refine aw_region ?_
    | refine aw_lex [] ?_
    | (refine isA ?_; refine do_F rfl ?_)
    | (refine isL ?_; refine lex_F rfl (by kernel_rfl) rfl rfl ?_)
    | (refine isLg rfl ?_; refine lex_S rfl (by kernel_rfl) rfl rfl ?_)
    | refine aops_nil ?_
    | refine lex_done _ rfl (by kernel_rfl) ?_
    | refine aw_ct rfl ?_
    | refine aw_cf rfl ?_
    | refine aw_block ?_
    | with_reducible refine then_n ?_
    | refine aw_skip ?_
    | refine aw_exit ?_
    | with_reducible refine then_x ?_
    | with_reducible refine then_r ?_
    | with_reducible refine block_x ?_
    | with_reducible refine block_n ?_
    | with_reducible refine block_r ?_
    | refine aw_ret ?_
  refine aw_loop (α := { i : Nat // i ≤ rs.length ∧ ∀ j z, j < i → rs[j]? = some z → runB z = true }) (fun i => ⟨[.any, .any, .any, .any, .any, rnL rs, I rs.length, I i.1, .any, .any, .any, .any, .any, .any, .any, .any, .any, .any, .any, .any, .any, .any, .any, .any, .any, .any, .any, .any], [], 0⟩) (fun i => rs.length - i.1) ⟨0, Nat.zero_le _, fun j z h => absurd h (Nat.not_lt_zero j)⟩ ?_ ?_
  · exact sub0 [] rfl rfl (by decide) .nil (by repeat' first | exact les_nil | refine les_cons ?_ ?_ | exact le_any | exact le_refl rfl | exact le_sl rfl rfl | exact le_ptr rfl)
  · rintro ⟨i, hi, hb⟩
    repeat' first
      | refine aw_seq ?_
      | refine aw_region ?_
      | refine aw_lex [] ?_
      | (refine isA ?_; refine do_F rfl ?_)
      | (refine isL ?_; refine lex_F rfl (by kernel_rfl) rfl rfl ?_)
      | (refine isLg rfl ?_; refine lex_S rfl (by kernel_rfl) rfl rfl ?_)
      | refine aops_nil ?_
      | refine lex_done _ rfl (by kernel_rfl) ?_
      | refine aw_ct rfl ?_
      | refine aw_cf rfl ?_
      | refine aw_block ?_
      | with_reducible refine then_n ?_
      | refine aw_skip ?_
      | refine aw_exit ?_
      | with_reducible refine then_x ?_
      | with_reducible refine then_r ?_
      | with_reducible refine block_x ?_
      | with_reducible refine block_n ?_
      | with_reducible refine block_r ?_
      | refine aw_ret ?_
    refine aw_cond rfl (fun h => ?_) (fun h => ?_)
    · have hlt : i < rs.length := by simpa using h
      obtain ⟨z, hz⟩ : ∃ z, rs[i]? = some z := ⟨_, List.getElem?_eq_getElem hlt⟩
      have zl := hok.at hz
      have hno := avS_no hz
      have hyes := step_all hb hz
      rw [runB_e] at hno hyes
      have c1 := c_iiso z zl
      have c2 := c_iavR z zl
      generalize isoV z = p at hno hyes c1
      generalize avR z = q at hno hyes c2
      repeat' first
        | refine aw_seq ?_
        | refine aw_region ?_
        | refine aw_lex [] ?_
        | (refine isA ?_; refine do_F rfl ?_)
        | (refine isL ?_; refine lex_F rfl (by kernel_rfl) rfl rfl ?_)
        | (refine isLg rfl ?_; refine lex_S rfl (by kernel_rfl) rfl rfl ?_)
        | (refine isAi ?_; refine do_R rfl (ia_l (t := rnT) (z := z) rfl rfl rfl rfl (Int.natCast_nonneg i) hz) rfl ?_)
        | (refine isLi rfl ?_; refine lex_R rfl (by kernel_rfl) rfl (ia_l (t := rnT) (z := z) rfl rfl rfl rfl (Int.natCast_nonneg i) hz) rfl ?_)
        | (refine isAc 77 ?_; refine do_R rfl (st_call rfl c1 (.cons (.same rfl) .nil) rfl) rfl ?_)
        | (refine isLc 77 rfl ?_; refine lex_R rfl (by kernel_rfl) rfl (st_call rfl c1 (.cons (.same rfl) .nil) rfl) rfl ?_)
        | (refine isAc 74 ?_; refine do_R rfl (st_call rfl c2 (.cons (.same rfl) .nil) rfl) rfl ?_)
        | (refine isLc 74 rfl ?_; refine lex_R rfl (by kernel_rfl) rfl (st_call rfl c2 (.cons (.same rfl) .nil) rfl) rfl ?_)
        | refine aops_nil ?_
        | refine lex_done _ rfl (by kernel_rfl) ?_
        | refine aw_ct rfl ?_
        | refine aw_cf rfl ?_
        | refine aw_block ?_
        | with_reducible refine then_n ?_
        | refine aw_skip ?_
        | refine aw_exit ?_
        | with_reducible refine then_x ?_
        | with_reducible refine then_r ?_
        | with_reducible refine block_x ?_
        | with_reducible refine block_n ?_
        | with_reducible refine block_r ?_
        | refine aw_ret ?_
        | refine aw_cond rfl (fun hbr => ?_) (fun hbr => ?_)
        | (refine isAg ?_; refine do_br rfl rfl (fun hbr => ?_) (fun hbr => ?_) <;> (fail_if_success (with_reducible (have hx : true = true := hbr))) <;> (fail_if_success (with_reducible (have hx : false = false := hbr))))
        | (refine isLg rfl ?_; refine lex_br rfl rfl rfl rfl (fun hbr => ?_) (fun hbr => ?_) <;> (fail_if_success (with_reducible (have hx : true = true := hbr))) <;> (fail_if_success (with_reducible (have hx : false = false := hbr))))
      all_goals first
        | exact fin1 rfl rfl (congrArg B (hno (by simp_all)).symm)
        | (refine ⟨⟨i + 1, hlt, hyes (by simp_all)⟩, by simp only; omega, ?_⟩; exact sub0 [] rfl rfl (by decide) .nil (by repeat' first | exact les_nil | refine les_cons ?_ ?_ | exact le_any | exact le_refl rfl | exact le_sl rfl rfl | exact le_ptr rfl | exact le_i (by assumption) (by omega)))
    · have hge : i = rs.length := by
        have : ¬ ((i : Int) < rs.length) := by simpa using h
        omega
      subst hge
      repeat' first
        | refine aw_seq ?_
        | refine aw_region ?_
        | refine aw_lex [] ?_
        | (refine isA ?_; refine do_F rfl ?_)
        | (refine isL ?_; refine lex_F rfl (by kernel_rfl) rfl rfl ?_)
        | (refine isLg rfl ?_; refine lex_S rfl (by kernel_rfl) rfl rfl ?_)
        | exact fin1 rfl rfl (by rw [avS_yes hb])
        | refine aops_nil ?_
        | refine lex_done _ rfl (by kernel_rfl) ?_
        | refine aw_ct rfl ?_
        | refine aw_cf rfl ?_
        | refine aw_block ?_
        | with_reducible refine then_n ?_
        | refine aw_skip ?_
        | refine aw_exit ?_
        | with_reducible refine then_x ?_
        | with_reducible refine then_r ?_
        | with_reducible refine block_x ?_
        | with_reducible refine block_n ?_
        | with_reducible refine block_r ?_
        | refine aw_ret ?_
theorem c_savS (rs : List Rn) (hok : okRn rs) : Meets Go.Proofs.Try.prog 83 [rnL rs] [] (B (avS rs)) [] false := by
  have hl := hok.1
  refine meets_of [2] Go.Proofs.Try.func83 rfl rfl ?_
  simp only [Go.Proofs.Try.ntmps83, List.length_cons, List.length_nil, Nat.reduceAdd, Nat.reduceSub, List.replicate_succ, List.replicate_zero, List.cons_append, List.nil_append]
  repeat' first
    | refine aw_seq ?_
    | refine aw_region ?_
    | refine aw_lex [] ?_
    | (refine isA ?_; refine do_F rfl ?_)
    | (refine isL ?_; refine lex_F rfl (by kernel_rfl) rfl rfl ?_)
    | (refine isLg rfl ?_; refine lex_S rfl (by kernel_rfl) rfl rfl ?_)
    | refine aops_nil ?_
    | refine lex_done _ rfl (by kernel_rfl) ?_
    | refine aw_ct rfl ?_
    | refine aw_cf rfl ?_
    | refine aw_block ?_
    | with_reducible refine then_n ?_
    | refine aw_skip ?_
    | refine aw_exit ?_
    | with_reducible refine then_x ?_
    | with_reducible refine then_r ?_
    | with_reducible refine block_x ?_
    | with_reducible refine block_n ?_
    | with_reducible refine block_r ?_
    | refine aw_ret ?_
  refine aw_loop (α := { i : Nat // i ≤ rs.length ∧ ∀ j z, j < i → rs[j]? = some z → runB z = true }) (fun i => ⟨[rnL rs, .any, .any, I i.1, .any, .any, .any, .any, .any, .any, .any, .any, .any, .any, .any, .any, .any, .any, .any, .any, .any, .any, .any, .any, .any, .any, .any, .any, .any, .any, .any, .any, .any, .any, .any], [], 0⟩) (fun i => rs.length - i.1) ⟨0, Nat.zero_le _, fun j z h => absurd h (Nat.not_lt_zero j)⟩ ?_ ?_
  · exact sub0 [] rfl rfl (by decide) .nil (by repeat' first | exact les_nil | refine les_cons ?_ ?_ | exact le_any | exact le_refl rfl | exact le_sl rfl rfl | exact le_ptr rfl)
  · rintro ⟨i, hi, hb⟩
    repeat' first
      | refine aw_seq ?_
      | refine aw_region ?_
      | refine aw_lex [] ?_
      | (refine isA ?_; refine do_F rfl ?_)
      | (refine isL ?_; refine lex_F rfl (by kernel_rfl) rfl rfl ?_)
      | (refine isLg rfl ?_; refine lex_S rfl (by kernel_rfl) rfl rfl ?_)
      | refine aops_nil ?_
      | refine lex_done _ rfl (by kernel_rfl) ?_
      | refine aw_ct rfl ?_
      | refine aw_cf rfl ?_
      | refine aw_block ?_
      | with_reducible refine then_n ?_
      | refine aw_skip ?_
      | refine aw_exit ?_
      | with_reducible refine then_x ?_
      | with_reducible refine then_r ?_
      | with_reducible refine block_x ?_
      | with_reducible refine block_n ?_
      | with_reducible refine block_r ?_
      | refine aw_ret ?_
    refine aw_cond rfl (fun h => ?_) (fun h => ?_)
    · have hlt : i < rs.length := by simpa using h
      obtain ⟨z, hz⟩ : ∃ z, rs[i]? = some z := ⟨_, List.getElem?_eq_getElem hlt⟩
      have zl := hok.at hz
      have hno := avS_no hz
      have hyes := step_all hb hz
      rw [runB_e] at hno hyes
      have c1 := c_siso z zl
      have c2 := c_savR z zl
      generalize isoV z = p at hno hyes c1
      generalize avR z = q at hno hyes c2
      repeat' first
        | refine aw_seq ?_
        | refine aw_region ?_
        | refine aw_lex [] ?_
        | (refine isA ?_; refine do_F rfl ?_)
        | (refine isL ?_; refine lex_F rfl (by kernel_rfl) rfl rfl ?_)
        | (refine isLg rfl ?_; refine lex_S rfl (by kernel_rfl) rfl rfl ?_)
        | (refine isAi ?_; refine do_R rfl (ia_l (t := rnT) (z := z) rfl rfl rfl rfl (Int.natCast_nonneg i) hz) rfl ?_)
        | (refine isLi rfl ?_; refine lex_R rfl (by kernel_rfl) rfl (ia_l (t := rnT) (z := z) rfl rfl rfl rfl (Int.natCast_nonneg i) hz) rfl ?_)
        | (refine isAc 84 ?_; refine do_R rfl (st_call rfl c1 (.cons (.same rfl) .nil) rfl) rfl ?_)
        | (refine isLc 84 rfl ?_; refine lex_R rfl (by kernel_rfl) rfl (st_call rfl c1 (.cons (.same rfl) .nil) rfl) rfl ?_)
        | (refine isAc 25 ?_; refine do_R rfl (st_call rfl c2 (.cons (.same rfl) .nil) rfl) rfl ?_)
        | (refine isLc 25 rfl ?_; refine lex_R rfl (by kernel_rfl) rfl (st_call rfl c2 (.cons (.same rfl) .nil) rfl) rfl ?_)
        | refine aops_nil ?_
        | refine lex_done _ rfl (by kernel_rfl) ?_
        | refine aw_ct rfl ?_
        | refine aw_cf rfl ?_
        | refine aw_block ?_
        | with_reducible refine then_n ?_
        | refine aw_skip ?_
        | refine aw_exit ?_
        | with_reducible refine then_x ?_
        | with_reducible refine then_r ?_
        | with_reducible refine block_x ?_
        | with_reducible refine block_n ?_
        | with_reducible refine block_r ?_
        | refine aw_ret ?_
        | refine aw_cond rfl (fun hbr => ?_) (fun hbr => ?_)
        | (refine isAg ?_; refine do_br rfl rfl (fun hbr => ?_) (fun hbr => ?_) <;> (fail_if_success (with_reducible (have hx : true = true := hbr))) <;> (fail_if_success (with_reducible (have hx : false = false := hbr))))
        | (refine isLg rfl ?_; refine lex_br rfl rfl rfl rfl (fun hbr => ?_) (fun hbr => ?_) <;> (fail_if_success (with_reducible (have hx : true = true := hbr))) <;> (fail_if_success (with_reducible (have hx : false = false := hbr))))
      all_goals first
        | exact fin1 rfl rfl (congrArg B (hno (by simp_all)).symm)
        | (refine ⟨⟨i + 1, hlt, hyes (by simp_all)⟩, by simp only; omega, ?_⟩; exact sub0 [] rfl rfl (by decide) .nil (by repeat' first | exact les_nil | refine les_cons ?_ ?_ | exact le_any | exact le_refl rfl | exact le_sl rfl rfl | exact le_ptr rfl | exact le_i (by assumption) (by omega)))
    · have hge : i = rs.length := by
        have : ¬ ((i : Int) < rs.length) := by simpa using h
        omega
      subst hge
      repeat' first
        | refine aw_seq ?_
        | refine aw_region ?_
        | refine aw_lex [] ?_
        | (refine isA ?_; refine do_F rfl ?_)
        | (refine isL ?_; refine lex_F rfl (by kernel_rfl) rfl rfl ?_)
        | (refine isLg rfl ?_; refine lex_S rfl (by kernel_rfl) rfl rfl ?_)
        | exact fin1 rfl rfl (by rw [avS_yes hb])
        | refine aops_nil ?_
        | refine lex_done _ rfl (by kernel_rfl) ?_
        | refine aw_ct rfl ?_
        | refine aw_cf rfl ?_
        | refine aw_block ?_
        | with_reducible refine then_n ?_
        | refine aw_skip ?_
        | refine aw_exit ?_
        | with_reducible refine then_x ?_
        | with_reducible refine then_r ?_
        | with_reducible refine block_x ?_
        | with_reducible refine block_n ?_
        | with_reducible refine block_r ?_
        | refine aw_ret ?_
end Go.Proofs.Ytojcojanokhnaaa.Ab

/- SqC -/
namespace Go.Proofs.Ytojcojanokhnaaa.Ab
open Go.RowKit

/-! ### Memory -/
theorem rc_neg {rs : List Rn} {k : Nat} {p : Int} (h : p < 0) : rcV rs k p = 0 := by unfold rcV; rw [decide_eq_true h, cond_true]
theorem rc_out {rs : List Rn} {k : Nat} {p : Int} (h : rs.length ≤ k) : rcV rs k p = 0 := by
  unfold rcV
  rw [List.getD_eq_getElem?_getD, List.getElem?_eq_none h]
  cases decide (p < 0) <;> rfl
theorem rc_big {rs : List Rn} {k p : Nat} {z : Rn} (hz : rs[k]? = some z) (h : z.length ≤ p) : rcV rs k p = 0 := by
  unfold rcV
  rw [List.getD_eq_getElem?_getD, hz, Option.getD_some, Int.toNat_natCast, List.getElem?_eq_none h]
  cases decide ((p : Int) < 0) <;> rfl
theorem rc_at {rs : List Rn} {k p : Nat} {z : Rn} {x : Rw} (hz : rs[k]? = some z) (hx : z[p]? = some x) : rcV rs k p = costV x := by
  unfold rcV
  rw [List.getD_eq_getElem?_getD, hz, Option.getD_some, Int.toNat_natCast, hx, decide_eq_false (by omega), cond_false]
  show costV x + 0 = costV x
  omega
theorem c_runCost (s : So) (k : Nat) (p : Int) (hok : okRn s.runs) (hk : k ≤ 1) : Meets Go.Proofs.Try.prog 89 [.agg (soE s), I k, I p] [] (I (rcV s.runs k p)) [] false := by
  have hl := hok.1
  rcases Nat.lt_or_ge k s.runs.length with h1 | h1
  · obtain ⟨z, hz⟩ : ∃ z, s.runs[k]? = some z := ⟨_, List.getElem?_eq_getElem h1⟩
    have zl := hok.at hz
    rcases Int.lt_or_le p 0 with h2 | h2
    · have e := rc_neg (rs := s.runs) (k := k) h2
      refine meets_of [6] Go.Proofs.Try.func89 rfl rfl ?_
      simp only [Go.Proofs.Try.ntmps89, List.length_cons, List.length_nil, Nat.reduceAdd, Nat.reduceSub, List.replicate_succ, List.replicate_zero, List.cons_append, List.nil_append]
      repeat' first
        | refine aw_seq ?_
        | refine aw_region ?_
        | refine aw_lex [] ?_
        | (refine isA ?_; refine do_F rfl ?_)
        | (refine isL ?_; refine lex_F rfl (by kernel_rfl) rfl rfl ?_)
        | (refine isLg rfl ?_; refine lex_S rfl (by kernel_rfl) rfl rfl ?_)
        | refine aops_nil ?_
        | refine lex_done _ rfl (by kernel_rfl) ?_
        | refine aw_ct rfl ?_
        | refine aw_cf rfl ?_
        | refine aw_block ?_
        | with_reducible refine then_n ?_
        | refine aw_skip ?_
        | refine aw_exit ?_
        | with_reducible refine then_x ?_
        | with_reducible refine then_r ?_
        | with_reducible refine block_x ?_
        | with_reducible refine block_n ?_
        | with_reducible refine block_r ?_
        | refine aw_ret ?_
      refine do_br rfl rfl (fun h => absurd (of_decide_eq_true h) (by omega)) (fun h => ?_)
      repeat' first
        | refine aw_seq ?_
        | refine aw_region ?_
        | refine aw_lex [] ?_
        | (refine isA ?_; refine do_F rfl ?_)
        | (refine isL ?_; refine lex_F rfl (by kernel_rfl) rfl rfl ?_)
        | (refine isLg rfl ?_; refine lex_S rfl (by kernel_rfl) rfl rfl ?_)
        | refine aops_nil ?_
        | refine lex_done _ rfl (by kernel_rfl) ?_
        | refine aw_ct rfl ?_
        | refine aw_cf rfl ?_
        | refine aw_block ?_
        | with_reducible refine then_n ?_
        | refine aw_skip ?_
        | refine aw_exit ?_
        | with_reducible refine then_x ?_
        | with_reducible refine then_r ?_
        | with_reducible refine block_x ?_
        | with_reducible refine block_n ?_
        | with_reducible refine block_r ?_
        | refine aw_ret ?_
      refine do_br rfl rfl (fun h => ?_) (fun h => absurd h2 (of_decide_eq_false h))
      repeat' first
        | refine aw_seq ?_
        | refine aw_region ?_
        | refine aw_lex [] ?_
        | (refine isA ?_; refine do_F rfl ?_)
        | (refine isL ?_; refine lex_F rfl (by kernel_rfl) rfl rfl ?_)
        | (refine isLg rfl ?_; refine lex_S rfl (by kernel_rfl) rfl rfl ?_)
        | exact fin1 rfl rfl (by rw [e])
        | refine aops_nil ?_
        | refine lex_done _ rfl (by kernel_rfl) ?_
        | refine aw_ct rfl ?_
        | refine aw_cf rfl ?_
        | refine aw_block ?_
        | with_reducible refine then_n ?_
        | refine aw_skip ?_
        | refine aw_exit ?_
        | with_reducible refine then_x ?_
        | with_reducible refine then_r ?_
        | with_reducible refine block_x ?_
        | with_reducible refine block_n ?_
        | with_reducible refine block_r ?_
        | refine aw_ret ?_
    · obtain ⟨q, rfl⟩ := Int.eq_ofNat_of_zero_le h2
      rcases Nat.lt_or_ge q z.length with h3 | h3
      · obtain ⟨x, hx⟩ : ∃ y, z[q]? = some y := ⟨_, List.getElem?_eq_getElem h3⟩
        have e := rc_at hz hx
        refine meets_of [6] Go.Proofs.Try.func89 rfl rfl ?_
        simp only [Go.Proofs.Try.ntmps89, List.length_cons, List.length_nil, Nat.reduceAdd, Nat.reduceSub, List.replicate_succ, List.replicate_zero, List.cons_append, List.nil_append]
        repeat' first
          | refine aw_seq ?_
          | refine aw_region ?_
          | refine aw_lex [] ?_
          | (refine isA ?_; refine do_F rfl ?_)
          | (refine isL ?_; refine lex_F rfl (by kernel_rfl) rfl rfl ?_)
          | (refine isLg rfl ?_; refine lex_S rfl (by kernel_rfl) rfl rfl ?_)
          | refine aops_nil ?_
          | refine lex_done _ rfl (by kernel_rfl) ?_
          | refine aw_ct rfl ?_
          | refine aw_cf rfl ?_
          | refine aw_block ?_
          | with_reducible refine then_n ?_
          | refine aw_skip ?_
          | refine aw_exit ?_
          | with_reducible refine then_x ?_
          | with_reducible refine then_r ?_
          | with_reducible refine block_x ?_
          | with_reducible refine block_n ?_
          | with_reducible refine block_r ?_
          | refine aw_ret ?_
        refine do_br rfl rfl (fun h => absurd (of_decide_eq_true h) (by omega)) (fun h => ?_)
        repeat' first
          | refine aw_seq ?_
          | refine aw_region ?_
          | refine aw_lex [] ?_
          | (refine isA ?_; refine do_F rfl ?_)
          | (refine isL ?_; refine lex_F rfl (by kernel_rfl) rfl rfl ?_)
          | (refine isLg rfl ?_; refine lex_S rfl (by kernel_rfl) rfl rfl ?_)
          | refine aops_nil ?_
          | refine lex_done _ rfl (by kernel_rfl) ?_
          | refine aw_ct rfl ?_
          | refine aw_cf rfl ?_
          | refine aw_block ?_
          | with_reducible refine then_n ?_
          | refine aw_skip ?_
          | refine aw_exit ?_
          | with_reducible refine then_x ?_
          | with_reducible refine then_r ?_
          | with_reducible refine block_x ?_
          | with_reducible refine block_n ?_
          | with_reducible refine block_r ?_
          | refine aw_ret ?_
        refine do_br rfl rfl (fun h => absurd (of_decide_eq_true h) (by omega)) (fun h => ?_)
        repeat' first
          | refine aw_seq ?_
          | refine aw_region ?_
          | refine aw_lex [] ?_
          | (refine isA ?_; refine do_F rfl ?_)
          | (refine isL ?_; refine lex_F rfl (by kernel_rfl) rfl rfl ?_)
          | (refine isLg rfl ?_; refine lex_S rfl (by kernel_rfl) rfl rfl ?_)
          | (refine isAi (x := .tmp 19) ?_; refine do_R rfl (ia_l (t := rnT) (z := z) rfl rfl rfl rfl (Int.natCast_nonneg k) hz) rfl ?_)
          | (refine isLi (x := .tmp 19) rfl ?_; refine lex_R rfl (by kernel_rfl) rfl (ia_l (t := rnT) (z := z) rfl rfl rfl rfl (Int.natCast_nonneg k) hz) rfl ?_)
          | (refine isAi (x := .tmp 28) ?_; refine do_R rfl (ia_l (t := rnT) (z := z) rfl rfl rfl rfl (Int.natCast_nonneg k) hz) rfl ?_)
          | (refine isLi (x := .tmp 28) rfl ?_; refine lex_R rfl (by kernel_rfl) rfl (ia_l (t := rnT) (z := z) rfl rfl rfl rfl (Int.natCast_nonneg k) hz) rfl ?_)
          | (refine isAi (x := .tmp 32) ?_; refine do_R rfl (ia_l (t := rwT) (z := x) rfl rfl rfl rfl (Int.natCast_nonneg q) hx) rfl ?_)
          | (refine isLi (x := .tmp 32) rfl ?_; refine lex_R rfl (by kernel_rfl) rfl (ia_l (t := rwT) (z := x) rfl rfl rfl rfl (Int.natCast_nonneg q) hx) rfl ?_)
          | (refine isAc 58 ?_; refine do_R rfl (st_call rfl (c_irc x) (.cons (.same rfl) .nil) rfl) rfl ?_)
          | (refine isLc 58 rfl ?_; refine lex_R rfl (by kernel_rfl) rfl (st_call rfl (c_irc x) (.cons (.same rfl) .nil) rfl) rfl ?_)
          | refine aops_nil ?_
          | refine lex_done _ rfl (by kernel_rfl) ?_
          | refine aw_ct rfl ?_
          | refine aw_cf rfl ?_
          | refine aw_block ?_
          | with_reducible refine then_n ?_
          | refine aw_skip ?_
          | refine aw_exit ?_
          | with_reducible refine then_x ?_
          | with_reducible refine then_r ?_
          | with_reducible refine block_x ?_
          | with_reducible refine block_n ?_
          | with_reducible refine block_r ?_
          | refine aw_ret ?_
        refine aw_cond rfl (fun h => absurd (of_decide_eq_true h) (by omega)) (fun h => ?_)
        repeat' first
          | refine aw_seq ?_
          | refine aw_region ?_
          | refine aw_lex [] ?_
          | (refine isA ?_; refine do_F rfl ?_)
          | (refine isL ?_; refine lex_F rfl (by kernel_rfl) rfl rfl ?_)
          | (refine isLg rfl ?_; refine lex_S rfl (by kernel_rfl) rfl rfl ?_)
          | (refine isAi (x := .tmp 19) ?_; refine do_R rfl (ia_l (t := rnT) (z := z) rfl rfl rfl rfl (Int.natCast_nonneg k) hz) rfl ?_)
          | (refine isLi (x := .tmp 19) rfl ?_; refine lex_R rfl (by kernel_rfl) rfl (ia_l (t := rnT) (z := z) rfl rfl rfl rfl (Int.natCast_nonneg k) hz) rfl ?_)
          | (refine isAi (x := .tmp 28) ?_; refine do_R rfl (ia_l (t := rnT) (z := z) rfl rfl rfl rfl (Int.natCast_nonneg k) hz) rfl ?_)
          | (refine isLi (x := .tmp 28) rfl ?_; refine lex_R rfl (by kernel_rfl) rfl (ia_l (t := rnT) (z := z) rfl rfl rfl rfl (Int.natCast_nonneg k) hz) rfl ?_)
          | (refine isAi (x := .tmp 32) ?_; refine do_R rfl (ia_l (t := rwT) (z := x) rfl rfl rfl rfl (Int.natCast_nonneg q) hx) rfl ?_)
          | (refine isLi (x := .tmp 32) rfl ?_; refine lex_R rfl (by kernel_rfl) rfl (ia_l (t := rwT) (z := x) rfl rfl rfl rfl (Int.natCast_nonneg q) hx) rfl ?_)
          | (refine isAc 58 ?_; refine do_R rfl (st_call rfl (c_irc x) (.cons (.same rfl) .nil) rfl) rfl ?_)
          | (refine isLc 58 rfl ?_; refine lex_R rfl (by kernel_rfl) rfl (st_call rfl (c_irc x) (.cons (.same rfl) .nil) rfl) rfl ?_)
          | exact fin1 rfl rfl (by rw [e])
          | refine aops_nil ?_
          | refine lex_done _ rfl (by kernel_rfl) ?_
          | refine aw_ct rfl ?_
          | refine aw_cf rfl ?_
          | refine aw_block ?_
          | with_reducible refine then_n ?_
          | refine aw_skip ?_
          | refine aw_exit ?_
          | with_reducible refine then_x ?_
          | with_reducible refine then_r ?_
          | with_reducible refine block_x ?_
          | with_reducible refine block_n ?_
          | with_reducible refine block_r ?_
          | refine aw_ret ?_
      · have e := rc_big hz h3
        refine meets_of [6] Go.Proofs.Try.func89 rfl rfl ?_
        simp only [Go.Proofs.Try.ntmps89, List.length_cons, List.length_nil, Nat.reduceAdd, Nat.reduceSub, List.replicate_succ, List.replicate_zero, List.cons_append, List.nil_append]
        repeat' first
          | refine aw_seq ?_
          | refine aw_region ?_
          | refine aw_lex [] ?_
          | (refine isA ?_; refine do_F rfl ?_)
          | (refine isL ?_; refine lex_F rfl (by kernel_rfl) rfl rfl ?_)
          | (refine isLg rfl ?_; refine lex_S rfl (by kernel_rfl) rfl rfl ?_)
          | refine aops_nil ?_
          | refine lex_done _ rfl (by kernel_rfl) ?_
          | refine aw_ct rfl ?_
          | refine aw_cf rfl ?_
          | refine aw_block ?_
          | with_reducible refine then_n ?_
          | refine aw_skip ?_
          | refine aw_exit ?_
          | with_reducible refine then_x ?_
          | with_reducible refine then_r ?_
          | with_reducible refine block_x ?_
          | with_reducible refine block_n ?_
          | with_reducible refine block_r ?_
          | refine aw_ret ?_
        refine do_br rfl rfl (fun h => absurd (of_decide_eq_true h) (by omega)) (fun h => ?_)
        repeat' first
          | refine aw_seq ?_
          | refine aw_region ?_
          | refine aw_lex [] ?_
          | (refine isA ?_; refine do_F rfl ?_)
          | (refine isL ?_; refine lex_F rfl (by kernel_rfl) rfl rfl ?_)
          | (refine isLg rfl ?_; refine lex_S rfl (by kernel_rfl) rfl rfl ?_)
          | refine aops_nil ?_
          | refine lex_done _ rfl (by kernel_rfl) ?_
          | refine aw_ct rfl ?_
          | refine aw_cf rfl ?_
          | refine aw_block ?_
          | with_reducible refine then_n ?_
          | refine aw_skip ?_
          | refine aw_exit ?_
          | with_reducible refine then_x ?_
          | with_reducible refine then_r ?_
          | with_reducible refine block_x ?_
          | with_reducible refine block_n ?_
          | with_reducible refine block_r ?_
          | refine aw_ret ?_
        refine do_br rfl rfl (fun h => absurd (of_decide_eq_true h) (by omega)) (fun h => ?_)
        repeat' first
          | refine aw_seq ?_
          | refine aw_region ?_
          | refine aw_lex [] ?_
          | (refine isA ?_; refine do_F rfl ?_)
          | (refine isL ?_; refine lex_F rfl (by kernel_rfl) rfl rfl ?_)
          | (refine isLg rfl ?_; refine lex_S rfl (by kernel_rfl) rfl rfl ?_)
          | (refine isAi (x := .tmp 19) ?_; refine do_R rfl (ia_l (t := rnT) (z := z) rfl rfl rfl rfl (Int.natCast_nonneg k) hz) rfl ?_)
          | (refine isLi (x := .tmp 19) rfl ?_; refine lex_R rfl (by kernel_rfl) rfl (ia_l (t := rnT) (z := z) rfl rfl rfl rfl (Int.natCast_nonneg k) hz) rfl ?_)
          | refine aops_nil ?_
          | refine lex_done _ rfl (by kernel_rfl) ?_
          | refine aw_ct rfl ?_
          | refine aw_cf rfl ?_
          | refine aw_block ?_
          | with_reducible refine then_n ?_
          | refine aw_skip ?_
          | refine aw_exit ?_
          | with_reducible refine then_x ?_
          | with_reducible refine then_r ?_
          | with_reducible refine block_x ?_
          | with_reducible refine block_n ?_
          | with_reducible refine block_r ?_
          | refine aw_ret ?_
        refine aw_cond rfl (fun h => ?_) (fun h => absurd (of_decide_eq_false h) (by omega))
        repeat' first
          | refine aw_seq ?_
          | refine aw_region ?_
          | refine aw_lex [] ?_
          | (refine isA ?_; refine do_F rfl ?_)
          | (refine isL ?_; refine lex_F rfl (by kernel_rfl) rfl rfl ?_)
          | (refine isLg rfl ?_; refine lex_S rfl (by kernel_rfl) rfl rfl ?_)
          | exact fin1 rfl rfl (by rw [e])
          | refine aops_nil ?_
          | refine lex_done _ rfl (by kernel_rfl) ?_
          | refine aw_ct rfl ?_
          | refine aw_cf rfl ?_
          | refine aw_block ?_
          | with_reducible refine then_n ?_
          | refine aw_skip ?_
          | refine aw_exit ?_
          | with_reducible refine then_x ?_
          | with_reducible refine then_r ?_
          | with_reducible refine block_x ?_
          | with_reducible refine block_n ?_
          | with_reducible refine block_r ?_
          | refine aw_ret ?_
  · have e := rc_out (p := p) h1
    refine meets_of [6] Go.Proofs.Try.func89 rfl rfl ?_
    simp only [Go.Proofs.Try.ntmps89, List.length_cons, List.length_nil, Nat.reduceAdd, Nat.reduceSub, List.replicate_succ, List.replicate_zero, List.cons_append, List.nil_append]
    repeat' first
      | refine aw_seq ?_
      | refine aw_region ?_
      | refine aw_lex [] ?_
      | (refine isA ?_; refine do_F rfl ?_)
      | (refine isL ?_; refine lex_F rfl (by kernel_rfl) rfl rfl ?_)
      | (refine isLg rfl ?_; refine lex_S rfl (by kernel_rfl) rfl rfl ?_)
      | refine aops_nil ?_
      | refine lex_done _ rfl (by kernel_rfl) ?_
      | refine aw_ct rfl ?_
      | refine aw_cf rfl ?_
      | refine aw_block ?_
      | with_reducible refine then_n ?_
      | refine aw_skip ?_
      | refine aw_exit ?_
      | with_reducible refine then_x ?_
      | with_reducible refine then_r ?_
      | with_reducible refine block_x ?_
      | with_reducible refine block_n ?_
      | with_reducible refine block_r ?_
      | refine aw_ret ?_
    refine do_br rfl rfl (fun h => ?_) (fun h => absurd (of_decide_eq_false h) (by omega))
    repeat' first
      | refine aw_seq ?_
      | refine aw_region ?_
      | refine aw_lex [] ?_
      | (refine isA ?_; refine do_F rfl ?_)
      | (refine isL ?_; refine lex_F rfl (by kernel_rfl) rfl rfl ?_)
      | (refine isLg rfl ?_; refine lex_S rfl (by kernel_rfl) rfl rfl ?_)
      | exact fin1 rfl rfl (by rw [e])
      | refine aops_nil ?_
      | refine lex_done _ rfl (by kernel_rfl) ?_
      | refine aw_ct rfl ?_
      | refine aw_cf rfl ?_
      | refine aw_block ?_
      | with_reducible refine then_n ?_
      | refine aw_skip ?_
      | refine aw_exit ?_
      | with_reducible refine then_x ?_
      | with_reducible refine then_r ?_
      | with_reducible refine block_x ?_
      | with_reducible refine block_n ?_
      | with_reducible refine block_r ?_
      | refine aw_ret ?_
def rowV (rs : List Rn) (k p : Nat) : List Rw := ((rs.getD k [])[p]?).toList
theorem row_len (rs : List Rn) (k p : Nat) : (rowV rs k p).length ≤ 1 := by
  unfold rowV; cases (rs.getD k [])[p]? <;> simp
theorem rc_row (rs : List Rn) (k p : Nat) : rcV rs k p = totV (rowV rs k p) := by
  unfold rcV rowV
  rw [decide_eq_false (by omega), cond_false, Int.toNat_natCast]
theorem c_l13Row (rs : List Rn) (k p : Nat) (hok : okRn rs) (hk : k ≤ 1) : Meets Go.Proofs.Try.prog 71 [rnL rs, I k, I p] [] (rwL (rowV rs k p)) [] true := by
  have hl := hok.1
  rcases Nat.lt_or_ge k rs.length with h1 | h1
  · obtain ⟨z, hz⟩ : ∃ z, rs[k]? = some z := ⟨_, List.getElem?_eq_getElem h1⟩
    have zl := hok.at hz
    rcases Nat.lt_or_ge p z.length with h3 | h3
    · obtain ⟨x, hx⟩ : ∃ y, z[p]? = some y := ⟨_, List.getElem?_eq_getElem h3⟩
      have e : rowV rs k p = [x] := by unfold rowV; rw [List.getD_eq_getElem?_getD, hz, Option.getD_some, hx]; rfl
      rw [e]
      refine meets_of [6] Go.Proofs.Try.func71 rfl rfl ?_
      simp only [Go.Proofs.Try.ntmps71, List.length_cons, List.length_nil, Nat.reduceAdd, Nat.reduceSub, List.replicate_succ, List.replicate_zero, List.cons_append, List.nil_append]
      repeat' first
        | refine aw_seq ?_
        | refine aw_region ?_
        | refine aw_lex [] ?_
        | (refine isA ?_; refine do_F rfl ?_)
        | (refine isL ?_; refine lex_F rfl (by kernel_rfl) rfl rfl ?_)
        | (refine isLg rfl ?_; refine lex_S rfl (by kernel_rfl) rfl rfl ?_)
        | refine aops_nil ?_
        | refine lex_done _ rfl (by kernel_rfl) ?_
        | refine aw_ct rfl ?_
        | refine aw_cf rfl ?_
        | refine aw_block ?_
        | with_reducible refine then_n ?_
        | refine aw_skip ?_
        | refine aw_exit ?_
        | with_reducible refine then_x ?_
        | with_reducible refine then_r ?_
        | with_reducible refine block_x ?_
        | with_reducible refine block_n ?_
        | with_reducible refine block_r ?_
        | refine aw_ret ?_
      refine do_br rfl rfl (fun h => ?_) (fun h => absurd (of_decide_eq_false h) (by omega))
      repeat' first
        | refine aw_seq ?_
        | refine aw_region ?_
        | refine aw_lex [] ?_
        | (refine isA ?_; refine do_F rfl ?_)
        | (refine isL ?_; refine lex_F rfl (by kernel_rfl) rfl rfl ?_)
        | (refine isLg rfl ?_; refine lex_S rfl (by kernel_rfl) rfl rfl ?_)
        | (refine isAi (x := .tmp 13) ?_; refine do_R rfl (ia_l (t := rnT) (z := z) rfl rfl rfl rfl (Int.natCast_nonneg k) hz) rfl ?_)
        | (refine isLi (x := .tmp 13) rfl ?_; refine lex_R rfl (by kernel_rfl) rfl (ia_l (t := rnT) (z := z) rfl rfl rfl rfl (Int.natCast_nonneg k) hz) rfl ?_)
        | refine aops_nil ?_
        | refine lex_done _ rfl (by kernel_rfl) ?_
        | refine aw_ct rfl ?_
        | refine aw_cf rfl ?_
        | refine aw_block ?_
        | with_reducible refine then_n ?_
        | refine aw_skip ?_
        | refine aw_exit ?_
        | with_reducible refine then_x ?_
        | with_reducible refine then_r ?_
        | with_reducible refine block_x ?_
        | with_reducible refine block_n ?_
        | with_reducible refine block_r ?_
        | refine aw_ret ?_
      refine aw_cond rfl (fun h => ?_) (fun h => absurd (of_decide_eq_false h) (by omega))
      repeat' first
        | (refine isA ?_; refine do_R rfl (lit_of rfl rfl rfl rfl rfl) rfl ?_)
        | refine aw_seq ?_
        | refine aw_region ?_
        | refine aw_lex [] ?_
        | (refine isA ?_; refine do_F rfl ?_)
        | (refine isL ?_; refine lex_F rfl (by kernel_rfl) rfl rfl ?_)
        | (refine isLg rfl ?_; refine lex_S rfl (by kernel_rfl) rfl rfl ?_)
        | (refine isAi (x := .tmp 21) ?_; refine do_R rfl (ia_l (t := rnT) (z := z) rfl rfl rfl rfl (Int.natCast_nonneg k) hz) rfl ?_)
        | (refine isLi (x := .tmp 21) rfl ?_; refine lex_R rfl (by kernel_rfl) rfl (ia_l (t := rnT) (z := z) rfl rfl rfl rfl (Int.natCast_nonneg k) hz) rfl ?_)
        | (refine isAi (x := .tmp 25) ?_; refine do_R rfl (ia_l (t := rwT) (z := x) rfl rfl rfl rfl (Int.natCast_nonneg p) hx) rfl ?_)
        | (refine isLi (x := .tmp 25) rfl ?_; refine lex_R rfl (by kernel_rfl) rfl (ia_l (t := rwT) (z := x) rfl rfl rfl rfl (Int.natCast_nonneg p) hx) rfl ?_)
        | exact finP rfl (.same rfl)
        | refine aops_nil ?_
        | refine lex_done _ rfl (by kernel_rfl) ?_
        | refine aw_ct rfl ?_
        | refine aw_cf rfl ?_
        | refine aw_block ?_
        | with_reducible refine then_n ?_
        | refine aw_skip ?_
        | refine aw_exit ?_
        | with_reducible refine then_x ?_
        | with_reducible refine then_r ?_
        | with_reducible refine block_x ?_
        | with_reducible refine block_n ?_
        | with_reducible refine block_r ?_
        | refine aw_ret ?_
    · have e : rowV rs k p = [] := by unfold rowV; rw [List.getD_eq_getElem?_getD, hz, Option.getD_some, List.getElem?_eq_none h3]; rfl
      rw [e]
      refine meets_of [6] Go.Proofs.Try.func71 rfl rfl ?_
      simp only [Go.Proofs.Try.ntmps71, List.length_cons, List.length_nil, Nat.reduceAdd, Nat.reduceSub, List.replicate_succ, List.replicate_zero, List.cons_append, List.nil_append]
      repeat' first
        | refine aw_seq ?_
        | refine aw_region ?_
        | refine aw_lex [] ?_
        | (refine isA ?_; refine do_F rfl ?_)
        | (refine isL ?_; refine lex_F rfl (by kernel_rfl) rfl rfl ?_)
        | (refine isLg rfl ?_; refine lex_S rfl (by kernel_rfl) rfl rfl ?_)
        | refine aops_nil ?_
        | refine lex_done _ rfl (by kernel_rfl) ?_
        | refine aw_ct rfl ?_
        | refine aw_cf rfl ?_
        | refine aw_block ?_
        | with_reducible refine then_n ?_
        | refine aw_skip ?_
        | refine aw_exit ?_
        | with_reducible refine then_x ?_
        | with_reducible refine then_r ?_
        | with_reducible refine block_x ?_
        | with_reducible refine block_n ?_
        | with_reducible refine block_r ?_
        | refine aw_ret ?_
      refine do_br rfl rfl (fun h => ?_) (fun h => absurd (of_decide_eq_false h) (by omega))
      repeat' first
        | refine aw_seq ?_
        | refine aw_region ?_
        | refine aw_lex [] ?_
        | (refine isA ?_; refine do_F rfl ?_)
        | (refine isL ?_; refine lex_F rfl (by kernel_rfl) rfl rfl ?_)
        | (refine isLg rfl ?_; refine lex_S rfl (by kernel_rfl) rfl rfl ?_)
        | (refine isAi (x := .tmp 13) ?_; refine do_R rfl (ia_l (t := rnT) (z := z) rfl rfl rfl rfl (Int.natCast_nonneg k) hz) rfl ?_)
        | (refine isLi (x := .tmp 13) rfl ?_; refine lex_R rfl (by kernel_rfl) rfl (ia_l (t := rnT) (z := z) rfl rfl rfl rfl (Int.natCast_nonneg k) hz) rfl ?_)
        | refine aops_nil ?_
        | refine lex_done _ rfl (by kernel_rfl) ?_
        | refine aw_ct rfl ?_
        | refine aw_cf rfl ?_
        | refine aw_block ?_
        | with_reducible refine then_n ?_
        | refine aw_skip ?_
        | refine aw_exit ?_
        | with_reducible refine then_x ?_
        | with_reducible refine then_r ?_
        | with_reducible refine block_x ?_
        | with_reducible refine block_n ?_
        | with_reducible refine block_r ?_
        | refine aw_ret ?_
      refine aw_cond rfl (fun h => absurd (of_decide_eq_true h) (by omega)) (fun h => ?_)
      repeat' first
        | (refine isA ?_; refine do_R rfl (lit_of rfl rfl rfl rfl rfl) rfl ?_)
        | refine aw_seq ?_
        | refine aw_region ?_
        | refine aw_lex [] ?_
        | (refine isA ?_; refine do_F rfl ?_)
        | (refine isL ?_; refine lex_F rfl (by kernel_rfl) rfl rfl ?_)
        | (refine isLg rfl ?_; refine lex_S rfl (by kernel_rfl) rfl rfl ?_)
        | exact finP rfl (.same rfl)
        | refine aops_nil ?_
        | refine lex_done _ rfl (by kernel_rfl) ?_
        | refine aw_ct rfl ?_
        | refine aw_cf rfl ?_
        | refine aw_block ?_
        | with_reducible refine then_n ?_
        | refine aw_skip ?_
        | refine aw_exit ?_
        | with_reducible refine then_x ?_
        | with_reducible refine then_r ?_
        | with_reducible refine block_x ?_
        | with_reducible refine block_n ?_
        | with_reducible refine block_r ?_
        | refine aw_ret ?_
  · have e : rowV rs k p = [] := by unfold rowV; rw [List.getD_eq_getElem?_getD, List.getElem?_eq_none h1]; rfl
    rw [e]
    refine meets_of [6] Go.Proofs.Try.func71 rfl rfl ?_
    simp only [Go.Proofs.Try.ntmps71, List.length_cons, List.length_nil, Nat.reduceAdd, Nat.reduceSub, List.replicate_succ, List.replicate_zero, List.cons_append, List.nil_append]
    repeat' first
      | refine aw_seq ?_
      | refine aw_region ?_
      | refine aw_lex [] ?_
      | (refine isA ?_; refine do_F rfl ?_)
      | (refine isL ?_; refine lex_F rfl (by kernel_rfl) rfl rfl ?_)
      | (refine isLg rfl ?_; refine lex_S rfl (by kernel_rfl) rfl rfl ?_)
      | refine aops_nil ?_
      | refine lex_done _ rfl (by kernel_rfl) ?_
      | refine aw_ct rfl ?_
      | refine aw_cf rfl ?_
      | refine aw_block ?_
      | with_reducible refine then_n ?_
      | refine aw_skip ?_
      | refine aw_exit ?_
      | with_reducible refine then_x ?_
      | with_reducible refine then_r ?_
      | with_reducible refine block_x ?_
      | with_reducible refine block_n ?_
      | with_reducible refine block_r ?_
      | refine aw_ret ?_
    refine do_br rfl rfl (fun h => absurd (of_decide_eq_true h) (by omega)) (fun h => ?_)
    repeat' first
      | (refine isA ?_; refine do_R rfl (lit_of rfl rfl rfl rfl rfl) rfl ?_)
      | refine aw_seq ?_
      | refine aw_region ?_
      | refine aw_lex [] ?_
      | (refine isA ?_; refine do_F rfl ?_)
      | (refine isL ?_; refine lex_F rfl (by kernel_rfl) rfl rfl ?_)
      | (refine isLg rfl ?_; refine lex_S rfl (by kernel_rfl) rfl rfl ?_)
      | exact finP rfl (.same rfl)
      | refine aops_nil ?_
      | refine lex_done _ rfl (by kernel_rfl) ?_
      | refine aw_ct rfl ?_
      | refine aw_cf rfl ?_
      | refine aw_block ?_
      | with_reducible refine then_n ?_
      | refine aw_skip ?_
      | refine aw_exit ?_
      | with_reducible refine then_x ?_
      | with_reducible refine then_r ?_
      | with_reducible refine block_x ?_
      | with_reducible refine block_n ?_
      | with_reducible refine block_r ?_
      | refine aw_ret ?_

theorem mem_2 {s : So} (h : s.ph = 2) : memV s = cond (decide (s.lp < 0) || decide (s.rp < 0)) 0 (rcV s.runs 0 s.lp + rcV s.runs 1 s.rp) := by
  unfold memV; rw [decide_eq_false (by rw [h]; decide), cond_false, decide_eq_true h, cond_true]
theorem mem_3 {s : So} (h : s.ph = 3) : memV s = rcV s.runs 0 s.lp := by
  unfold memV; rw [decide_eq_false (by rw [h]; decide), cond_false, decide_eq_false (by rw [h]; decide), cond_false, decide_eq_true h, cond_true]
theorem mem_0 {s : So} (h1 : s.ph ≠ 1) (h2 : s.ph ≠ 2) (h3 : s.ph ≠ 3) : memV s = 0 := by
  unfold memV; rw [decide_eq_false h1, cond_false, decide_eq_false h2, cond_false, decide_eq_false h3, cond_false]
theorem wrap_sum {a b : Int} (h : 0 ≤ a ∧ a ≤ 4000000000) (k : 0 ≤ b ∧ b ≤ 4000000000) : IntKind.i64.wrap (a + b) = a + b := by rw [IntKind.wrap_i64]; omega
theorem c_imem (s : So) (hok : okSo s) : Meets Go.Proofs.Try.prog 19 [.agg (soE s)] [] (I (memV s)) [] false := by
  have g2 := hok.heap
  have g3 := hok.dfr
  have t2 := tot_b s.heap
  have t3 := tot_b s.dfr
  have r0 := rc_b s.runs 0 s.lp
  have r1 := rc_b s.runs 1 s.rp
  have c0 := c_runCost s 0 s.lp hok.rn (by omega)
  have c1 := c_runCost s 1 s.rp hok.rn (by omega)
  refine meets_of [2] Go.Proofs.Try.func19 rfl rfl ?_
  simp only [Go.Proofs.Try.ntmps19, List.length_cons, List.length_nil, Nat.reduceAdd, Nat.reduceSub, List.replicate_succ, List.replicate_zero, List.cons_append, List.nil_append]
  repeat' first
    | refine aw_seq ?_
    | refine aw_region ?_
    | refine aw_lex [] ?_
    | (refine isA ?_; refine do_F rfl ?_)
    | (refine isL ?_; refine lex_F rfl (by kernel_rfl) rfl rfl ?_)
    | (refine isLg rfl ?_; refine lex_S rfl (by kernel_rfl) rfl rfl ?_)
    | refine aops_nil ?_
    | refine lex_done _ rfl (by kernel_rfl) ?_
    | refine aw_ct rfl ?_
    | refine aw_cf rfl ?_
    | refine aw_block ?_
    | with_reducible refine then_n ?_
    | refine aw_skip ?_
    | refine aw_exit ?_
    | with_reducible refine then_x ?_
    | with_reducible refine then_r ?_
    | with_reducible refine block_x ?_
    | with_reducible refine block_n ?_
    | with_reducible refine block_r ?_
    | refine aw_ret ?_
  refine aw_cond rfl (fun h => ?_) (fun h => ?_)
  · have e := mem_r (of_decide_eq_true h)
    repeat' first
      | refine aw_seq ?_
      | refine aw_region ?_
      | refine aw_lex [] ?_
      | (refine isA ?_; refine do_F rfl ?_)
      | (refine isL ?_; refine lex_F rfl (by kernel_rfl) rfl rfl ?_)
      | (refine isLg rfl ?_; refine lex_S rfl (by kernel_rfl) rfl rfl ?_)
      | (refine isAc 88 (x := #[.tmp 8]) ?_; refine do_R rfl (st_call rfl (c_itot s.heap (by omega)) (.cons (.same rfl) .nil) rfl) rfl ?_)
      | (refine isLc 88 (x := #[.tmp 8]) rfl ?_; refine lex_R rfl (by kernel_rfl) rfl (st_call rfl (c_itot s.heap (by omega)) (.cons (.same rfl) .nil) rfl) rfl ?_)
      | (refine isAc 88 (x := #[.tmp 11]) ?_; refine do_R rfl (st_call rfl (c_itot s.dfr (by omega)) (.cons (.same rfl) .nil) rfl) rfl ?_)
      | (refine isLc 88 (x := #[.tmp 11]) rfl ?_; refine lex_R rfl (by kernel_rfl) rfl (st_call rfl (c_itot s.dfr (by omega)) (.cons (.same rfl) .nil) rfl) rfl ?_)
      | exact fin1 rfl rfl (by rw [e, wrap_sum (by omega) (by omega)])
      | refine aops_nil ?_
      | refine lex_done _ rfl (by kernel_rfl) ?_
      | refine aw_ct rfl ?_
      | refine aw_cf rfl ?_
      | refine aw_block ?_
      | with_reducible refine then_n ?_
      | refine aw_skip ?_
      | refine aw_exit ?_
      | with_reducible refine then_x ?_
      | with_reducible refine then_r ?_
      | with_reducible refine block_x ?_
      | with_reducible refine block_n ?_
      | with_reducible refine block_r ?_
      | refine aw_ret ?_
  have h1 := of_decide_eq_false h
  repeat' first
    | refine aw_seq ?_
    | refine aw_region ?_
    | refine aw_lex [] ?_
    | (refine isA ?_; refine do_F rfl ?_)
    | (refine isL ?_; refine lex_F rfl (by kernel_rfl) rfl rfl ?_)
    | (refine isLg rfl ?_; refine lex_S rfl (by kernel_rfl) rfl rfl ?_)
    | refine aops_nil ?_
    | refine lex_done _ rfl (by kernel_rfl) ?_
    | refine aw_ct rfl ?_
    | refine aw_cf rfl ?_
    | refine aw_block ?_
    | with_reducible refine then_n ?_
    | refine aw_skip ?_
    | refine aw_exit ?_
    | with_reducible refine then_x ?_
    | with_reducible refine then_r ?_
    | with_reducible refine block_x ?_
    | with_reducible refine block_n ?_
    | with_reducible refine block_r ?_
    | refine aw_ret ?_
  refine aw_cond rfl (fun h => ?_) (fun h => ?_)
  · have e := mem_2 (of_decide_eq_true h)
    repeat' first
      | refine aw_seq ?_
      | refine aw_region ?_
      | refine aw_lex [] ?_
      | (refine isA ?_; refine do_F rfl ?_)
      | (refine isL ?_; refine lex_F rfl (by kernel_rfl) rfl rfl ?_)
      | (refine isLg rfl ?_; refine lex_S rfl (by kernel_rfl) rfl rfl ?_)
      | (refine isAc 89 ?_; refine do_R rfl (st_call rfl c0 (.cons (.same rfl) (.cons (.same rfl) (.cons (.same rfl) .nil))) rfl) rfl ?_)
      | (refine isLc 89 rfl ?_; refine lex_R rfl (by kernel_rfl) rfl (st_call rfl c0 (.cons (.same rfl) (.cons (.same rfl) (.cons (.same rfl) .nil))) rfl) rfl ?_)
      | (refine isAc 89 ?_; refine do_R rfl (st_call rfl c1 (.cons (.same rfl) (.cons (.same rfl) (.cons (.same rfl) .nil))) rfl) rfl ?_)
      | (refine isLc 89 rfl ?_; refine lex_R rfl (by kernel_rfl) rfl (st_call rfl c1 (.cons (.same rfl) (.cons (.same rfl) (.cons (.same rfl) .nil))) rfl) rfl ?_)
      | refine aops_nil ?_
      | refine lex_done _ rfl (by kernel_rfl) ?_
      | refine aw_ct rfl ?_
      | refine aw_cf rfl ?_
      | refine aw_block ?_
      | with_reducible refine then_n ?_
      | refine aw_skip ?_
      | refine aw_exit ?_
      | with_reducible refine then_x ?_
      | with_reducible refine then_r ?_
      | with_reducible refine block_x ?_
      | with_reducible refine block_n ?_
      | with_reducible refine block_r ?_
      | refine aw_ret ?_
      | refine aw_cond rfl (fun hbr => ?_) (fun hbr => ?_)
      | (refine isAg ?_; refine do_br rfl rfl (fun hbr => ?_) (fun hbr => ?_) <;> (fail_if_success (with_reducible (have hx : true = true := hbr))) <;> (fail_if_success (with_reducible (have hx : false = false := hbr))))
      | (refine isLg rfl ?_; refine lex_br rfl rfl rfl rfl (fun hbr => ?_) (fun hbr => ?_) <;> (fail_if_success (with_reducible (have hx : true = true := hbr))) <;> (fail_if_success (with_reducible (have hx : false = false := hbr))))
    all_goals exact fin1 rfl rfl (by simp_all; try exact wrap_sum (by omega) (by omega))
  have h2 := of_decide_eq_false h
  repeat' first
    | refine aw_seq ?_
    | refine aw_region ?_
    | refine aw_lex [] ?_
    | (refine isA ?_; refine do_F rfl ?_)
    | (refine isL ?_; refine lex_F rfl (by kernel_rfl) rfl rfl ?_)
    | (refine isLg rfl ?_; refine lex_S rfl (by kernel_rfl) rfl rfl ?_)
    | refine aops_nil ?_
    | refine lex_done _ rfl (by kernel_rfl) ?_
    | refine aw_ct rfl ?_
    | refine aw_cf rfl ?_
    | refine aw_block ?_
    | with_reducible refine then_n ?_
    | refine aw_skip ?_
    | refine aw_exit ?_
    | with_reducible refine then_x ?_
    | with_reducible refine then_r ?_
    | with_reducible refine block_x ?_
    | with_reducible refine block_n ?_
    | with_reducible refine block_r ?_
    | refine aw_ret ?_
  refine aw_cond rfl (fun h => ?_) (fun h => ?_)
  · have e := mem_3 (of_decide_eq_true h)
    repeat' first
      | refine aw_seq ?_
      | refine aw_region ?_
      | refine aw_lex [] ?_
      | (refine isA ?_; refine do_F rfl ?_)
      | (refine isL ?_; refine lex_F rfl (by kernel_rfl) rfl rfl ?_)
      | (refine isLg rfl ?_; refine lex_S rfl (by kernel_rfl) rfl rfl ?_)
      | (refine isAc 89 ?_; refine do_R rfl (st_call rfl c0 (.cons (.same rfl) (.cons (.same rfl) (.cons (.same rfl) .nil))) rfl) rfl ?_)
      | (refine isLc 89 rfl ?_; refine lex_R rfl (by kernel_rfl) rfl (st_call rfl c0 (.cons (.same rfl) (.cons (.same rfl) (.cons (.same rfl) .nil))) rfl) rfl ?_)
      | exact fin1 rfl rfl (by rw [e])
      | refine aops_nil ?_
      | refine lex_done _ rfl (by kernel_rfl) ?_
      | refine aw_ct rfl ?_
      | refine aw_cf rfl ?_
      | refine aw_block ?_
      | with_reducible refine then_n ?_
      | refine aw_skip ?_
      | refine aw_exit ?_
      | with_reducible refine then_x ?_
      | with_reducible refine then_r ?_
      | with_reducible refine block_x ?_
      | with_reducible refine block_n ?_
      | with_reducible refine block_r ?_
      | refine aw_ret ?_
  · have e := mem_0 h1 h2 (of_decide_eq_false h)
    repeat' first
      | refine aw_seq ?_
      | refine aw_region ?_
      | refine aw_lex [] ?_
      | (refine isA ?_; refine do_F rfl ?_)
      | (refine isL ?_; refine lex_F rfl (by kernel_rfl) rfl rfl ?_)
      | (refine isLg rfl ?_; refine lex_S rfl (by kernel_rfl) rfl rfl ?_)
      | exact fin1 rfl rfl (by rw [e])
      | refine aops_nil ?_
      | refine lex_done _ rfl (by kernel_rfl) ?_
      | refine aw_ct rfl ?_
      | refine aw_cf rfl ?_
      | refine aw_block ?_
      | with_reducible refine then_n ?_
      | refine aw_skip ?_
      | refine aw_exit ?_
      | with_reducible refine then_x ?_
      | with_reducible refine then_r ?_
      | with_reducible refine block_x ?_
      | with_reducible refine block_n ?_
      | with_reducible refine block_r ?_
      | refine aw_ret ?_
theorem c_smem (s : So) (hok : okSo s) : Meets Go.Proofs.Try.prog 20 [.agg (soE s)] [] (I (memV s)) [] false := by
  have g2 := hok.heap
  have g3 := hok.dfr
  have t2 := tot_b s.heap
  have t3 := tot_b s.dfr
  have r0 := rc_b s.runs 0 s.lp
  have r1 := rc_b s.runs 1 s.rp
  refine meets_of [2] Go.Proofs.Try.func20 rfl rfl ?_
  simp only [Go.Proofs.Try.ntmps20, List.length_cons, List.length_nil, Nat.reduceAdd, Nat.reduceSub, List.replicate_succ, List.replicate_zero, List.cons_append, List.nil_append]
  repeat' first
    | refine aw_seq ?_
    | refine aw_region ?_
    | refine aw_lex [] ?_
    | (refine isA ?_; refine do_F rfl ?_)
    | (refine isL ?_; refine lex_F rfl (by kernel_rfl) rfl rfl ?_)
    | (refine isLg rfl ?_; refine lex_S rfl (by kernel_rfl) rfl rfl ?_)
    | refine aops_nil ?_
    | refine lex_done _ rfl (by kernel_rfl) ?_
    | refine aw_ct rfl ?_
    | refine aw_cf rfl ?_
    | refine aw_block ?_
    | with_reducible refine then_n ?_
    | refine aw_skip ?_
    | refine aw_exit ?_
    | with_reducible refine then_x ?_
    | with_reducible refine then_r ?_
    | with_reducible refine block_x ?_
    | with_reducible refine block_n ?_
    | with_reducible refine block_r ?_
    | refine aw_ret ?_
  refine aw_cond rfl (fun h => ?_) (fun h => ?_)
  · have e := mem_r (of_decide_eq_true h)
    repeat' first
      | refine aw_seq ?_
      | refine aw_region ?_
      | refine aw_lex [] ?_
      | (refine isA ?_; refine do_F rfl ?_)
      | (refine isL ?_; refine lex_F rfl (by kernel_rfl) rfl rfl ?_)
      | (refine isLg rfl ?_; refine lex_S rfl (by kernel_rfl) rfl rfl ?_)
      | (refine isAc 90 (x := #[.tmp 8]) ?_; refine do_R rfl (st_call rfl (c_stot s.heap (by omega)) (.cons (.same rfl) .nil) rfl) rfl ?_)
      | (refine isLc 90 (x := #[.tmp 8]) rfl ?_; refine lex_R rfl (by kernel_rfl) rfl (st_call rfl (c_stot s.heap (by omega)) (.cons (.same rfl) .nil) rfl) rfl ?_)
      | (refine isAc 90 (x := #[.tmp 11]) ?_; refine do_R rfl (st_call rfl (c_stot s.dfr (by omega)) (.cons (.same rfl) .nil) rfl) rfl ?_)
      | (refine isLc 90 (x := #[.tmp 11]) rfl ?_; refine lex_R rfl (by kernel_rfl) rfl (st_call rfl (c_stot s.dfr (by omega)) (.cons (.same rfl) .nil) rfl) rfl ?_)
      | exact fin1 rfl rfl (by rw [e, wrap_sum (by omega) (by omega)])
      | refine aops_nil ?_
      | refine lex_done _ rfl (by kernel_rfl) ?_
      | refine aw_ct rfl ?_
      | refine aw_cf rfl ?_
      | refine aw_block ?_
      | with_reducible refine then_n ?_
      | refine aw_skip ?_
      | refine aw_exit ?_
      | with_reducible refine then_x ?_
      | with_reducible refine then_r ?_
      | with_reducible refine block_x ?_
      | with_reducible refine block_n ?_
      | with_reducible refine block_r ?_
      | refine aw_ret ?_
  have h1 := of_decide_eq_false h
  repeat' first
    | refine aw_seq ?_
    | refine aw_region ?_
    | refine aw_lex [] ?_
    | (refine isA ?_; refine do_F rfl ?_)
    | (refine isL ?_; refine lex_F rfl (by kernel_rfl) rfl rfl ?_)
    | (refine isLg rfl ?_; refine lex_S rfl (by kernel_rfl) rfl rfl ?_)
    | refine aops_nil ?_
    | refine lex_done _ rfl (by kernel_rfl) ?_
    | refine aw_ct rfl ?_
    | refine aw_cf rfl ?_
    | refine aw_block ?_
    | with_reducible refine then_n ?_
    | refine aw_skip ?_
    | refine aw_exit ?_
    | with_reducible refine then_x ?_
    | with_reducible refine then_r ?_
    | with_reducible refine block_x ?_
    | with_reducible refine block_n ?_
    | with_reducible refine block_r ?_
    | refine aw_ret ?_
  refine aw_cond rfl (fun h => ?_) (fun h => ?_)
  · have e := mem_2 (of_decide_eq_true h)
    repeat' first
      | refine aw_seq ?_
      | refine aw_region ?_
      | refine aw_lex [] ?_
      | (refine isA ?_; refine do_F rfl ?_)
      | (refine isL ?_; refine lex_F rfl (by kernel_rfl) rfl rfl ?_)
      | (refine isLg rfl ?_; refine lex_S rfl (by kernel_rfl) rfl rfl ?_)
      | refine aops_nil ?_
      | refine lex_done _ rfl (by kernel_rfl) ?_
      | refine aw_ct rfl ?_
      | refine aw_cf rfl ?_
      | refine aw_block ?_
      | with_reducible refine then_n ?_
      | refine aw_skip ?_
      | refine aw_exit ?_
      | with_reducible refine then_x ?_
      | with_reducible refine then_r ?_
      | with_reducible refine block_x ?_
      | with_reducible refine block_n ?_
      | with_reducible refine block_r ?_
      | refine aw_ret ?_
    refine do_br rfl rfl (fun p => ?_) (fun p => ?_)
    · repeat' first
        | refine aw_seq ?_
        | refine aw_region ?_
        | refine aw_lex [] ?_
        | (refine isA ?_; refine do_F rfl ?_)
        | (refine isL ?_; refine lex_F rfl (by kernel_rfl) rfl rfl ?_)
        | (refine isLg rfl ?_; refine lex_S rfl (by kernel_rfl) rfl rfl ?_)
        | exact fin1 rfl rfl (by rw [e, p]; rfl)
        | refine aops_nil ?_
        | refine lex_done _ rfl (by kernel_rfl) ?_
        | refine aw_ct rfl ?_
        | refine aw_cf rfl ?_
        | refine aw_block ?_
        | with_reducible refine then_n ?_
        | refine aw_skip ?_
        | refine aw_exit ?_
        | with_reducible refine then_x ?_
        | with_reducible refine then_r ?_
        | with_reducible refine block_x ?_
        | with_reducible refine block_n ?_
        | with_reducible refine block_r ?_
        | refine aw_ret ?_
    · repeat' first
        | refine aw_seq ?_
        | refine aw_region ?_
        | refine aw_lex [] ?_
        | (refine isA ?_; refine do_F rfl ?_)
        | (refine isL ?_; refine lex_F rfl (by kernel_rfl) rfl rfl ?_)
        | (refine isLg rfl ?_; refine lex_S rfl (by kernel_rfl) rfl rfl ?_)
        | refine aops_nil ?_
        | refine lex_done _ rfl (by kernel_rfl) ?_
        | refine aw_ct rfl ?_
        | refine aw_cf rfl ?_
        | refine aw_block ?_
        | with_reducible refine then_n ?_
        | refine aw_skip ?_
        | refine aw_exit ?_
        | with_reducible refine then_x ?_
        | with_reducible refine then_r ?_
        | with_reducible refine block_x ?_
        | with_reducible refine block_n ?_
        | with_reducible refine block_r ?_
        | refine aw_ret ?_
      refine aw_cond rfl (fun q => ?_) (fun q => ?_)
      · repeat' first
          | refine aw_seq ?_
          | refine aw_region ?_
          | refine aw_lex [] ?_
          | (refine isA ?_; refine do_F rfl ?_)
          | (refine isL ?_; refine lex_F rfl (by kernel_rfl) rfl rfl ?_)
          | (refine isLg rfl ?_; refine lex_S rfl (by kernel_rfl) rfl rfl ?_)
          | exact fin1 rfl rfl (by rw [e, p, q]; rfl)
          | refine aops_nil ?_
          | refine lex_done _ rfl (by kernel_rfl) ?_
          | refine aw_ct rfl ?_
          | refine aw_cf rfl ?_
          | refine aw_block ?_
          | with_reducible refine then_n ?_
          | refine aw_skip ?_
          | refine aw_exit ?_
          | with_reducible refine then_x ?_
          | with_reducible refine then_r ?_
          | with_reducible refine block_x ?_
          | with_reducible refine block_n ?_
          | with_reducible refine block_r ?_
          | refine aw_ret ?_
      · obtain ⟨i, hi⟩ := Int.eq_ofNat_of_zero_le (show 0 ≤ s.lp from Int.not_lt.1 (of_decide_eq_false p))
        obtain ⟨j, hj⟩ := Int.eq_ofNat_of_zero_le (show 0 ≤ s.rp from Int.not_lt.1 (of_decide_eq_false q))
        have e' : memV s = totV (rowV s.runs 0 i) + totV (rowV s.runs 1 j) := by rw [e, p, q, hi, hj]; rw [← rc_row, ← rc_row]; try rfl
        have c0 := c_l13Row s.runs 0 i hok.rn (by omega)
        have c1 := c_l13Row s.runs 1 j hok.rn (by omega)
        rw [← hi] at c0
        rw [← hj] at c1
        have b0 := row_len s.runs 0 i
        have b1 := row_len s.runs 1 j
        have u0 := tot_b (rowV s.runs 0 i)
        have u1 := tot_b (rowV s.runs 1 j)
        generalize rowV s.runs 0 i = x0 at *
        generalize rowV s.runs 1 j = x1 at *
        repeat' first
          | refine aw_seq ?_
          | refine aw_region ?_
          | refine aw_lex [] ?_
          | (refine isA ?_; refine do_F rfl ?_)
          | (refine isL ?_; refine lex_F rfl (by kernel_rfl) rfl rfl ?_)
          | (refine isLg rfl ?_; refine lex_S rfl (by kernel_rfl) rfl rfl ?_)
          | (refine isAc 71 ?_; refine do_R rfl (st_call rfl c0 (.cons (.same rfl) (.cons (.same rfl) (.cons (.same rfl) .nil))) rfl) rfl ?_)
          | (refine isLc 71 rfl ?_; refine lex_R rfl (by kernel_rfl) rfl (st_call rfl c0 (.cons (.same rfl) (.cons (.same rfl) (.cons (.same rfl) .nil))) rfl) rfl ?_)
          | (refine isAc 71 ?_; refine do_R rfl (st_call rfl c1 (.cons (.same rfl) (.cons (.same rfl) (.cons (.same rfl) .nil))) rfl) rfl ?_)
          | (refine isLc 71 rfl ?_; refine lex_R rfl (by kernel_rfl) rfl (st_call rfl c1 (.cons (.same rfl) (.cons (.same rfl) (.cons (.same rfl) .nil))) rfl) rfl ?_)
          | (refine isAc 90 (x := #[.tmp 28]) ?_; refine do_R rfl (st_call rfl (c_stot x0 (by omega)) (.cons (.same rfl) .nil) rfl) rfl ?_)
          | (refine isLc 90 (x := #[.tmp 28]) rfl ?_; refine lex_R rfl (by kernel_rfl) rfl (st_call rfl (c_stot x0 (by omega)) (.cons (.same rfl) .nil) rfl) rfl ?_)
          | (refine isAc 90 (x := #[.tmp 34]) ?_; refine do_R rfl (st_call rfl (c_stot x1 (by omega)) (.cons (.same rfl) .nil) rfl) rfl ?_)
          | (refine isLc 90 (x := #[.tmp 34]) rfl ?_; refine lex_R rfl (by kernel_rfl) rfl (st_call rfl (c_stot x1 (by omega)) (.cons (.same rfl) .nil) rfl) rfl ?_)
          | exact fin1 rfl rfl (by rw [e', wrap_sum (by omega) (by omega)])
          | refine aops_nil ?_
          | refine lex_done _ rfl (by kernel_rfl) ?_
          | refine aw_ct rfl ?_
          | refine aw_cf rfl ?_
          | refine aw_block ?_
          | with_reducible refine then_n ?_
          | refine aw_skip ?_
          | refine aw_exit ?_
          | with_reducible refine then_x ?_
          | with_reducible refine then_r ?_
          | with_reducible refine block_x ?_
          | with_reducible refine block_n ?_
          | with_reducible refine block_r ?_
          | refine aw_ret ?_
  have h2 := of_decide_eq_false h
  repeat' first
    | refine aw_seq ?_
    | refine aw_region ?_
    | refine aw_lex [] ?_
    | (refine isA ?_; refine do_F rfl ?_)
    | (refine isL ?_; refine lex_F rfl (by kernel_rfl) rfl rfl ?_)
    | (refine isLg rfl ?_; refine lex_S rfl (by kernel_rfl) rfl rfl ?_)
    | refine aops_nil ?_
    | refine lex_done _ rfl (by kernel_rfl) ?_
    | refine aw_ct rfl ?_
    | refine aw_cf rfl ?_
    | refine aw_block ?_
    | with_reducible refine then_n ?_
    | refine aw_skip ?_
    | refine aw_exit ?_
    | with_reducible refine then_x ?_
    | with_reducible refine then_r ?_
    | with_reducible refine block_x ?_
    | with_reducible refine block_n ?_
    | with_reducible refine block_r ?_
    | refine aw_ret ?_
  refine aw_cond rfl (fun h => ?_) (fun h => ?_)
  · have e := mem_3 (of_decide_eq_true h)
    repeat' first
      | refine aw_seq ?_
      | refine aw_region ?_
      | refine aw_lex [] ?_
      | (refine isA ?_; refine do_F rfl ?_)
      | (refine isL ?_; refine lex_F rfl (by kernel_rfl) rfl rfl ?_)
      | (refine isLg rfl ?_; refine lex_S rfl (by kernel_rfl) rfl rfl ?_)
      | refine aops_nil ?_
      | refine lex_done _ rfl (by kernel_rfl) ?_
      | refine aw_ct rfl ?_
      | refine aw_cf rfl ?_
      | refine aw_block ?_
      | with_reducible refine then_n ?_
      | refine aw_skip ?_
      | refine aw_exit ?_
      | with_reducible refine then_x ?_
      | with_reducible refine then_r ?_
      | with_reducible refine block_x ?_
      | with_reducible refine block_n ?_
      | with_reducible refine block_r ?_
      | refine aw_ret ?_
    refine aw_cond rfl (fun q => ?_) (fun q => ?_)
    · have e' := rc_neg (rs := s.runs) (k := 0) (of_decide_eq_true q)
      repeat' first
        | refine aw_seq ?_
        | refine aw_region ?_
        | refine aw_lex [] ?_
        | (refine isA ?_; refine do_F rfl ?_)
        | (refine isL ?_; refine lex_F rfl (by kernel_rfl) rfl rfl ?_)
        | (refine isLg rfl ?_; refine lex_S rfl (by kernel_rfl) rfl rfl ?_)
        | exact fin1 rfl rfl (by rw [e, e'])
        | refine aops_nil ?_
        | refine lex_done _ rfl (by kernel_rfl) ?_
        | refine aw_ct rfl ?_
        | refine aw_cf rfl ?_
        | refine aw_block ?_
        | with_reducible refine then_n ?_
        | refine aw_skip ?_
        | refine aw_exit ?_
        | with_reducible refine then_x ?_
        | with_reducible refine then_r ?_
        | with_reducible refine block_x ?_
        | with_reducible refine block_n ?_
        | with_reducible refine block_r ?_
        | refine aw_ret ?_
    · obtain ⟨i, hi⟩ := Int.eq_ofNat_of_zero_le (show 0 ≤ s.lp from Int.not_lt.1 (of_decide_eq_false q))
      have e' : memV s = totV (rowV s.runs 0 i) := by rw [e, hi]; rw [← rc_row]; try rfl
      have c0 := c_l13Row s.runs 0 i hok.rn (by omega)
      rw [← hi] at c0
      have b0 := row_len s.runs 0 i
      generalize rowV s.runs 0 i = x0 at *
      repeat' first
        | refine aw_seq ?_
        | refine aw_region ?_
        | refine aw_lex [] ?_
        | (refine isA ?_; refine do_F rfl ?_)
        | (refine isL ?_; refine lex_F rfl (by kernel_rfl) rfl rfl ?_)
        | (refine isLg rfl ?_; refine lex_S rfl (by kernel_rfl) rfl rfl ?_)
        | (refine isAc 71 ?_; refine do_R rfl (st_call rfl c0 (.cons (.same rfl) (.cons (.same rfl) (.cons (.same rfl) .nil))) rfl) rfl ?_)
        | (refine isLc 71 rfl ?_; refine lex_R rfl (by kernel_rfl) rfl (st_call rfl c0 (.cons (.same rfl) (.cons (.same rfl) (.cons (.same rfl) .nil))) rfl) rfl ?_)
        | (refine isAc 90 ?_; refine do_R rfl (st_call rfl (c_stot x0 (by omega)) (.cons (.same rfl) .nil) rfl) rfl ?_)
        | (refine isLc 90 rfl ?_; refine lex_R rfl (by kernel_rfl) rfl (st_call rfl (c_stot x0 (by omega)) (.cons (.same rfl) .nil) rfl) rfl ?_)
        | exact fin1 rfl rfl (by rw [e'])
        | refine aops_nil ?_
        | refine lex_done _ rfl (by kernel_rfl) ?_
        | refine aw_ct rfl ?_
        | refine aw_cf rfl ?_
        | refine aw_block ?_
        | with_reducible refine then_n ?_
        | refine aw_skip ?_
        | refine aw_exit ?_
        | with_reducible refine then_x ?_
        | with_reducible refine then_r ?_
        | with_reducible refine block_x ?_
        | with_reducible refine block_n ?_
        | with_reducible refine block_r ?_
        | refine aw_ret ?_
  · have e := mem_0 h1 h2 (of_decide_eq_false h)
    repeat' first
      | refine aw_seq ?_
      | refine aw_region ?_
      | refine aw_lex [] ?_
      | (refine isA ?_; refine do_F rfl ?_)
      | (refine isL ?_; refine lex_F rfl (by kernel_rfl) rfl rfl ?_)
      | (refine isLg rfl ?_; refine lex_S rfl (by kernel_rfl) rfl rfl ?_)
      | exact fin1 rfl rfl (by rw [e])
      | refine aops_nil ?_
      | refine lex_done _ rfl (by kernel_rfl) ?_
      | refine aw_ct rfl ?_
      | refine aw_cf rfl ?_
      | refine aw_block ?_
      | with_reducible refine then_n ?_
      | refine aw_skip ?_
      | refine aw_exit ?_
      | with_reducible refine then_x ?_
      | with_reducible refine then_r ?_
      | with_reducible refine block_x ?_
      | with_reducible refine block_n ?_
      | with_reducible refine block_r ?_
      | refine aw_ret ?_

/-! ### The least -/
theorem c_imin (xs : List Rw) (hl : xs.length ≤ 1000000000) : Meets Go.Proofs.Try.prog 61 [rwL xs] [] (I (minV xs)) [] false := by
  refine meets_of [2] Go.Proofs.Try.func61 rfl rfl ?_
  simp only [Go.Proofs.Try.ntmps61, List.length_cons, List.length_nil, Nat.reduceAdd, Nat.reduceSub, List.replicate_succ, List.replicate_zero, List.cons_append, List.nil_append]
  repeat' first
    | refine aw_seq ?_
    | refine aw_region ?_
    | refine aw_lex [] ?_
    | (refine isA ?_; refine do_F rfl ?_)
    | (refine isL ?_; refine lex_F rfl (by kernel_rfl) rfl rfl ?_)
    | (refine isLg rfl ?_; refine lex_S rfl (by kernel_rfl) rfl rfl ?_)
    | refine aops_nil ?_
    | refine lex_done _ rfl (by kernel_rfl) ?_
    | refine aw_ct rfl ?_
    | refine aw_cf rfl ?_
    | refine aw_block ?_
    | with_reducible refine then_n ?_
    | refine aw_skip ?_
    | refine aw_exit ?_
    | with_reducible refine then_x ?_
    | with_reducible refine then_r ?_
    | with_reducible refine block_x ?_
    | with_reducible refine block_n ?_
    | with_reducible refine block_r ?_
    | refine aw_ret ?_
  refine aw_loop (α := { i : Nat // i ≤ xs.length }) (fun i => ⟨[rwL xs, .any, .any, I (minF xs i.1), .any, .any, rwL xs, I xs.length, I i.1, .any, .any, .any, .any, .any, .any, .any, .any, .any, .any, .any, .any, .any, .any, .any, .any, .any, .any], [], 0⟩) (fun i => xs.length - i.1) ⟨0, Nat.zero_le _⟩ ?_ ?_
  · exact sub0 [] rfl rfl (by decide) .nil (by repeat' first | exact les_nil | refine les_cons ?_ ?_ | exact le_any | exact le_refl rfl | exact le_sl rfl rfl | exact le_ptr rfl)
  · rintro ⟨i, hi⟩
    repeat' first
      | refine aw_seq ?_
      | refine aw_region ?_
      | refine aw_lex [] ?_
      | (refine isA ?_; refine do_F rfl ?_)
      | (refine isL ?_; refine lex_F rfl (by kernel_rfl) rfl rfl ?_)
      | (refine isLg rfl ?_; refine lex_S rfl (by kernel_rfl) rfl rfl ?_)
      | refine aops_nil ?_
      | refine lex_done _ rfl (by kernel_rfl) ?_
      | refine aw_ct rfl ?_
      | refine aw_cf rfl ?_
      | refine aw_block ?_
      | with_reducible refine then_n ?_
      | refine aw_skip ?_
      | refine aw_exit ?_
      | with_reducible refine then_x ?_
      | with_reducible refine then_r ?_
      | with_reducible refine block_x ?_
      | with_reducible refine block_n ?_
      | with_reducible refine block_r ?_
      | refine aw_ret ?_
    refine aw_cond rfl (fun h => ?_) (fun h => ?_)
    · have hlt : i < xs.length := by simpa using h
      obtain ⟨x, hx⟩ : ∃ z, xs[i]? = some z := ⟨_, List.getElem?_eq_getElem hlt⟩
      rcases Nat.eq_zero_or_pos i with rfl | hpos
      · have e1 : minF xs (0 + 1) = ((0 : Nat) : Int) := rfl
        repeat' first
          | refine aw_seq ?_
          | refine aw_region ?_
          | refine aw_lex [] ?_
          | (refine isA ?_; refine do_F rfl ?_)
          | (refine isL ?_; refine lex_F rfl (by kernel_rfl) rfl rfl ?_)
          | (refine isLg rfl ?_; refine lex_S rfl (by kernel_rfl) rfl rfl ?_)
          | (refine isAi (x := .tmp 6) ?_; refine do_R rfl (ia_l (t := rwT) (z := x) rfl rfl rfl rfl (Int.natCast_nonneg _) hx) rfl ?_)
          | (refine isLi (x := .tmp 6) rfl ?_; refine lex_R rfl (by kernel_rfl) rfl (ia_l (t := rwT) (z := x) rfl rfl rfl rfl (Int.natCast_nonneg _) hx) rfl ?_)
          | refine aops_nil ?_
          | refine lex_done _ rfl (by kernel_rfl) ?_
          | refine aw_ct rfl ?_
          | refine aw_cf rfl ?_
          | refine aw_block ?_
          | with_reducible refine then_n ?_
          | refine aw_skip ?_
          | refine aw_exit ?_
          | with_reducible refine then_x ?_
          | with_reducible refine then_r ?_
          | with_reducible refine block_x ?_
          | with_reducible refine block_n ?_
          | with_reducible refine block_r ?_
          | refine aw_ret ?_
        refine ⟨⟨0 + 1, hlt⟩, by simp only; omega, ?_⟩
        exact sub0 [] rfl rfl (by decide) .nil (by
          repeat' first
            | exact les_nil
            | refine les_cons ?_ ?_
            | exact le_any
            | exact le_refl rfl
            | exact le_k (congrArg _ e1)
            | exact le_i (by assumption) (by omega))
      · obtain ⟨k, y, m1, m2, m3, m4⟩ := minF_ok (xs := xs) (n := i) (by omega) hpos
        have e1 : minF xs (i + 1) = cond (decide (cmpV x y < 0)) (i : Int) (k : Int) := by
          rw [minF, m1, decide_eq_false (show ¬ ((k : Nat) : Int) < 0 from by have := Int.natCast_nonneg k; omega), cond_false, Int.toNat_natCast, hx, m3]
        refine aw_sub (T := ⟨[rwL xs, .any, .any, I ((k : Nat) : Int), .any, .any, rwL xs, I xs.length, I ((i : Nat) : Int), .any, .any, .any, .any, .any, .any, .any, .any, .any, .any, .any, .any, .any, .any, .any, .any, .any, .any], [], 0⟩) (sub0 [] rfl rfl (by decide) .nil (by
          repeat' first
            | exact les_nil
            | refine les_cons ?_ ?_
            | exact le_any
            | exact le_refl rfl
            | exact le_k (congrArg _ m1.symm))) ?_
        repeat' first
          | refine aw_seq ?_
          | refine aw_region ?_
          | refine aw_lex [] ?_
          | (refine isA ?_; refine do_F rfl ?_)
          | (refine isL ?_; refine lex_F rfl (by kernel_rfl) rfl rfl ?_)
          | (refine isLg rfl ?_; refine lex_S rfl (by kernel_rfl) rfl rfl ?_)
          | (refine isAi (x := .tmp 6) ?_; refine do_R rfl (ia_l (t := rwT) (z := x) rfl rfl rfl rfl (Int.natCast_nonneg _) hx) rfl ?_)
          | (refine isLi (x := .tmp 6) rfl ?_; refine lex_R rfl (by kernel_rfl) rfl (ia_l (t := rwT) (z := x) rfl rfl rfl rfl (Int.natCast_nonneg _) hx) rfl ?_)
          | refine aops_nil ?_
          | refine lex_done _ rfl (by kernel_rfl) ?_
          | refine aw_ct rfl ?_
          | refine aw_cf rfl ?_
          | refine aw_block ?_
          | with_reducible refine then_n ?_
          | refine aw_skip ?_
          | refine aw_exit ?_
          | with_reducible refine then_x ?_
          | with_reducible refine then_r ?_
          | with_reducible refine block_x ?_
          | with_reducible refine block_n ?_
          | with_reducible refine block_r ?_
          | refine aw_ret ?_
        refine lex_br rfl rfl rfl rfl (fun p => absurd (of_decide_eq_true p) (by omega)) (fun p => ?_)
        repeat' first
          | refine aw_seq ?_
          | refine aw_region ?_
          | refine aw_lex [] ?_
          | (refine isA ?_; refine do_F rfl ?_)
          | (refine isL ?_; refine lex_F rfl (by kernel_rfl) rfl rfl ?_)
          | (refine isLg rfl ?_; refine lex_S rfl (by kernel_rfl) rfl rfl ?_)
          | (refine isAi (x := .tmp 17) ?_; refine do_R rfl (ia_l (t := rwT) (z := y) rfl rfl rfl rfl (Int.natCast_nonneg _) m3) rfl ?_)
          | (refine isLi (x := .tmp 17) rfl ?_; refine lex_R rfl (by kernel_rfl) rfl (ia_l (t := rwT) (z := y) rfl rfl rfl rfl (Int.natCast_nonneg _) m3) rfl ?_)
          | (refine isAc 64 ?_; refine do_R rfl (st_call rfl (c_icmp x y) (.cons (.same rfl) (.cons (.same rfl) .nil)) rfl) rfl ?_)
          | (refine isLc 64 rfl ?_; refine lex_R rfl (by kernel_rfl) rfl (st_call rfl (c_icmp x y) (.cons (.same rfl) (.cons (.same rfl) .nil)) rfl) rfl ?_)
          | refine aops_nil ?_
          | refine lex_done _ rfl (by kernel_rfl) ?_
          | refine aw_ct rfl ?_
          | refine aw_cf rfl ?_
          | refine aw_block ?_
          | with_reducible refine then_n ?_
          | refine aw_skip ?_
          | refine aw_exit ?_
          | with_reducible refine then_x ?_
          | with_reducible refine then_r ?_
          | with_reducible refine block_x ?_
          | with_reducible refine block_n ?_
          | with_reducible refine block_r ?_
          | refine aw_ret ?_
        refine aw_cond rfl (fun p => ?_) (fun p => ?_)
        · rw [p, cond_true] at e1
          repeat' first
            | refine aw_seq ?_
            | refine aw_region ?_
            | refine aw_lex [] ?_
            | (refine isA ?_; refine do_F rfl ?_)
            | (refine isL ?_; refine lex_F rfl (by kernel_rfl) rfl rfl ?_)
            | (refine isLg rfl ?_; refine lex_S rfl (by kernel_rfl) rfl rfl ?_)
            | refine aops_nil ?_
            | refine lex_done _ rfl (by kernel_rfl) ?_
            | refine aw_ct rfl ?_
            | refine aw_cf rfl ?_
            | refine aw_block ?_
            | with_reducible refine then_n ?_
            | refine aw_skip ?_
            | refine aw_exit ?_
            | with_reducible refine then_x ?_
            | with_reducible refine then_r ?_
            | with_reducible refine block_x ?_
            | with_reducible refine block_n ?_
            | with_reducible refine block_r ?_
            | refine aw_ret ?_
          refine ⟨⟨i + 1, hlt⟩, by simp only; omega, ?_⟩
          exact sub0 [] rfl rfl (by decide) .nil (by
            repeat' first
              | exact les_nil
              | refine les_cons ?_ ?_
              | exact le_any
              | exact le_refl rfl
              | exact le_k (congrArg _ e1)
              | exact le_i (by assumption) (by omega))
        · rw [p, cond_false] at e1
          repeat' first
            | refine aw_seq ?_
            | refine aw_region ?_
            | refine aw_lex [] ?_
            | (refine isA ?_; refine do_F rfl ?_)
            | (refine isL ?_; refine lex_F rfl (by kernel_rfl) rfl rfl ?_)
            | (refine isLg rfl ?_; refine lex_S rfl (by kernel_rfl) rfl rfl ?_)
            | refine aops_nil ?_
            | refine lex_done _ rfl (by kernel_rfl) ?_
            | refine aw_ct rfl ?_
            | refine aw_cf rfl ?_
            | refine aw_block ?_
            | with_reducible refine then_n ?_
            | refine aw_skip ?_
            | refine aw_exit ?_
            | with_reducible refine then_x ?_
            | with_reducible refine then_r ?_
            | with_reducible refine block_x ?_
            | with_reducible refine block_n ?_
            | with_reducible refine block_r ?_
            | refine aw_ret ?_
          refine ⟨⟨i + 1, hlt⟩, by simp only; omega, ?_⟩
          exact sub0 [] rfl rfl (by decide) .nil (by
            repeat' first
              | exact les_nil
              | refine les_cons ?_ ?_
              | exact le_any
              | exact le_refl rfl
              | exact le_k (congrArg _ e1)
              | exact le_i (by assumption) (by omega))
    · have hge : i = xs.length := by
        have : ¬ ((i : Int) < xs.length) := by simpa using h
        omega
      subst hge
      repeat' first
        | refine aw_seq ?_
        | refine aw_region ?_
        | refine aw_lex [] ?_
        | (refine isA ?_; refine do_F rfl ?_)
        | (refine isL ?_; refine lex_F rfl (by kernel_rfl) rfl rfl ?_)
        | (refine isLg rfl ?_; refine lex_S rfl (by kernel_rfl) rfl rfl ?_)
        | exact fin1 rfl rfl rfl
        | refine aops_nil ?_
        | refine lex_done _ rfl (by kernel_rfl) ?_
        | refine aw_ct rfl ?_
        | refine aw_cf rfl ?_
        | refine aw_block ?_
        | with_reducible refine then_n ?_
        | refine aw_skip ?_
        | refine aw_exit ?_
        | with_reducible refine then_x ?_
        | with_reducible refine then_r ?_
        | with_reducible refine block_x ?_
        | with_reducible refine block_n ?_
        | with_reducible refine block_r ?_
        | refine aw_ret ?_
theorem c_smin (xs : List Rw) (hl : xs.length ≤ 1000000000) : Meets Go.Proofs.Try.prog 119 [rwL xs] [] (I (minV xs)) [] false := by
  refine meets_of [2] Go.Proofs.Try.func119 rfl rfl ?_
  simp only [Go.Proofs.Try.ntmps119, List.length_cons, List.length_nil, Nat.reduceAdd, Nat.reduceSub, List.replicate_succ, List.replicate_zero, List.cons_append, List.nil_append]
  repeat' first
    | refine aw_seq ?_
    | refine aw_region ?_
    | refine aw_lex [] ?_
    | (refine isA ?_; refine do_F rfl ?_)
    | (refine isL ?_; refine lex_F rfl (by kernel_rfl) rfl rfl ?_)
    | (refine isLg rfl ?_; refine lex_S rfl (by kernel_rfl) rfl rfl ?_)
    | refine aops_nil ?_
    | refine lex_done _ rfl (by kernel_rfl) ?_
    | refine aw_ct rfl ?_
    | refine aw_cf rfl ?_
    | refine aw_block ?_
    | with_reducible refine then_n ?_
    | refine aw_skip ?_
    | refine aw_exit ?_
    | with_reducible refine then_x ?_
    | with_reducible refine then_r ?_
    | with_reducible refine block_x ?_
    | with_reducible refine block_n ?_
    | with_reducible refine block_r ?_
    | refine aw_ret ?_
  refine aw_loop (α := { i : Nat // i ≤ xs.length }) (fun i => ⟨[rwL xs, .any, .any, I (minF xs i.1), I i.1, .any, .any, .any, .any, .any, .any, .any, .any, .any, .any, .any, .any, .any, .any, .any, .any, .any, .any, .any, .any, .any, .any], [], 0⟩) (fun i => xs.length - i.1) ⟨0, Nat.zero_le _⟩ ?_ ?_
  · exact sub0 [] rfl rfl (by decide) .nil (by repeat' first | exact les_nil | refine les_cons ?_ ?_ | exact le_any | exact le_refl rfl | exact le_sl rfl rfl | exact le_ptr rfl)
  · rintro ⟨i, hi⟩
    repeat' first
      | refine aw_seq ?_
      | refine aw_region ?_
      | refine aw_lex [] ?_
      | (refine isA ?_; refine do_F rfl ?_)
      | (refine isL ?_; refine lex_F rfl (by kernel_rfl) rfl rfl ?_)
      | (refine isLg rfl ?_; refine lex_S rfl (by kernel_rfl) rfl rfl ?_)
      | refine aops_nil ?_
      | refine lex_done _ rfl (by kernel_rfl) ?_
      | refine aw_ct rfl ?_
      | refine aw_cf rfl ?_
      | refine aw_block ?_
      | with_reducible refine then_n ?_
      | refine aw_skip ?_
      | refine aw_exit ?_
      | with_reducible refine then_x ?_
      | with_reducible refine then_r ?_
      | with_reducible refine block_x ?_
      | with_reducible refine block_n ?_
      | with_reducible refine block_r ?_
      | refine aw_ret ?_
    refine aw_cond rfl (fun h => ?_) (fun h => ?_)
    · have hlt : i < xs.length := by simpa using h
      obtain ⟨x, hx⟩ : ∃ z, xs[i]? = some z := ⟨_, List.getElem?_eq_getElem hlt⟩
      rcases Nat.eq_zero_or_pos i with rfl | hpos
      · have e1 : minF xs (0 + 1) = ((0 : Nat) : Int) := rfl
        repeat' first
          | refine aw_seq ?_
          | refine aw_region ?_
          | refine aw_lex [] ?_
          | (refine isA ?_; refine do_F rfl ?_)
          | (refine isL ?_; refine lex_F rfl (by kernel_rfl) rfl rfl ?_)
          | (refine isLg rfl ?_; refine lex_S rfl (by kernel_rfl) rfl rfl ?_)
          | refine aops_nil ?_
          | refine lex_done _ rfl (by kernel_rfl) ?_
          | refine aw_ct rfl ?_
          | refine aw_cf rfl ?_
          | refine aw_block ?_
          | with_reducible refine then_n ?_
          | refine aw_skip ?_
          | refine aw_exit ?_
          | with_reducible refine then_x ?_
          | with_reducible refine then_r ?_
          | with_reducible refine block_x ?_
          | with_reducible refine block_n ?_
          | with_reducible refine block_r ?_
          | refine aw_ret ?_
        refine ⟨⟨0 + 1, hlt⟩, by simp only; omega, ?_⟩
        exact sub0 [] rfl rfl (by decide) .nil (by
          repeat' first
            | exact les_nil
            | refine les_cons ?_ ?_
            | exact le_any
            | exact le_refl rfl
            | exact le_k (congrArg _ e1)
            | exact le_i (by assumption) (by omega))
      · obtain ⟨k, y, m1, m2, m3, m4⟩ := minF_ok (xs := xs) (n := i) (by omega) hpos
        have e1 : minF xs (i + 1) = cond (decide (cmpV x y < 0)) (i : Int) (k : Int) := by
          rw [minF, m1, decide_eq_false (show ¬ ((k : Nat) : Int) < 0 from by have := Int.natCast_nonneg k; omega), cond_false, Int.toNat_natCast, hx, m3]
        refine aw_sub (T := ⟨[rwL xs, .any, .any, I ((k : Nat) : Int), I ((i : Nat) : Int), .any, .any, .any, .any, .any, .any, .any, .any, .any, .any, .any, .any, .any, .any, .any, .any, .any, .any, .any, .any, .any, .any], [], 0⟩) (sub0 [] rfl rfl (by decide) .nil (by
          repeat' first
            | exact les_nil
            | refine les_cons ?_ ?_
            | exact le_any
            | exact le_refl rfl
            | exact le_k (congrArg _ m1.symm))) ?_
        repeat' first
          | refine aw_seq ?_
          | refine aw_region ?_
          | refine aw_lex [] ?_
          | (refine isA ?_; refine do_F rfl ?_)
          | (refine isL ?_; refine lex_F rfl (by kernel_rfl) rfl rfl ?_)
          | (refine isLg rfl ?_; refine lex_S rfl (by kernel_rfl) rfl rfl ?_)
          | refine aops_nil ?_
          | refine lex_done _ rfl (by kernel_rfl) ?_
          | refine aw_ct rfl ?_
          | refine aw_cf rfl ?_
          | refine aw_block ?_
          | with_reducible refine then_n ?_
          | refine aw_skip ?_
          | refine aw_exit ?_
          | with_reducible refine then_x ?_
          | with_reducible refine then_r ?_
          | with_reducible refine block_x ?_
          | with_reducible refine block_n ?_
          | with_reducible refine block_r ?_
          | refine aw_ret ?_
        refine lex_br rfl rfl rfl rfl (fun p => absurd (of_decide_eq_true p) (by omega)) (fun p => ?_)
        repeat' first
          | refine aw_seq ?_
          | refine aw_region ?_
          | refine aw_lex [] ?_
          | (refine isA ?_; refine do_F rfl ?_)
          | (refine isL ?_; refine lex_F rfl (by kernel_rfl) rfl rfl ?_)
          | (refine isLg rfl ?_; refine lex_S rfl (by kernel_rfl) rfl rfl ?_)
          | (refine isAi (x := .tmp 14) ?_; refine do_R rfl (ia_l (t := rwT) (z := x) rfl rfl rfl rfl (Int.natCast_nonneg _) hx) rfl ?_)
          | (refine isLi (x := .tmp 14) rfl ?_; refine lex_R rfl (by kernel_rfl) rfl (ia_l (t := rwT) (z := x) rfl rfl rfl rfl (Int.natCast_nonneg _) hx) rfl ?_)
          | (refine isAi (x := .tmp 18) ?_; refine do_R rfl (ia_l (t := rwT) (z := y) rfl rfl rfl rfl (Int.natCast_nonneg _) m3) rfl ?_)
          | (refine isLi (x := .tmp 18) rfl ?_; refine lex_R rfl (by kernel_rfl) rfl (ia_l (t := rwT) (z := y) rfl rfl rfl rfl (Int.natCast_nonneg _) m3) rfl ?_)
          | (refine isAc 68 ?_; refine do_R rfl (st_call rfl (c_scmp x y) (.cons (.same rfl) (.cons (.same rfl) .nil)) rfl) rfl ?_)
          | (refine isLc 68 rfl ?_; refine lex_R rfl (by kernel_rfl) rfl (st_call rfl (c_scmp x y) (.cons (.same rfl) (.cons (.same rfl) .nil)) rfl) rfl ?_)
          | refine aops_nil ?_
          | refine lex_done _ rfl (by kernel_rfl) ?_
          | refine aw_ct rfl ?_
          | refine aw_cf rfl ?_
          | refine aw_block ?_
          | with_reducible refine then_n ?_
          | refine aw_skip ?_
          | refine aw_exit ?_
          | with_reducible refine then_x ?_
          | with_reducible refine then_r ?_
          | with_reducible refine block_x ?_
          | with_reducible refine block_n ?_
          | with_reducible refine block_r ?_
          | refine aw_ret ?_
        refine aw_cond rfl (fun p => ?_) (fun p => ?_)
        · rw [p, cond_true] at e1
          repeat' first
            | refine aw_seq ?_
            | refine aw_region ?_
            | refine aw_lex [] ?_
            | (refine isA ?_; refine do_F rfl ?_)
            | (refine isL ?_; refine lex_F rfl (by kernel_rfl) rfl rfl ?_)
            | (refine isLg rfl ?_; refine lex_S rfl (by kernel_rfl) rfl rfl ?_)
            | refine aops_nil ?_
            | refine lex_done _ rfl (by kernel_rfl) ?_
            | refine aw_ct rfl ?_
            | refine aw_cf rfl ?_
            | refine aw_block ?_
            | with_reducible refine then_n ?_
            | refine aw_skip ?_
            | refine aw_exit ?_
            | with_reducible refine then_x ?_
            | with_reducible refine then_r ?_
            | with_reducible refine block_x ?_
            | with_reducible refine block_n ?_
            | with_reducible refine block_r ?_
            | refine aw_ret ?_
          refine ⟨⟨i + 1, hlt⟩, by simp only; omega, ?_⟩
          exact sub0 [] rfl rfl (by decide) .nil (by
            repeat' first
              | exact les_nil
              | refine les_cons ?_ ?_
              | exact le_any
              | exact le_refl rfl
              | exact le_k (congrArg _ e1)
              | exact le_i (by assumption) (by omega))
        · rw [p, cond_false] at e1
          repeat' first
            | refine aw_seq ?_
            | refine aw_region ?_
            | refine aw_lex [] ?_
            | (refine isA ?_; refine do_F rfl ?_)
            | (refine isL ?_; refine lex_F rfl (by kernel_rfl) rfl rfl ?_)
            | (refine isLg rfl ?_; refine lex_S rfl (by kernel_rfl) rfl rfl ?_)
            | refine aops_nil ?_
            | refine lex_done _ rfl (by kernel_rfl) ?_
            | refine aw_ct rfl ?_
            | refine aw_cf rfl ?_
            | refine aw_block ?_
            | with_reducible refine then_n ?_
            | refine aw_skip ?_
            | refine aw_exit ?_
            | with_reducible refine then_x ?_
            | with_reducible refine then_r ?_
            | with_reducible refine block_x ?_
            | with_reducible refine block_n ?_
            | with_reducible refine block_r ?_
            | refine aw_ret ?_
          refine ⟨⟨i + 1, hlt⟩, by simp only; omega, ?_⟩
          exact sub0 [] rfl rfl (by decide) .nil (by
            repeat' first
              | exact les_nil
              | refine les_cons ?_ ?_
              | exact le_any
              | exact le_refl rfl
              | exact le_k (congrArg _ e1)
              | exact le_i (by assumption) (by omega))
    · have hge : i = xs.length := by
        have : ¬ ((i : Int) < xs.length) := by simpa using h
        omega
      subst hge
      repeat' first
        | refine aw_seq ?_
        | refine aw_region ?_
        | refine aw_lex [] ?_
        | (refine isA ?_; refine do_F rfl ?_)
        | (refine isL ?_; refine lex_F rfl (by kernel_rfl) rfl rfl ?_)
        | (refine isLg rfl ?_; refine lex_S rfl (by kernel_rfl) rfl rfl ?_)
        | exact fin1 rfl rfl rfl
        | refine aops_nil ?_
        | refine lex_done _ rfl (by kernel_rfl) ?_
        | refine aw_ct rfl ?_
        | refine aw_cf rfl ?_
        | refine aw_block ?_
        | with_reducible refine then_n ?_
        | refine aw_skip ?_
        | refine aw_exit ?_
        | with_reducible refine then_x ?_
        | with_reducible refine then_r ?_
        | with_reducible refine block_x ?_
        | with_reducible refine block_n ?_
        | with_reducible refine block_r ?_
        | refine aw_ret ?_

/-! ### A row taken away -/
theorem c_taken (xs : List Rw) (k : Nat) (hk : k < xs.length) (hl : xs.length ≤ 100000000) : Meets Go.Proofs.Try.prog 62 [rwL xs, I k] [] (.sl 0 0 (xs.take k ++ xs.drop (k + 1)).length) [rwR (xs.take k ++ xs.drop (k + 1))] false := by
  have ew : IntKind.i64.wrap ((k : Int) + 1) = ((k + 1 : Nat) : Int) := by rw [IntKind.wrap_i64]; omega
  refine meets_of [4] Go.Proofs.Try.func62 rfl rfl ?_
  simp only [Go.Proofs.Try.ntmps62, List.length_cons, List.length_nil, Nat.reduceAdd, Nat.reduceSub, List.replicate_succ, List.replicate_zero, List.cons_append, List.nil_append]
  repeat' first
    | refine aw_seq ?_
    | refine aw_region ?_
    | refine aw_lex [] ?_
    | (refine isA ?_; refine do_F rfl ?_)
    | (refine isL ?_; refine lex_F rfl (by kernel_rfl) rfl rfl ?_)
    | (refine isLg rfl ?_; refine lex_S rfl (by kernel_rfl) rfl rfl ?_)
    | (refine isAx (x := .tmp 6) ?_; refine do_R rfl (st_takeL rfl rfl rfl (by omega)) rfl ?_)
    | (refine isLx (x := .tmp 6) rfl ?_; refine lex_R rfl (by kernel_rfl) rfl (st_takeL rfl rfl rfl (by omega)) rfl ?_)
    | (refine isAx (x := .tmp 11) ?_; refine do_R rfl (st_dropL (k := k + 1) rfl rfl rfl ew (by omega)) rfl ?_)
    | (refine isLx (x := .tmp 11) rfl ?_; refine lex_R rfl (by kernel_rfl) rfl (st_dropL (k := k + 1) rfl rfl rfl ew (by omega)) rfl ?_)
    | (refine isAc 114 ?_; refine do_R rfl (st_callK rfl (c_clone (xs.take k) (by simp; omega)) (.cons (.same rfl) .nil) (fun q hq => by simp at hq; subst hq; exact flat_noH _ _) rfl rfl) rfl ?_)
    | (refine isLc 114 rfl ?_; refine lex_R rfl (by kernel_rfl) rfl (st_callK rfl (c_clone (xs.take k) (by simp; omega)) (.cons (.same rfl) .nil) (fun q hq => by simp at hq; subst hq; exact flat_noH _ _) rfl rfl) rfl ?_)
    | (refine isAp ?_; refine do_R rfl (ap_l (t := rwT) (xs := xs.take k) (ys := xs.drop (k + 1)) rfl rfl rfl rfl (.lst _ _) (by simp; omega) rfl) rfl ?_)
    | (refine isLp rfl ?_; refine lex_R rfl (by kernel_rfl) rfl (ap_l (t := rwT) (xs := xs.take k) (ys := xs.drop (k + 1)) rfl rfl rfl rfl (.lst _ _) (by simp; omega) rfl) rfl ?_)
    | exact finN [1] rfl (hle_of (by decide) (.cons rfl rfl rfl rfl (les_refl (flat_noH _ _)) .nil)) (le_sl rfl rfl) (Or.inr ⟨rfl, fun q hq => by simp at hq; subst hq; exact ⟨Nat.zero_ne_one, fun _ => (flat_rw _).flatS⟩⟩)
    | refine aops_nil ?_
    | refine lex_done _ rfl (by kernel_rfl) ?_
    | refine aw_ct rfl ?_
    | refine aw_cf rfl ?_
    | refine aw_block ?_
    | with_reducible refine then_n ?_
    | refine aw_skip ?_
    | refine aw_exit ?_
    | with_reducible refine then_x ?_
    | with_reducible refine then_r ?_
    | with_reducible refine block_x ?_
    | with_reducible refine block_n ?_
    | with_reducible refine block_r ?_
    | refine aw_ret ?_
theorem c_drop (xs : List Rw) (k : Nat) (hk : k < xs.length) (hl : xs.length ≤ 100000000) : Meets Go.Proofs.Try.prog 120 [rwL xs, I k] [] (.sl 0 0 (xs.take k ++ xs.drop (k + 1)).length) [rwR (xs.take k ++ xs.drop (k + 1))] false := by
  have ew : IntKind.i64.wrap ((k : Int) + 1) = ((k + 1 : Nat) : Int) := by rw [IntKind.wrap_i64]; omega
  refine meets_of [4] Go.Proofs.Try.func120 rfl rfl ?_
  simp only [Go.Proofs.Try.ntmps120, List.length_cons, List.length_nil, Nat.reduceAdd, Nat.reduceSub, List.replicate_succ, List.replicate_zero, List.cons_append, List.nil_append]
  repeat' first
    | refine aw_seq ?_
    | refine aw_region ?_
    | (refine isA ?_; refine do_F rfl ?_)
    | (refine isL ?_; refine lex_F rfl (by kernel_rfl) rfl rfl ?_)
    | (refine isLg rfl ?_; refine lex_S rfl (by kernel_rfl) rfl rfl ?_)
    | refine aops_nil ?_
    | refine lex_done _ rfl (by kernel_rfl) ?_
    | refine aw_ct rfl ?_
    | refine aw_cf rfl ?_
    | refine aw_block ?_
    | with_reducible refine then_n ?_
    | refine aw_skip ?_
    | refine aw_exit ?_
    | with_reducible refine then_x ?_
    | with_reducible refine then_r ?_
    | with_reducible refine block_x ?_
    | with_reducible refine block_n ?_
    | with_reducible refine block_r ?_
    | refine aw_ret ?_
  refine aw_perG (fun _ => True) 11 rfl ?_
  refine perG_P 1 trivial rfl (by kernel_rfl) rfl (fun _ => rfl) rfl ?_
  refine perG_P 2 trivial rfl (by kernel_rfl) rfl (fun _ => rfl) rfl ?_
  refine perG_R 3 trivial rfl (by kernel_rfl) rfl (fun _ _ => st_takeL rfl rfl rfl (by omega)) rfl ?_
  refine perG_P 5 trivial rfl (by kernel_rfl) rfl (fun _ => rfl) rfl ?_
  refine perG_P 6 trivial rfl (by kernel_rfl) rfl (fun _ => rfl) rfl ?_
  refine perG_P 7 trivial rfl (by kernel_rfl) rfl (fun _ => rfl) rfl ?_
  refine perG_R 8 trivial rfl (by kernel_rfl) rfl (fun _ _ => st_dropL (k := k + 1) rfl rfl rfl ew (by omega)) rfl ?_
  refine perG_1 0 (by kernel_rfl) ?_
  refine br_WF rfl rfl rfl trivial rfl ?_
  refine perG_1 4 (by kernel_rfl) ?_
  refine br_W rfl rfl (ap_l (t := rwT) (xs := []) (ys := xs.take k) rfl rfl rfl rfl (.lst _ _) (by simp; omega) rfl) trivial rfl ?_
  refine perG_1 9 (by kernel_rfl) ?_
  refine br_W rfl rfl (ap_l (t := rwT) (xs := [] ++ xs.take k) (ys := xs.drop (k + 1)) rfl rfl rfl rfl (.lst _ _) (by simp; omega) rfl) trivial rfl ?_
  refine perG_P 10 trivial rfl (by kernel_rfl) rfl (fun _ => rfl) rfl ?_
  refine perG_done (by kernel_rfl) ?_
  repeat' first
    | refine aw_seq ?_
    | refine aw_region ?_
    | refine aw_lex [] ?_
    | (refine isA ?_; refine do_F rfl ?_)
    | (refine isL ?_; refine lex_F rfl (by kernel_rfl) rfl rfl ?_)
    | (refine isLg rfl ?_; refine lex_S rfl (by kernel_rfl) rfl rfl ?_)
    | exact finN [2] rfl (hle_of (by decide) (.cons rfl rfl rfl rfl (les_refl (flat_noH _ _)) .nil)) (le_sl rfl rfl) (Or.inr ⟨rfl, fun q hq => by simp at hq; subst hq; exact ⟨Nat.zero_ne_one, fun _ => (flat_rw _).flatS⟩⟩)
    | refine aops_nil ?_
    | refine lex_done _ rfl (by kernel_rfl) ?_
    | refine aw_ct rfl ?_
    | refine aw_cf rfl ?_
    | refine aw_block ?_
    | with_reducible refine then_n ?_
    | refine aw_skip ?_
    | refine aw_exit ?_
    | with_reducible refine then_x ?_
    | with_reducible refine then_r ?_
    | with_reducible refine block_x ?_
    | with_reducible refine block_n ?_
    | with_reducible refine block_r ?_
    | refine aw_ret ?_
theorem c_together (rs : List Rn) (hok : okRn rs) (ht : tot rs ≤ 100000000) : Meets Go.Proofs.Try.prog 80 [rnL rs] [] (.sl 0 0 rs.flatten.length) [rwR rs.flatten] false := by
  have hl := hok.1
  refine meets_of [2] Go.Proofs.Try.func80 rfl rfl ?_
  simp only [Go.Proofs.Try.ntmps80, List.length_cons, List.length_nil, Nat.reduceAdd, Nat.reduceSub, List.replicate_succ, List.replicate_zero, List.cons_append, List.nil_append]
  repeat' first
    | refine aw_seq ?_
    | refine aw_region ?_
    | refine aw_lex [] ?_
    | (refine isA ?_; refine do_F rfl ?_)
    | (refine isL ?_; refine lex_F rfl (by kernel_rfl) rfl rfl ?_)
    | (refine isLg rfl ?_; refine lex_S rfl (by kernel_rfl) rfl rfl ?_)
    | refine aops_nil ?_
    | refine lex_done _ rfl (by kernel_rfl) ?_
    | refine aw_ct rfl ?_
    | refine aw_cf rfl ?_
    | refine aw_block ?_
    | with_reducible refine then_n ?_
    | refine aw_skip ?_
    | refine aw_exit ?_
    | with_reducible refine then_x ?_
    | with_reducible refine then_r ?_
    | with_reducible refine block_x ?_
    | with_reducible refine block_n ?_
    | with_reducible refine block_r ?_
    | refine aw_ret ?_
  refine aw_loop (α := { i : Nat // i ≤ rs.length }) (fun i => ⟨[.any, .any, .any, .sl 0 0 (rs.take i.1).flatten.length, .any, .any, .any, rnL rs, I rs.length, I i.1, .any, .any, .any, .any, .any, .any, .any, .any], [rwR (rs.take i.1).flatten], 0⟩) (fun i => rs.length - i.1) ⟨0, Nat.zero_le _⟩ ?_ ?_
  · exact sub_id rfl (by repeat' first | exact EqS.nil | refine EqS.any ?_ | refine EqS.same rfl ?_)
  · rintro ⟨i, hi⟩
    repeat' first
      | refine aw_seq ?_
      | refine aw_region ?_
      | refine aw_lex [] ?_
      | (refine isA ?_; refine do_F rfl ?_)
      | (refine isL ?_; refine lex_F rfl (by kernel_rfl) rfl rfl ?_)
      | (refine isLg rfl ?_; refine lex_S rfl (by kernel_rfl) rfl rfl ?_)
      | refine aops_nil ?_
      | refine lex_done _ rfl (by kernel_rfl) ?_
      | refine aw_ct rfl ?_
      | refine aw_cf rfl ?_
      | refine aw_block ?_
      | with_reducible refine then_n ?_
      | refine aw_skip ?_
      | refine aw_exit ?_
      | with_reducible refine then_x ?_
      | with_reducible refine then_r ?_
      | with_reducible refine block_x ?_
      | with_reducible refine block_n ?_
      | with_reducible refine block_r ?_
      | refine aw_ret ?_
    refine aw_cond rfl (fun h => ?_) (fun h => ?_)
    · have hlt : i < rs.length := by simpa using h
      obtain ⟨z, hz⟩ : ∃ z, rs[i]? = some z := ⟨_, List.getElem?_eq_getElem hlt⟩
      have h1 := tot_le rs (i + 1)
      rw [tot_snoc hz] at h1
      have h2 := flat_len (rs.take i)
      repeat' first
        | refine aw_seq ?_
        | refine aw_region ?_
        | refine aw_lex [] ?_
        | (refine isA ?_; refine do_F rfl ?_)
        | (refine isL ?_; refine lex_F rfl (by kernel_rfl) rfl rfl ?_)
        | (refine isLg rfl ?_; refine lex_S rfl (by kernel_rfl) rfl rfl ?_)
        | (refine isAi ?_; refine do_R rfl (ia_l (t := rnT) (z := z) rfl rfl rfl rfl (Int.natCast_nonneg i) hz) rfl ?_)
        | (refine isLi rfl ?_; refine lex_R rfl (by kernel_rfl) rfl (ia_l (t := rnT) (z := z) rfl rfl rfl rfl (Int.natCast_nonneg i) hz) rfl ?_)
        | (refine isAp ?_; refine do_R rfl (ap_l (t := rwT) (xs := (rs.take i).flatten) (ys := z) rfl rfl rfl rfl (.lst _ _) (by omega) rfl) rfl ?_)
        | (refine isLp rfl ?_; refine lex_R rfl (by kernel_rfl) rfl (ap_l (t := rwT) (xs := (rs.take i).flatten) (ys := z) rfl rfl rfl rfl (.lst _ _) (by omega) rfl) rfl ?_)
        | refine aops_nil ?_
        | refine lex_done _ rfl (by kernel_rfl) ?_
        | refine aw_ct rfl ?_
        | refine aw_cf rfl ?_
        | refine aw_block ?_
        | with_reducible refine then_n ?_
        | refine aw_skip ?_
        | refine aw_exit ?_
        | with_reducible refine then_x ?_
        | with_reducible refine then_r ?_
        | with_reducible refine block_x ?_
        | with_reducible refine block_n ?_
        | with_reducible refine block_r ?_
        | refine aw_ret ?_
      refine ⟨⟨i + 1, hlt⟩, by simp only; omega, ?_⟩
      exact sub0 [1] rfl rfl (by decide) (.cons rfl rfl rfl rfl (les_eq (by rw [flat_snoc hz]) (flat_noH _ _)) .nil) (by
        repeat' first
          | exact les_nil
          | refine les_cons ?_ ?_
          | exact le_any
          | exact le_refl rfl
          | exact le_sl rfl rfl
          | exact le_sl rfl (by rw [flat_snoc hz, List.length_append])
          | exact le_i (by assumption) (by omega))
    · have hge : i = rs.length := by
        have : ¬ ((i : Int) < rs.length) := by simpa using h
        omega
      subst hge
      repeat' first
        | refine aw_seq ?_
        | refine aw_region ?_
        | refine aw_lex [] ?_
        | (refine isA ?_; refine do_F rfl ?_)
        | (refine isL ?_; refine lex_F rfl (by kernel_rfl) rfl rfl ?_)
        | (refine isLg rfl ?_; refine lex_S rfl (by kernel_rfl) rfl rfl ?_)
        | exact finL (ty := rwT) rfl rfl rfl rfl (by simp) (by simp) (flat_rw _)
        | refine aops_nil ?_
        | refine lex_done _ rfl (by kernel_rfl) ?_
        | refine aw_ct rfl ?_
        | refine aw_cf rfl ?_
        | refine aw_block ?_
        | with_reducible refine then_n ?_
        | refine aw_skip ?_
        | refine aw_exit ?_
        | with_reducible refine then_x ?_
        | with_reducible refine then_r ?_
        | with_reducible refine block_x ?_
        | with_reducible refine block_n ?_
        | with_reducible refine block_r ?_
        | refine aw_ret ?_
end Go.Proofs.Ytojcojanokhnaaa.Ab
