/-
  FnAccounting: the law.
-/
import Derived.Test.YtjlhfemfmkdlhaaDrwG
import Derived.Test.YtjlhfemfmkdlhaaAb2
namespace Go.Proofs.Ytjlhfemfmkdlhaa.Ab
open Go.RowKit
set_option linter.unusedVariables false
set_option linter.unusedSimpArgs false
set_option maxRecDepth 20000
set_option maxHeartbeats 4000000

theorem neqAc {o : Oper} {ρ : Operand → V} {H : List Reg} {t' : TypeId} {x y : Operand} {a : Ac} (ho : o.op = .binOp .neq 64 x y t') (hx : ρ x = .agg (acE a)) (hy : ρ y = .agg (acE a)) : Step Go.Proofs.Try.prog o ρ H (B false) H :=
  neqA_same [a.u, a.g, a.p, a.s] _ (intFs_of Go.Proofs.Try.underlying64 (by kernel_rfl) (by kernel_rfl) (by kernel_rfl)) rfl ho hx hy
theorem eqlAc {o : Oper} {ρ : Operand → V} {H : List Reg} {t' : TypeId} {x y : Operand} {a : Ac} (ho : o.op = .binOp .eql 64 x y t') (hx : ρ x = .agg (acE a)) (hy : ρ y = .agg (acE a)) : Step Go.Proofs.Try.prog o ρ H (B true) H :=
  eqlA_same [a.u, a.g, a.p, a.s] _ (intFs_of Go.Proofs.Try.underlying64 (by kernel_rfl) (by kernel_rfl) (by kernel_rfl)) rfl ho hx hy

theorem ch_false {a : Ac} {n : Int} (h : (chV a n).2 = false) : (chV a n).1 = a := by
  cases hb : badCh a n with
  | true => rw [ch_no hb]
  | false => rw [ch_yes hb] at h; cases h
theorem ch_good {a : Ac} {n : Int} (h : (chV a n).2 = true) : ∃ x : Ac, chV a n = (x, true) ∧ validA x = true ∧ x.u ≤ x.g ∧ x.u ≤ x.p ∧ excV x = 0 ∧ reV x n = (⟨a.u, x.g, x.p, x.s⟩, true) := by
  cases hb : badCh a n with
  | true => rw [ch_no hb] at h; cases h
  | false =>
    refine ⟨_, ch_yes hb, ?_⟩
    simp only [badCh, validA, inV, Bool.or_eq_false_iff, Bool.not_eq_false', Bool.and_eq_true, decide_eq_true_eq, decide_eq_false_iff_not] at hb
    obtain ⟨⟨⟨h1, h2⟩, ⟨h3, h4⟩, ⟨h5, h6⟩, h7, h8⟩, ⟨h9, h10⟩, h11⟩ := hb
    have e : IntKind.i64.wrap (a.u + n) = a.u + n := by rw [IntKind.wrap_i64]; omega
    rw [e] at h11 ⊢
    have hm : a.p ≤ mxV a.p (a.u + n) ∧ a.u + n ≤ mxV a.p (a.u + n) ∧ mxV a.p (a.u + n) ≤ 60 := by unfold mxV; split <;> omega
    have hv : validA ⟨a.u + n, a.g, mxV a.p (a.u + n), a.s⟩ = true := by
      simp only [validA, inV, Bool.and_eq_true, decide_eq_true_eq]
      omega
    refine ⟨hv, by simp only; omega, by simp only; omega, ?_, ?_⟩
    · rw [excV, hv, cond_true]
      have e2 : IntKind.i64.wrap (a.u + n - a.g) = a.u + n - a.g := by rw [IntKind.wrap_i64]; omega
      simp only [e2, mxV]
      rw [if_neg (by omega)]
    · have hre : badRe ⟨a.u + n, a.g, mxV a.p (a.u + n), a.s⟩ n = false := by
        simp only [badRe, hv, inV, Bool.not_true, Bool.false_or, Bool.not_eq_false', Bool.and_eq_true, decide_eq_true_eq]
        omega
      rw [re_yes hre]
      have e3 : IntKind.i64.wrap (a.u + n - n) = a.u := by rw [IntKind.wrap_i64]; omega
      simp only [e3]
theorem sg_good {a : Ac} {n : Int} (h : (sgV a n).2 = true) : validA (sgV a n).1 = true ∧ (sgV a n).1.g = n := by
  cases hb : badSg a n with
  | true => rw [sg_no hb] at h; cases h
  | false =>
    have hb' := hb
    simp only [badSg, validA, inV, Bool.or_eq_false_iff, Bool.not_eq_false', Bool.and_eq_true, decide_eq_true_eq, decide_eq_false_iff_not] at hb'
    obtain ⟨⟨⟨h1, h2⟩, ⟨h3, h4⟩, ⟨h5, h6⟩, h7, h8⟩, ⟨h9, h10⟩, h11⟩ := hb'
    have e : IntKind.i64.wrap (a.s + 1) = a.s + 1 := by rw [IntKind.wrap_i64]; omega
    cases hu : decide (n < a.u) with
    | true =>
      rw [sg_more hb hu, e]
      refine ⟨?_, rfl⟩
      simp only [validA, inV, Bool.and_eq_true, decide_eq_true_eq]
      omega
    | false =>
      rw [sg_less hb hu]
      refine ⟨?_, rfl⟩
      simp only [validA, inV, Bool.and_eq_true, decide_eq_true_eq]
      omega
theorem exc_good {a : Ac} {n : Int} (h : validA a = true) (hg : a.g = n) : excV a = mxV 0 (IntKind.i64.wrap (a.u - n)) := by rw [excV, h, cond_true, hg]

theorem law_Accounting (xs : List Int) (hl0 : xs.length ≤ 9223372036854775807) : Meets Go.Proofs.Try.prog 14 [lstOf u8T xs] [] (B true) [] false := by
  refine meets_of [2] Go.Proofs.Try.func14 rfl rfl ?_
  simp only [Go.Proofs.Try.ntmps14, List.length_cons, List.length_nil, Nat.reduceAdd, Nat.reduceSub, List.replicate_succ, List.replicate_zero, List.cons_append, List.nil_append]
  repeat' first
    | refine aw_seq ?_
    | refine aw_region ?_
    | refine aw_lex [] ?_
    | (refine isA ?_; refine do_F rfl ?_)
    | (refine isL ?_; refine lex_F rfl (by kernel_rfl) rfl rfl ?_)
    | (refine isLg rfl ?_; refine lex_S rfl (by kernel_rfl) rfl rfl ?_)
    | (refine isAc 37 ?_; refine do_R rfl (st_call rfl (c_big xs) (.cons (.same rfl) .nil) rfl) rfl ?_)
    | (refine isLc 37 rfl ?_; refine lex_R rfl (by kernel_rfl) rfl (st_call rfl (c_big xs) (.cons (.same rfl) .nil) rfl) rfl ?_)
    | refine aops_nil ?_
    | refine lex_done _ rfl (by kernel_rfl) ?_
    | refine aw_ct rfl ?_
    | refine aw_cf rfl ?_
    | refine aw_block ?_
    | refine then_n ?_
    | refine aw_skip ?_
    | refine aw_exit ?_
    | refine then_x ?_
    | refine then_r ?_
    | refine block_x ?_
    | refine block_n ?_
    | refine block_r ?_
    | refine aw_ret ?_
  refine aw_cond rfl (fun h => ?_) (fun h => ?_)
  · repeat' first
      | refine aw_seq ?_
      | refine aw_region ?_
      | refine aw_lex [] ?_
      | (refine isA ?_; refine do_F rfl ?_)
      | (refine isL ?_; refine lex_F rfl (by kernel_rfl) rfl rfl ?_)
      | (refine isLg rfl ?_; refine lex_S rfl (by kernel_rfl) rfl rfl ?_)
      | exact fin1 rfl rfl rfl
      | refine aops_nil ?_
      | refine lex_done _ rfl (by kernel_rfl) ?_
      | refine aw_ct rfl ?_
      | refine aw_cf rfl ?_
      | refine aw_block ?_
      | refine then_n ?_
      | refine aw_skip ?_
      | refine aw_exit ?_
      | refine then_x ?_
      | refine then_r ?_
      | refine block_x ?_
      | refine block_n ?_
      | refine block_r ?_
      | refine aw_ret ?_
  have hl : xs.length ≤ 1000000000 := by have := of_decide_eq_false h; omega
  have d1 := c_drawCh xs hl
  have d2 := c_drawSg xs hl
  have d3 := c_drawRe xs hl
  generalize dcV xs = p at d1 d2 d3
  obtain ⟨a, n⟩ := p
  simp only at d1 d2 d3
  repeat' first
    | (refine isL ?_; refine lex_R rfl (by kernel_rfl) rfl (neqB_same rfl rfl rfl (by kernel_rfl)) rfl ?_)
    | (refine isL ?_; refine lex_R rfl (by kernel_rfl) rfl (neqI_same rfl rfl rfl) rfl ?_)
    | (refine isL ?_; refine lex_R rfl (by kernel_rfl) rfl (neqAc rfl rfl rfl) rfl ?_)
    | refine aw_seq ?_
    | refine aw_region ?_
    | refine aw_lex [] ?_
    | (refine isA ?_; refine do_F rfl ?_)
    | (refine isL ?_; refine lex_F rfl (by kernel_rfl) rfl rfl ?_)
    | (refine isLg rfl ?_; refine lex_S rfl (by kernel_rfl) rfl rfl ?_)
    | (refine isAc 49 ?_; refine do_R rfl (st_call rfl d1 (.cons (.same rfl) .nil) rfl) rfl ?_)
    | (refine isLc 49 rfl ?_; refine lex_R rfl (by kernel_rfl) rfl (st_call rfl d1 (.cons (.same rfl) .nil) rfl) rfl ?_)
    | (refine isAc 56 ?_; refine do_R rfl (st_call rfl d2 (.cons (.same rfl) .nil) rfl) rfl ?_)
    | (refine isLc 56 rfl ?_; refine lex_R rfl (by kernel_rfl) rfl (st_call rfl d2 (.cons (.same rfl) .nil) rfl) rfl ?_)
    | (refine isAc 59 ?_; refine do_R rfl (st_call rfl d3 (.cons (.same rfl) .nil) rfl) rfl ?_)
    | (refine isLc 59 rfl ?_; refine lex_R rfl (by kernel_rfl) rfl (st_call rfl d3 (.cons (.same rfl) .nil) rfl) rfl ?_)
    | (refine isAc 62 ?_; refine do_R rfl (st_call rfl (c_drawNA xs hl) (.cons (.same rfl) .nil) rfl) rfl ?_)
    | (refine isLc 62 rfl ?_; refine lex_R rfl (by kernel_rfl) rfl (st_call rfl (c_drawNA xs hl) (.cons (.same rfl) .nil) rfl) rfl ?_)
    | (refine isAc 50 ?_; refine do_R rfl (st_call rfl (c_ich _ _) (.cons (.same rfl) (.cons (.same rfl) .nil)) rfl) rfl ?_)
    | (refine isLc 50 rfl ?_; refine lex_R rfl (by kernel_rfl) rfl (st_call rfl (c_ich _ _) (.cons (.same rfl) (.cons (.same rfl) .nil)) rfl) rfl ?_)
    | (refine isAc 51 ?_; refine do_R rfl (st_call rfl (c_sch _ _) (.cons (.same rfl) (.cons (.same rfl) .nil)) rfl) rfl ?_)
    | (refine isLc 51 rfl ?_; refine lex_R rfl (by kernel_rfl) rfl (st_call rfl (c_sch _ _) (.cons (.same rfl) (.cons (.same rfl) .nil)) rfl) rfl ?_)
    | (refine isAc 57 ?_; refine do_R rfl (st_call rfl (c_isg _ _) (.cons (.same rfl) (.cons (.same rfl) .nil)) rfl) rfl ?_)
    | (refine isLc 57 rfl ?_; refine lex_R rfl (by kernel_rfl) rfl (st_call rfl (c_isg _ _) (.cons (.same rfl) (.cons (.same rfl) .nil)) rfl) rfl ?_)
    | (refine isAc 58 ?_; refine do_R rfl (st_call rfl (c_ssg _ _) (.cons (.same rfl) (.cons (.same rfl) .nil)) rfl) rfl ?_)
    | (refine isLc 58 rfl ?_; refine lex_R rfl (by kernel_rfl) rfl (st_call rfl (c_ssg _ _) (.cons (.same rfl) (.cons (.same rfl) .nil)) rfl) rfl ?_)
    | (refine isAc 60 ?_; refine do_R rfl (st_call rfl (c_irel _ _) (.cons (.same rfl) (.cons (.same rfl) .nil)) rfl) rfl ?_)
    | (refine isLc 60 rfl ?_; refine lex_R rfl (by kernel_rfl) rfl (st_call rfl (c_irel _ _) (.cons (.same rfl) (.cons (.same rfl) .nil)) rfl) rfl ?_)
    | (refine isAc 61 ?_; refine do_R rfl (st_call rfl (c_srel _ _) (.cons (.same rfl) (.cons (.same rfl) .nil)) rfl) rfl ?_)
    | (refine isLc 61 rfl ?_; refine lex_R rfl (by kernel_rfl) rfl (st_call rfl (c_srel _ _) (.cons (.same rfl) (.cons (.same rfl) .nil)) rfl) rfl ?_)
    | (refine isAc 63 ?_; refine do_R rfl (st_call rfl (c_ina _) (.cons (.same rfl) .nil) rfl) rfl ?_)
    | (refine isLc 63 rfl ?_; refine lex_R rfl (by kernel_rfl) rfl (st_call rfl (c_ina _) (.cons (.same rfl) .nil) rfl) rfl ?_)
    | (refine isAc 64 ?_; refine do_R rfl (st_call rfl (c_sna _) (.cons (.same rfl) .nil) rfl) rfl ?_)
    | (refine isLc 64 rfl ?_; refine lex_R rfl (by kernel_rfl) rfl (st_call rfl (c_sna _) (.cons (.same rfl) .nil) rfl) rfl ?_)
    | (refine isAc 52 ?_; refine do_R rfl (st_call rfl (c_ivalA _) (.cons (.same rfl) .nil) rfl) rfl ?_)
    | (refine isLc 52 rfl ?_; refine lex_R rfl (by kernel_rfl) rfl (st_call rfl (c_ivalA _) (.cons (.same rfl) .nil) rfl) rfl ?_)
    | (refine isAc 53 ?_; refine do_R rfl (st_call rfl (c_svalA _) (.cons (.same rfl) .nil) rfl) rfl ?_)
    | (refine isLc 53 rfl ?_; refine lex_R rfl (by kernel_rfl) rfl (st_call rfl (c_svalA _) (.cons (.same rfl) .nil) rfl) rfl ?_)
    | (refine isAc 54 ?_; refine do_R rfl (st_call rfl (c_iexc _) (.cons (.same rfl) .nil) rfl) rfl ?_)
    | (refine isLc 54 rfl ?_; refine lex_R rfl (by kernel_rfl) rfl (st_call rfl (c_iexc _) (.cons (.same rfl) .nil) rfl) rfl ?_)
    | (refine isAc 55 ?_; refine do_R rfl (st_call rfl (c_sexc _) (.cons (.same rfl) .nil) rfl) rfl ?_)
    | (refine isLc 55 rfl ?_; refine lex_R rfl (by kernel_rfl) rfl (st_call rfl (c_sexc _) (.cons (.same rfl) .nil) rfl) rfl ?_)
    | refine aops_nil ?_
    | refine lex_done _ rfl (by kernel_rfl) ?_
    | refine aw_ct rfl ?_
    | refine aw_cf rfl ?_
    | refine aw_block ?_
    | refine then_n ?_
    | refine aw_skip ?_
    | refine aw_exit ?_
    | refine then_x ?_
    | refine then_r ?_
    | refine block_x ?_
    | refine block_n ?_
    | refine block_r ?_
    | refine aw_ret ?_
  refine lex_br rfl rfl rfl rfl (fun h1 => ?_) (fun h1 => ?_)
  · skip
    have hv := c_ivalA (sgV a n).1
    obtain ⟨v1, v2⟩ := sg_good h1
    rw [v1] at hv
    have hx := c_iexc (sgV a n).1
    rw [exc_good v1 v2] at hx
    repeat' first
      | (refine isL ?_; refine lex_R rfl (by kernel_rfl) rfl (neqB_same rfl rfl rfl (by kernel_rfl)) rfl ?_)
      | (refine isL ?_; refine lex_R rfl (by kernel_rfl) rfl (neqI_same rfl rfl rfl) rfl ?_)
      | (refine isL ?_; refine lex_R rfl (by kernel_rfl) rfl (neqAc rfl rfl rfl) rfl ?_)
      | refine aw_seq ?_
      | refine aw_region ?_
      | refine aw_lex [] ?_
      | (refine isA ?_; refine do_F rfl ?_)
      | (refine isL ?_; refine lex_F rfl (by kernel_rfl) rfl rfl ?_)
      | (refine isLg rfl ?_; refine lex_S rfl (by kernel_rfl) rfl rfl ?_)
      | (refine isAc 52 ?_; refine do_R rfl (st_call rfl hv (.cons (.same rfl) .nil) rfl) rfl ?_)
      | (refine isLc 52 rfl ?_; refine lex_R rfl (by kernel_rfl) rfl (st_call rfl hv (.cons (.same rfl) .nil) rfl) rfl ?_)
      | (refine isAc 54 ?_; refine do_R rfl (st_call rfl hx (.cons (.same rfl) .nil) rfl) rfl ?_)
      | (refine isLc 54 rfl ?_; refine lex_R rfl (by kernel_rfl) rfl (st_call rfl hx (.cons (.same rfl) .nil) rfl) rfl ?_)
      | refine aops_nil ?_
      | refine lex_done _ rfl (by kernel_rfl) ?_
      | refine aw_ct rfl ?_
      | refine aw_cf rfl ?_
      | refine aw_block ?_
      | refine then_n ?_
      | refine aw_skip ?_
      | refine aw_exit ?_
      | refine then_x ?_
      | refine then_r ?_
      | refine block_x ?_
      | refine block_n ?_
      | refine block_r ?_
      | refine aw_ret ?_
    refine aw_cond rfl (fun h2 => ?_) (fun h2 => ?_)
    · have h2 : (chV a n).2 = false := by simpa using h2
      have hf := ch_false h2
      simp only [hf]
      repeat' first
        | (refine isA ?_; refine do_R rfl (eqlAc rfl rfl rfl) rfl ?_)
        | refine aw_seq ?_
        | refine aw_region ?_
        | refine aw_lex [] ?_
        | (refine isA ?_; refine do_F rfl ?_)
        | (refine isL ?_; refine lex_F rfl (by kernel_rfl) rfl rfl ?_)
        | (refine isLg rfl ?_; refine lex_S rfl (by kernel_rfl) rfl rfl ?_)
        | exact fin1 rfl rfl rfl
        | refine aops_nil ?_
        | refine lex_done _ rfl (by kernel_rfl) ?_
        | refine aw_ct rfl ?_
        | refine aw_cf rfl ?_
        | refine aw_block ?_
        | refine then_n ?_
        | refine aw_skip ?_
        | refine aw_exit ?_
        | refine then_x ?_
        | refine then_r ?_
        | refine block_x ?_
        | refine block_n ?_
        | refine block_r ?_
        | refine aw_ret ?_
    · have h2 : (chV a n).2 = true := by simpa using h2
      obtain ⟨x, e, x1, x2, x3, x4, x5⟩ := ch_good h2
      have hv := c_ivalA x
      rw [x1] at hv
      have hx := c_iexc x
      rw [x4] at hx
      have hr := c_irel x n
      rw [x5] at hr
      simp only [e]
      repeat' first
        | refine aw_seq ?_
        | refine aw_region ?_
        | refine aw_lex [] ?_
        | (refine isA ?_; refine do_F rfl ?_)
        | (refine isL ?_; refine lex_F rfl (by kernel_rfl) rfl rfl ?_)
        | (refine isLg rfl ?_; refine lex_S rfl (by kernel_rfl) rfl rfl ?_)
        | (refine isAc 52 ?_; refine do_R rfl (st_call rfl hv (.cons (.same rfl) .nil) rfl) rfl ?_)
        | (refine isLc 52 rfl ?_; refine lex_R rfl (by kernel_rfl) rfl (st_call rfl hv (.cons (.same rfl) .nil) rfl) rfl ?_)
        | (refine isAc 54 ?_; refine do_R rfl (st_call rfl hx (.cons (.same rfl) .nil) rfl) rfl ?_)
        | (refine isLc 54 rfl ?_; refine lex_R rfl (by kernel_rfl) rfl (st_call rfl hx (.cons (.same rfl) .nil) rfl) rfl ?_)
        | (refine isAc 60 ?_; refine do_R rfl (st_call rfl hr (.cons (.same rfl) (.cons (.same rfl) .nil)) rfl) rfl ?_)
        | (refine isLc 60 rfl ?_; refine lex_R rfl (by kernel_rfl) rfl (st_call rfl hr (.cons (.same rfl) (.cons (.same rfl) .nil)) rfl) rfl ?_)
        | refine aops_nil ?_
        | refine lex_done _ rfl (by kernel_rfl) ?_
        | refine aw_ct rfl ?_
        | refine aw_cf rfl ?_
        | refine aw_block ?_
        | refine then_n ?_
        | refine aw_skip ?_
        | refine aw_exit ?_
        | refine then_x ?_
        | refine then_r ?_
        | refine block_x ?_
        | refine block_n ?_
        | refine block_r ?_
        | refine aw_ret ?_
      refine do_br rfl rfl (fun _ => ?_) (fun h => absurd (of_decide_eq_false h) (by omega))
      repeat' first
        | refine aw_seq ?_
        | refine aw_region ?_
        | refine aw_lex [] ?_
        | (refine isA ?_; refine do_F rfl ?_)
        | (refine isL ?_; refine lex_F rfl (by kernel_rfl) rfl rfl ?_)
        | (refine isLg rfl ?_; refine lex_S rfl (by kernel_rfl) rfl rfl ?_)
        | refine aops_nil ?_
        | refine lex_done _ rfl (by kernel_rfl) ?_
        | refine aw_ct rfl ?_
        | refine aw_cf rfl ?_
        | refine aw_block ?_
        | refine then_n ?_
        | refine aw_skip ?_
        | refine aw_exit ?_
        | refine then_x ?_
        | refine then_r ?_
        | refine block_x ?_
        | refine block_n ?_
        | refine block_r ?_
        | refine aw_ret ?_
      refine do_br rfl rfl (fun _ => ?_) (fun h => absurd (of_decide_eq_false h) (by omega))
      repeat' first
        | refine aw_seq ?_
        | refine aw_region ?_
        | refine aw_lex [] ?_
        | (refine isA ?_; refine do_F rfl ?_)
        | (refine isL ?_; refine lex_F rfl (by kernel_rfl) rfl rfl ?_)
        | (refine isLg rfl ?_; refine lex_S rfl (by kernel_rfl) rfl rfl ?_)
        | (refine isAc 54 ?_; refine do_R rfl (st_call rfl hx (.cons (.same rfl) .nil) rfl) rfl ?_)
        | (refine isLc 54 rfl ?_; refine lex_R rfl (by kernel_rfl) rfl (st_call rfl hx (.cons (.same rfl) .nil) rfl) rfl ?_)
        | refine aops_nil ?_
        | refine lex_done _ rfl (by kernel_rfl) ?_
        | refine aw_ct rfl ?_
        | refine aw_cf rfl ?_
        | refine aw_block ?_
        | refine then_n ?_
        | refine aw_skip ?_
        | refine aw_exit ?_
        | refine then_x ?_
        | refine then_r ?_
        | refine block_x ?_
        | refine block_n ?_
        | refine block_r ?_
        | refine aw_ret ?_
      refine do_br rfl rfl (fun _ => ?_) (fun h => by simp at h)
      repeat' first
        | refine aw_seq ?_
        | refine aw_region ?_
        | refine aw_lex [] ?_
        | (refine isA ?_; refine do_F rfl ?_)
        | (refine isL ?_; refine lex_F rfl (by kernel_rfl) rfl rfl ?_)
        | (refine isLg rfl ?_; refine lex_S rfl (by kernel_rfl) rfl rfl ?_)
        | exact fin1 rfl rfl (by simp)
        | refine aops_nil ?_
        | refine lex_done _ rfl (by kernel_rfl) ?_
        | refine aw_ct rfl ?_
        | refine aw_cf rfl ?_
        | refine aw_block ?_
        | refine then_n ?_
        | refine aw_skip ?_
        | refine aw_exit ?_
        | refine then_x ?_
        | refine then_r ?_
        | refine block_x ?_
        | refine block_n ?_
        | refine block_r ?_
        | refine aw_ret ?_
  · skip
    repeat' first
      | (refine isL ?_; refine lex_R rfl (by kernel_rfl) rfl (neqB_same rfl rfl rfl (by kernel_rfl)) rfl ?_)
      | (refine isL ?_; refine lex_R rfl (by kernel_rfl) rfl (neqI_same rfl rfl rfl) rfl ?_)
      | (refine isL ?_; refine lex_R rfl (by kernel_rfl) rfl (neqAc rfl rfl rfl) rfl ?_)
      | refine aw_seq ?_
      | refine aw_region ?_
      | refine aw_lex [] ?_
      | (refine isA ?_; refine do_F rfl ?_)
      | (refine isL ?_; refine lex_F rfl (by kernel_rfl) rfl rfl ?_)
      | (refine isLg rfl ?_; refine lex_S rfl (by kernel_rfl) rfl rfl ?_)
      | refine aops_nil ?_
      | refine lex_done _ rfl (by kernel_rfl) ?_
      | refine aw_ct rfl ?_
      | refine aw_cf rfl ?_
      | refine aw_block ?_
      | refine then_n ?_
      | refine aw_skip ?_
      | refine aw_exit ?_
      | refine then_x ?_
      | refine then_r ?_
      | refine block_x ?_
      | refine block_n ?_
      | refine block_r ?_
      | refine aw_ret ?_
    refine aw_cond rfl (fun h2 => ?_) (fun h2 => ?_)
    · have h2 : (chV a n).2 = false := by simpa using h2
      have hf := ch_false h2
      simp only [hf]
      repeat' first
        | (refine isA ?_; refine do_R rfl (eqlAc rfl rfl rfl) rfl ?_)
        | refine aw_seq ?_
        | refine aw_region ?_
        | refine aw_lex [] ?_
        | (refine isA ?_; refine do_F rfl ?_)
        | (refine isL ?_; refine lex_F rfl (by kernel_rfl) rfl rfl ?_)
        | (refine isLg rfl ?_; refine lex_S rfl (by kernel_rfl) rfl rfl ?_)
        | exact fin1 rfl rfl rfl
        | refine aops_nil ?_
        | refine lex_done _ rfl (by kernel_rfl) ?_
        | refine aw_ct rfl ?_
        | refine aw_cf rfl ?_
        | refine aw_block ?_
        | refine then_n ?_
        | refine aw_skip ?_
        | refine aw_exit ?_
        | refine then_x ?_
        | refine then_r ?_
        | refine block_x ?_
        | refine block_n ?_
        | refine block_r ?_
        | refine aw_ret ?_
    · have h2 : (chV a n).2 = true := by simpa using h2
      obtain ⟨x, e, x1, x2, x3, x4, x5⟩ := ch_good h2
      have hv := c_ivalA x
      rw [x1] at hv
      have hx := c_iexc x
      rw [x4] at hx
      have hr := c_irel x n
      rw [x5] at hr
      simp only [e]
      repeat' first
        | refine aw_seq ?_
        | refine aw_region ?_
        | refine aw_lex [] ?_
        | (refine isA ?_; refine do_F rfl ?_)
        | (refine isL ?_; refine lex_F rfl (by kernel_rfl) rfl rfl ?_)
        | (refine isLg rfl ?_; refine lex_S rfl (by kernel_rfl) rfl rfl ?_)
        | (refine isAc 52 ?_; refine do_R rfl (st_call rfl hv (.cons (.same rfl) .nil) rfl) rfl ?_)
        | (refine isLc 52 rfl ?_; refine lex_R rfl (by kernel_rfl) rfl (st_call rfl hv (.cons (.same rfl) .nil) rfl) rfl ?_)
        | (refine isAc 54 ?_; refine do_R rfl (st_call rfl hx (.cons (.same rfl) .nil) rfl) rfl ?_)
        | (refine isLc 54 rfl ?_; refine lex_R rfl (by kernel_rfl) rfl (st_call rfl hx (.cons (.same rfl) .nil) rfl) rfl ?_)
        | (refine isAc 60 ?_; refine do_R rfl (st_call rfl hr (.cons (.same rfl) (.cons (.same rfl) .nil)) rfl) rfl ?_)
        | (refine isLc 60 rfl ?_; refine lex_R rfl (by kernel_rfl) rfl (st_call rfl hr (.cons (.same rfl) (.cons (.same rfl) .nil)) rfl) rfl ?_)
        | refine aops_nil ?_
        | refine lex_done _ rfl (by kernel_rfl) ?_
        | refine aw_ct rfl ?_
        | refine aw_cf rfl ?_
        | refine aw_block ?_
        | refine then_n ?_
        | refine aw_skip ?_
        | refine aw_exit ?_
        | refine then_x ?_
        | refine then_r ?_
        | refine block_x ?_
        | refine block_n ?_
        | refine block_r ?_
        | refine aw_ret ?_
      refine do_br rfl rfl (fun _ => ?_) (fun h => absurd (of_decide_eq_false h) (by omega))
      repeat' first
        | refine aw_seq ?_
        | refine aw_region ?_
        | refine aw_lex [] ?_
        | (refine isA ?_; refine do_F rfl ?_)
        | (refine isL ?_; refine lex_F rfl (by kernel_rfl) rfl rfl ?_)
        | (refine isLg rfl ?_; refine lex_S rfl (by kernel_rfl) rfl rfl ?_)
        | refine aops_nil ?_
        | refine lex_done _ rfl (by kernel_rfl) ?_
        | refine aw_ct rfl ?_
        | refine aw_cf rfl ?_
        | refine aw_block ?_
        | refine then_n ?_
        | refine aw_skip ?_
        | refine aw_exit ?_
        | refine then_x ?_
        | refine then_r ?_
        | refine block_x ?_
        | refine block_n ?_
        | refine block_r ?_
        | refine aw_ret ?_
      refine do_br rfl rfl (fun _ => ?_) (fun h => absurd (of_decide_eq_false h) (by omega))
      repeat' first
        | refine aw_seq ?_
        | refine aw_region ?_
        | refine aw_lex [] ?_
        | (refine isA ?_; refine do_F rfl ?_)
        | (refine isL ?_; refine lex_F rfl (by kernel_rfl) rfl rfl ?_)
        | (refine isLg rfl ?_; refine lex_S rfl (by kernel_rfl) rfl rfl ?_)
        | (refine isAc 54 ?_; refine do_R rfl (st_call rfl hx (.cons (.same rfl) .nil) rfl) rfl ?_)
        | (refine isLc 54 rfl ?_; refine lex_R rfl (by kernel_rfl) rfl (st_call rfl hx (.cons (.same rfl) .nil) rfl) rfl ?_)
        | refine aops_nil ?_
        | refine lex_done _ rfl (by kernel_rfl) ?_
        | refine aw_ct rfl ?_
        | refine aw_cf rfl ?_
        | refine aw_block ?_
        | refine then_n ?_
        | refine aw_skip ?_
        | refine aw_exit ?_
        | refine then_x ?_
        | refine then_r ?_
        | refine block_x ?_
        | refine block_n ?_
        | refine block_r ?_
        | refine aw_ret ?_
      refine do_br rfl rfl (fun _ => ?_) (fun h => by simp at h)
      repeat' first
        | refine aw_seq ?_
        | refine aw_region ?_
        | refine aw_lex [] ?_
        | (refine isA ?_; refine do_F rfl ?_)
        | (refine isL ?_; refine lex_F rfl (by kernel_rfl) rfl rfl ?_)
        | (refine isLg rfl ?_; refine lex_S rfl (by kernel_rfl) rfl rfl ?_)
        | exact fin1 rfl rfl (by simp)
        | refine aops_nil ?_
        | refine lex_done _ rfl (by kernel_rfl) ?_
        | refine aw_ct rfl ?_
        | refine aw_cf rfl ?_
        | refine aw_block ?_
        | refine then_n ?_
        | refine aw_skip ?_
        | refine aw_exit ?_
        | refine then_x ?_
        | refine then_r ?_
        | refine block_x ?_
        | refine block_n ?_
        | refine block_r ?_
        | refine aw_ret ?_
end Go.Proofs.Ytjlhfemfmkdlhaa.Ab
