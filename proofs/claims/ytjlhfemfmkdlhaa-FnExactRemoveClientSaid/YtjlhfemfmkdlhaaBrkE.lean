/-
  FnExactIsValidBroker: the other side; the law.
-/
import Derived.Test.YtjlhfemfmkdlhaaBrkD
namespace Go.Proofs.Ytjlhfemfmkdlhaa.Ab
open Go.RowKit
set_option linter.unusedVariables false
set_option linter.unusedSimpArgs false
set_option maxRecDepth 20000
set_option maxHeartbeats 2000000

theorem c_svalid (b : Br) (h1 : b.act.length ≤ 1000000000) (h2 : b.wait.length ≤ 1000000000) : Meets Go.Proofs.Try.prog 24 [.agg (brE b)] [] (B (validB b)) [] false := by
  have hlen : ∀ (i : Nat) (xs : List Cl), [b.act, b.wait][i]? = some xs → xs.length ≤ 1000000000 := fun i xs hx => by
    match i with
    | 0 => simp at hx; subst hx; exact h1
    | 1 => simp at hx; subst hx; exact h2
    | i + 2 => simp at hx
  refine meets_of [2] Go.Proofs.Try.func24 rfl rfl ?_
  simp only [Go.Proofs.Try.ntmps24, List.length_cons, List.length_nil, Nat.reduceAdd, Nat.reduceSub, List.replicate_succ, List.replicate_zero, List.cons_append, List.nil_append]
  repeat' first
    | refine aw_seq ?_
    | refine aw_region ?_
    | refine aw_lex [] ?_
    | (refine isA ?_; refine do_F rfl ?_)
    | (refine isL ?_; refine lex_F rfl (by kernel_rfl) rfl rfl ?_)
    | (refine isLg rfl ?_; refine lex_S rfl (by kernel_rfl) rfl rfl ?_)
    | refine aops_nil ?_
    | refine lex_done _ rfl (by kernel_rfl) ?_
    | refine aw_ct rfl ?_
    | refine aw_cf rfl ?_
    | refine aw_block ?_
    | refine then_n ?_
    | refine aw_skip ?_
    | refine aw_exit ?_
    | refine then_x ?_
    | refine then_r ?_
    | refine block_x ?_
    | refine block_n ?_
    | refine block_r ?_
    | refine aw_ret ?_
  refine aw_loop (α := { i : Nat // i ≤ 2 ∧ ∀ j xs, j < i → [b.act, b.wait][j]? = some xs → allC b.next xs = true }) (fun i => ⟨[.any, .ptr 0 0, .any, .sl 1 0 2, I i.1, .any, .any, .any, .any, .any, .any, .any, .any, .any, .any, .any, .any, .any, .any, .any, .any, .any, .any, .any, .any, .any, .any, .any, .any, .any, .any, .any, .any, .any, .any, .any, .any, .any, .any, .any, .any, .any, .any, .any, .any, .any, .any, .any, .any, .any, .any, .any, .any, .any, .any, .any, .any, .any, .any, .any, .any, .any, .any, .any, .any, .any, .any, .any, .any, .any, .any, .any, .any, .any, .any, .any, .any, .any, .any, .any, .any, .any, .any, .any, .any, .any, .any, .any, .any, .any, .any, .any, .any, .any, .any, .any, .any, .any, .any, .any, .any, .any, .any, .any, .any, .any, .any, .any, .any, .any, .any, .any, .any, .any, .any, .any, .any, .any, .any, .any, .any, .any, .any, .any, .any, .any, .any, .any, .any, .any, .any, .any, .any, .any, .any, .any], [⟨24, 4, brE b, 0⟩, regOf llT 22 [b.act, b.wait]], 0⟩) (fun i => 2 - i.1) ⟨0, by omega, fun j xs hj => absurd hj (Nat.not_lt_zero _)⟩ ?_ ?_
  · exact sub0 [0, 1] rfl rfl (by decide) (by repeat' first | exact HLes.nil | refine HLes.cons rfl rfl rfl rfl ?_ ?_ | exact les_nil | refine les_cons ?_ ?_ | exact le_any | exact le_refl rfl | exact le_sl rfl rfl | exact le_ptr rfl) (by repeat' first | exact les_nil | refine les_cons ?_ ?_ | exact le_any | exact le_refl rfl | exact le_sl rfl rfl | exact le_ptr rfl)
  · rintro ⟨i, hi, hb⟩
    repeat' first
      | refine aw_seq ?_
      | refine aw_region ?_
      | refine aw_lex [] ?_
      | (refine isA ?_; refine do_F rfl ?_)
      | (refine isL ?_; refine lex_F rfl (by kernel_rfl) rfl rfl ?_)
      | (refine isLg rfl ?_; refine lex_S rfl (by kernel_rfl) rfl rfl ?_)
      | refine aops_nil ?_
      | refine lex_done _ rfl (by kernel_rfl) ?_
      | refine aw_ct rfl ?_
      | refine aw_cf rfl ?_
      | refine aw_block ?_
      | refine then_n ?_
      | refine aw_skip ?_
      | refine aw_exit ?_
      | refine then_x ?_
      | refine then_r ?_
      | refine block_x ?_
      | refine block_n ?_
      | refine block_r ?_
      | refine aw_ret ?_
    refine aw_cond rfl (fun h => ?_) (fun h => ?_)
    · have hlt : i < 2 := by have := of_decide_eq_true h; simp only at this; omega
      obtain ⟨xs, hx⟩ : ∃ xs, [b.act, b.wait][i]? = some xs := ⟨_, List.getElem?_eq_getElem hlt⟩
      have hl := hlen i xs hx
      have hx1 : [b.act, b.wait][i * 1]? = some xs := by rw [Nat.mul_one]; exact hx
      repeat' first
        | refine aw_seq ?_
        | refine aw_region ?_
        | refine aw_lex [] ?_
        | (refine isA ?_; refine do_F rfl ?_)
        | (refine isL ?_; refine lex_F rfl (by kernel_rfl) rfl rfl ?_)
        | (refine isLg rfl ?_; refine lex_S rfl (by kernel_rfl) rfl rfl ?_)
        | refine aops_nil ?_
        | refine lex_done _ rfl (by kernel_rfl) ?_
        | refine aw_ct rfl ?_
        | refine aw_cf rfl ?_
        | refine aw_block ?_
        | refine then_n ?_
        | refine aw_skip ?_
        | refine aw_exit ?_
        | refine then_x ?_
        | refine then_r ?_
        | refine block_x ?_
        | refine block_n ?_
        | refine block_r ?_
        | refine aw_ret ?_
      refine aw_loop (α := { k : Nat // k ≤ xs.length ∧ ∀ j z, j < k → xs[j]? = some z → badC b.next (prevC xs j) z = false }) (fun k => ⟨[.any, .ptr 0 0, .any, .sl 1 0 2, I i, I k.1, .any, .any, .any, .any, .any, .any, .any, .any, .any, .any, .any, .any, .any, .any, .any, .any, .any, .any, .any, .any, .any, .any, .any, .any, .any, .any, .any, .any, .any, .any, .any, .any, .any, .any, .any, .any, .any, .any, .any, .any, .any, .any, .any, .any, .any, .any, .any, .any, .any, .any, .any, .any, .any, .any, .any, .any, .any, .any, .any, .any, .any, .any, .any, .any, .any, .any, .any, .any, .any, .any, .any, .any, .any, .any, .any, .any, .any, .any, .any, .any, .any, .any, .any, .any, .any, .any, .any, .any, .any, .any, .any, .any, .any, .any, .any, .any, .any, .any, .any, .any, .any, .any, .any, .any, .any, .any, .any, .any, .any, .any, .any, .any, .any, .any, .any, .any, .any, .any, .any, .any, .any, .any, .any, .any, .any, .any, .any, .any, .any, .any], [⟨24, 4, brE b, 0⟩, regOf llT 22 [b.act, b.wait]], 0⟩) (fun k => xs.length - k.1) ⟨0, Nat.zero_le _, fun j z hj => absurd hj (Nat.not_lt_zero _)⟩ ?_ ?_
      · exact sub0 [0, 1] rfl rfl (by decide) (by repeat' first | exact HLes.nil | refine HLes.cons rfl rfl rfl rfl ?_ ?_ | exact les_nil | refine les_cons ?_ ?_ | exact le_any | exact le_refl rfl | exact le_sl rfl rfl | exact le_ptr rfl) (by repeat' first | exact les_nil | refine les_cons ?_ ?_ | exact le_any | exact le_refl rfl | exact le_sl rfl rfl | exact le_ptr rfl)
      · rintro ⟨k, hk, hc⟩
        repeat' first
          | refine aw_seq ?_
          | refine aw_region ?_
          | refine aw_lex [] ?_
          | (refine isA ?_; refine do_F rfl ?_)
          | (refine isL ?_; refine lex_F rfl (by kernel_rfl) rfl rfl ?_)
          | (refine isLg rfl ?_; refine lex_S rfl (by kernel_rfl) rfl rfl ?_)
          | (refine isAi (x := .tmp 19) ?_; refine do_R rfl (ia_s (t := llT) (xs := [b.act, b.wait]) (e' := 22) (j := i) rfl rfl rfl rfl rfl (Int.natCast_nonneg i) (by simp; omega)) rfl ?_)
          | (refine isLi (x := .tmp 19) rfl ?_; refine lex_R rfl (by kernel_rfl) rfl (ia_s (t := llT) (xs := [b.act, b.wait]) (e' := 22) (j := i) rfl rfl rfl rfl rfl (Int.natCast_nonneg i) (by simp; omega)) rfl ?_)
          | (refine isAl (x := .tmp 21) ?_; refine do_R rfl (step_load1 (T := llT) (xs := [b.act, b.wait]) (e := 22) (z := xs) rfl rfl rfl rfl hx1 rfl) rfl ?_)
          | (refine isLl (x := .tmp 21) rfl ?_; refine lex_R rfl (by kernel_rfl) rfl (step_load1 (T := llT) (xs := [b.act, b.wait]) (e := 22) (z := xs) rfl rfl rfl rfl hx1 rfl) rfl ?_)
          | refine aops_nil ?_
          | refine lex_done _ rfl (by kernel_rfl) ?_
          | refine aw_ct rfl ?_
          | refine aw_cf rfl ?_
          | refine aw_block ?_
          | refine then_n ?_
          | refine aw_skip ?_
          | refine aw_exit ?_
          | refine then_x ?_
          | refine then_r ?_
          | refine block_x ?_
          | refine block_n ?_
          | refine block_r ?_
          | refine aw_ret ?_
        refine aw_cond rfl (fun h => ?_) (fun h => ?_)
        · have hlk : k < xs.length := by simpa using h
          obtain ⟨z, hz⟩ : ∃ z, xs[k]? = some z := ⟨_, List.getElem?_eq_getElem hlk⟩
          repeat' first
            | refine aw_seq ?_
            | refine aw_region ?_
            | refine aw_lex [] ?_
            | (refine isA ?_; refine do_F rfl ?_)
            | (refine isL ?_; refine lex_F rfl (by kernel_rfl) rfl rfl ?_)
            | (refine isLg rfl ?_; refine lex_S rfl (by kernel_rfl) rfl rfl ?_)
            | (refine isAi (x := .tmp 27) ?_; refine do_R rfl (ia_s (t := llT) (xs := [b.act, b.wait]) (e' := 22) (j := i) rfl rfl rfl rfl rfl (Int.natCast_nonneg i) (by simp; omega)) rfl ?_)
            | (refine isLi (x := .tmp 27) rfl ?_; refine lex_R rfl (by kernel_rfl) rfl (ia_s (t := llT) (xs := [b.act, b.wait]) (e' := 22) (j := i) rfl rfl rfl rfl rfl (Int.natCast_nonneg i) (by simp; omega)) rfl ?_)
            | (refine isAl (x := .tmp 29) ?_; refine do_R rfl (step_load1 (T := llT) (xs := [b.act, b.wait]) (e := 22) (z := xs) rfl rfl rfl rfl hx1 rfl) rfl ?_)
            | (refine isLl (x := .tmp 29) rfl ?_; refine lex_R rfl (by kernel_rfl) rfl (step_load1 (T := llT) (xs := [b.act, b.wait]) (e := 22) (z := xs) rfl rfl rfl rfl hx1 rfl) rfl ?_)
            | (refine isAi (x := .tmp 30) ?_; refine do_R rfl (ia_l (z := z) rfl rfl rfl rfl (Int.natCast_nonneg k) hz) rfl ?_)
            | (refine isLi (x := .tmp 30) rfl ?_; refine lex_R rfl (by kernel_rfl) rfl (ia_l (z := z) rfl rfl rfl rfl (Int.natCast_nonneg k) hz) rfl ?_)
            | (refine isAi (x := .tmp 47) ?_; refine do_R rfl (ia_s (t := llT) (xs := [b.act, b.wait]) (e' := 22) (j := i) rfl rfl rfl rfl rfl (Int.natCast_nonneg i) (by simp; omega)) rfl ?_)
            | (refine isLi (x := .tmp 47) rfl ?_; refine lex_R rfl (by kernel_rfl) rfl (ia_s (t := llT) (xs := [b.act, b.wait]) (e' := 22) (j := i) rfl rfl rfl rfl rfl (Int.natCast_nonneg i) (by simp; omega)) rfl ?_)
            | (refine isAl (x := .tmp 49) ?_; refine do_R rfl (step_load1 (T := llT) (xs := [b.act, b.wait]) (e := 22) (z := xs) rfl rfl rfl rfl hx1 rfl) rfl ?_)
            | (refine isLl (x := .tmp 49) rfl ?_; refine lex_R rfl (by kernel_rfl) rfl (step_load1 (T := llT) (xs := [b.act, b.wait]) (e := 22) (z := xs) rfl rfl rfl rfl hx1 rfl) rfl ?_)
            | (refine isAi (x := .tmp 50) ?_; obtain ⟨q, hp, h0, hq⟩ := prev_at hlk hl hbr; refine do_R rfl (ia_l (z := q) rfl rfl rfl rfl h0 hq) rfl ?_)
            | (refine isLi (x := .tmp 50) rfl ?_; obtain ⟨q, hp, h0, hq⟩ := prev_at hlk hl hbr; refine lex_R rfl (by kernel_rfl) rfl (ia_l (z := q) rfl rfl rfl rfl h0 hq) rfl ?_)
            | (refine isAc 65 ?_; refine do_R rfl (st_call rfl (c_in _ _ _) (.cons (.same rfl) (.cons (.same rfl) (.cons (.same rfl) .nil))) rfl) rfl ?_)
            | (refine isLc 65 rfl ?_; refine lex_R rfl (by kernel_rfl) rfl (st_call rfl (c_in _ _ _) (.cons (.same rfl) (.cons (.same rfl) (.cons (.same rfl) .nil))) rfl) rfl ?_)
            | exact fin1 rfl rfl (by rw [valid_list hx (allC_false hz (by first | (simp only [badC, *, Bool.true_or, Bool.false_or, Bool.or_true, Bool.or_false, Bool.not_false, Bool.not_true]; done) | (rw [prev_no (by assumption)]; simp [badC, *]; done)))])
            | refine aops_nil ?_
            | refine lex_done _ rfl (by kernel_rfl) ?_
            | refine aw_ct rfl ?_
            | refine aw_cf rfl ?_
            | refine aw_block ?_
            | refine then_n ?_
            | refine aw_skip ?_
            | refine aw_exit ?_
            | refine then_x ?_
            | refine then_r ?_
            | refine block_x ?_
            | refine block_n ?_
            | refine block_r ?_
            | refine aw_ret ?_
            | refine aw_cond rfl (fun hbr => ?_) (fun hbr => ?_)
            | (refine isAg ?_; refine do_br rfl rfl (fun hbr => ?_) (fun hbr => ?_) <;> (fail_if_success (with_reducible (have hx : true = true := hbr))) <;> (fail_if_success (with_reducible (have hx : false = false := hbr))))
            | (refine isLg rfl ?_; refine lex_br rfl rfl rfl rfl (fun hbr => ?_) (fun hbr => ?_) <;> (fail_if_success (with_reducible (have hx : true = true := hbr))) <;> (fail_if_success (with_reducible (have hx : false = false := hbr))))
          all_goals
            refine ⟨⟨k + 1, hlk, allC_step hc hz (by first | (simp only [badC, *, Bool.true_or, Bool.false_or, Bool.or_true, Bool.or_false, Bool.not_false, Bool.not_true]; done) | (rw [prev_no (by assumption)]; simp [badC, *]; done))⟩, by simp only; omega, ?_⟩
            exact sub0 [0, 1] rfl rfl (by decide) (by repeat' first | exact HLes.nil | refine HLes.cons rfl rfl rfl rfl ?_ ?_ | exact les_nil | refine les_cons ?_ ?_ | exact le_any | exact le_refl rfl | exact le_sl rfl rfl | exact le_ptr rfl) (by repeat' first | exact les_nil | refine les_cons ?_ ?_ | exact le_any | exact le_refl rfl | exact le_sl rfl rfl | exact le_ptr rfl | exact le_i (by assumption) (by omega))
        · have hge : k = xs.length := by
            have : ¬ ((k : Int) < xs.length) := by simpa using h
            omega
          subst hge
          repeat' first
            | refine aw_seq ?_
            | refine aw_region ?_
            | refine aw_lex [] ?_
            | (refine isA ?_; refine do_F rfl ?_)
            | (refine isL ?_; refine lex_F rfl (by kernel_rfl) rfl rfl ?_)
            | (refine isLg rfl ?_; refine lex_S rfl (by kernel_rfl) rfl rfl ?_)
            | refine aops_nil ?_
            | refine lex_done _ rfl (by kernel_rfl) ?_
            | refine aw_ct rfl ?_
            | refine aw_cf rfl ?_
            | refine aw_block ?_
            | refine then_n ?_
            | refine aw_skip ?_
            | refine aw_exit ?_
            | refine then_x ?_
            | refine then_r ?_
            | refine block_x ?_
            | refine block_n ?_
            | refine block_r ?_
            | refine aw_ret ?_
          refine ⟨⟨i + 1, hlt, fun j ys hj hy => ?_⟩, by simp only; omega, ?_⟩
          · rcases Nat.lt_succ_iff_lt_or_eq.1 hj with hj | rfl
            · exact hb j ys hj hy
            · rw [hx] at hy
              cases hy
              exact allC_true hc
          · exact sub0 [0, 1] rfl rfl (by decide) (by repeat' first | exact HLes.nil | refine HLes.cons rfl rfl rfl rfl ?_ ?_ | exact les_nil | refine les_cons ?_ ?_ | exact le_any | exact le_refl rfl | exact le_sl rfl rfl | exact le_ptr rfl) (by repeat' first | exact les_nil | refine les_cons ?_ ?_ | exact le_any | exact le_refl rfl | exact le_sl rfl rfl | exact le_ptr rfl | exact le_i (by assumption) (by omega))
    · have hge : i = 2 := by have := of_decide_eq_false h; simp only at this; omega
      subst hge
      have ha : allC b.next b.act = true := hb 0 _ (by decide) rfl
      have hw : allC b.next b.wait = true := hb 1 _ (by decide) rfl
      repeat' first
        | refine aw_seq ?_
        | refine aw_region ?_
        | refine aw_lex [] ?_
        | (refine isA ?_; refine do_F rfl ?_)
        | (refine isL ?_; refine lex_F rfl (by kernel_rfl) rfl rfl ?_)
        | (refine isLg rfl ?_; refine lex_S rfl (by kernel_rfl) rfl rfl ?_)
        | refine aops_nil ?_
        | refine lex_done _ rfl (by kernel_rfl) ?_
        | refine aw_ct rfl ?_
        | refine aw_cf rfl ?_
        | refine aw_block ?_
        | refine then_n ?_
        | refine aw_skip ?_
        | refine aw_exit ?_
        | refine then_x ?_
        | refine then_r ?_
        | refine block_x ?_
        | refine block_n ?_
        | refine block_r ?_
        | refine aw_ret ?_
      refine aw_loop (α := { i : Nat // i ≤ b.act.length ∧ ∀ j x, j < i → b.act[j]? = some x → ∀ k y, k < b.wait.length → b.wait[k]? = some y → x.a ≠ y.a }) (fun i => ⟨[.any, .ptr 0 0, .any, .any, .any, .any, .any, I i.1, .any, .any, .any, .any, .any, .any, .any, .any, .any, .any, .any, .any, .any, .any, .any, .any, .any, .any, .any, .any, .any, .any, .any, .any, .any, .any, .any, .any, .any, .any, .any, .any, .any, .any, .any, .any, .any, .any, .any, .any, .any, .any, .any, .any, .any, .any, .any, .any, .any, .any, .any, .any, .any, .any, .any, .any, .any, .any, .any, .any, .any, .any, .any, .any, .any, .any, .any, .any, .any, .any, .any, .any, .any, .any, .any, .any, .any, .any, .any, .any, .any, .any, .any, .any, .any, .any, .any, .any, .any, .any, .any, .any, .any, .any, .any, .any, .any, .any, .any, .any, .any, .any, .any, .any, .any, .any, .any, .any, .any, .any, .any, .any, .any, .any, .any, .any, .any, .any, .any, .any, .any, .any, .any, .any, .any, .any, .any, .any], [⟨24, 4, brE b, 0⟩], 0⟩) (fun i => b.act.length - i.1) ⟨0, Nat.zero_le _, fun j xs hj => absurd hj (Nat.not_lt_zero _)⟩ ?_ ?_
      · exact sub0 [0] rfl rfl (by decide) (by repeat' first | exact HLes.nil | refine HLes.cons rfl rfl rfl rfl ?_ ?_ | exact les_nil | refine les_cons ?_ ?_ | exact le_any | exact le_refl rfl | exact le_sl rfl rfl | exact le_ptr rfl) (by repeat' first | exact les_nil | refine les_cons ?_ ?_ | exact le_any | exact le_refl rfl | exact le_sl rfl rfl | exact le_ptr rfl)
      · rintro ⟨i, hi, hb⟩
        repeat' first
          | refine aw_seq ?_
          | refine aw_region ?_
          | refine aw_lex [] ?_
          | (refine isA ?_; refine do_F rfl ?_)
          | (refine isL ?_; refine lex_F rfl (by kernel_rfl) rfl rfl ?_)
          | (refine isLg rfl ?_; refine lex_S rfl (by kernel_rfl) rfl rfl ?_)
          | refine aops_nil ?_
          | refine lex_done _ rfl (by kernel_rfl) ?_
          | refine aw_ct rfl ?_
          | refine aw_cf rfl ?_
          | refine aw_block ?_
          | refine then_n ?_
          | refine aw_skip ?_
          | refine aw_exit ?_
          | refine then_x ?_
          | refine then_r ?_
          | refine block_x ?_
          | refine block_n ?_
          | refine block_r ?_
          | refine aw_ret ?_
        refine aw_cond rfl (fun h => ?_) (fun h => ?_)
        · have hlt : i < b.act.length := by simpa using h
          obtain ⟨x, hx⟩ : ∃ x, b.act[i]? = some x := ⟨_, List.getElem?_eq_getElem hlt⟩
          repeat' first
            | refine aw_seq ?_
            | refine aw_region ?_
            | refine aw_lex [] ?_
            | (refine isA ?_; refine do_F rfl ?_)
            | (refine isL ?_; refine lex_F rfl (by kernel_rfl) rfl rfl ?_)
            | (refine isLg rfl ?_; refine lex_S rfl (by kernel_rfl) rfl rfl ?_)
            | refine aops_nil ?_
            | refine lex_done _ rfl (by kernel_rfl) ?_
            | refine aw_ct rfl ?_
            | refine aw_cf rfl ?_
            | refine aw_block ?_
            | refine then_n ?_
            | refine aw_skip ?_
            | refine aw_exit ?_
            | refine then_x ?_
            | refine then_r ?_
            | refine block_x ?_
            | refine block_n ?_
            | refine block_r ?_
            | refine aw_ret ?_
          refine aw_loop (α := { k : Nat // k ≤ b.wait.length ∧ ∀ j y, j < k → b.wait[j]? = some y → x.a ≠ y.a }) (fun k => ⟨[.any, .ptr 0 0, .any, .any, .any, .any, .any, I i, I k.1, .any, .any, .any, .any, .any, .any, .any, .any, .any, .any, .any, .any, .any, .any, .any, .any, .any, .any, .any, .any, .any, .any, .any, .any, .any, .any, .any, .any, .any, .any, .any, .any, .any, .any, .any, .any, .any, .any, .any, .any, .any, .any, .any, .any, .any, .any, .any, .any, .any, .any, .any, .any, .any, .any, .any, .any, .any, .any, .any, .any, .any, .any, .any, .any, .any, .any, .any, .any, .any, .any, .any, .any, .any, .any, .any, .any, .any, .any, .any, .any, .any, .any, .any, .any, .any, .any, .any, .any, .any, .any, .any, .any, .any, .any, .any, .any, .any, .any, .any, .any, .any, .any, .any, .any, .any, .any, .any, .any, .any, .any, .any, .any, .any, .any, .any, .any, .any, .any, .any, .any, .any, .any, .any, .any, .any, .any, .any], [⟨24, 4, brE b, 0⟩], 0⟩) (fun k => b.wait.length - k.1) ⟨0, Nat.zero_le _, fun j z hj => absurd hj (Nat.not_lt_zero _)⟩ ?_ ?_
          · exact sub0 [0] rfl rfl (by decide) (by repeat' first | exact HLes.nil | refine HLes.cons rfl rfl rfl rfl ?_ ?_ | exact les_nil | refine les_cons ?_ ?_ | exact le_any | exact le_refl rfl | exact le_sl rfl rfl | exact le_ptr rfl) (by repeat' first | exact les_nil | refine les_cons ?_ ?_ | exact le_any | exact le_refl rfl | exact le_sl rfl rfl | exact le_ptr rfl)
          · rintro ⟨k, hk, hc⟩
            repeat' first
              | refine aw_seq ?_
              | refine aw_region ?_
              | refine aw_lex [] ?_
              | (refine isA ?_; refine do_F rfl ?_)
              | (refine isL ?_; refine lex_F rfl (by kernel_rfl) rfl rfl ?_)
              | (refine isLg rfl ?_; refine lex_S rfl (by kernel_rfl) rfl rfl ?_)
              | refine aops_nil ?_
              | refine lex_done _ rfl (by kernel_rfl) ?_
              | refine aw_ct rfl ?_
              | refine aw_cf rfl ?_
              | refine aw_block ?_
              | refine then_n ?_
              | refine aw_skip ?_
              | refine aw_exit ?_
              | refine then_x ?_
              | refine then_r ?_
              | refine block_x ?_
              | refine block_n ?_
              | refine block_r ?_
              | refine aw_ret ?_
            refine aw_cond rfl (fun h => ?_) (fun h => ?_)
            · have hlk : k < b.wait.length := by simpa using h
              obtain ⟨y, hy⟩ : ∃ y, b.wait[k]? = some y := ⟨_, List.getElem?_eq_getElem hlk⟩
              repeat' first
                | refine aw_seq ?_
                | refine aw_region ?_
                | refine aw_lex [] ?_
                | (refine isA ?_; refine do_F rfl ?_)
                | (refine isL ?_; refine lex_F rfl (by kernel_rfl) rfl rfl ?_)
                | (refine isLg rfl ?_; refine lex_S rfl (by kernel_rfl) rfl rfl ?_)
                | (refine isAi (x := .tmp 86) ?_; refine do_R rfl (ia_l (z := x) rfl rfl rfl rfl (Int.natCast_nonneg i) hx) rfl ?_)
                | (refine isLi (x := .tmp 86) rfl ?_; refine lex_R rfl (by kernel_rfl) rfl (ia_l (z := x) rfl rfl rfl rfl (Int.natCast_nonneg i) hx) rfl ?_)
                | (refine isAi (x := .tmp 92) ?_; refine do_R rfl (ia_l (z := y) rfl rfl rfl rfl (Int.natCast_nonneg k) hy) rfl ?_)
                | (refine isLi (x := .tmp 92) rfl ?_; refine lex_R rfl (by kernel_rfl) rfl (ia_l (z := y) rfl rfl rfl rfl (Int.natCast_nonneg k) hy) rfl ?_)
                | refine aops_nil ?_
                | refine lex_done _ rfl (by kernel_rfl) ?_
                | refine aw_ct rfl ?_
                | refine aw_cf rfl ?_
                | refine aw_block ?_
                | refine then_n ?_
                | refine aw_skip ?_
                | refine aw_exit ?_
                | refine then_x ?_
                | refine then_r ?_
                | refine block_x ?_
                | refine block_n ?_
                | refine block_r ?_
                | refine aw_ret ?_
              refine aw_cond rfl (fun he => ?_) (fun he => ?_)
              · repeat' first
                  | refine aw_seq ?_
                  | refine aw_region ?_
                  | refine aw_lex [] ?_
                  | (refine isA ?_; refine do_F rfl ?_)
                  | (refine isL ?_; refine lex_F rfl (by kernel_rfl) rfl rfl ?_)
                  | (refine isLg rfl ?_; refine lex_S rfl (by kernel_rfl) rfl rfl ?_)
                  | exact fin1 rfl rfl (by rw [valid_disj (disj_false hx hy (of_decide_eq_true he))])
                  | refine aops_nil ?_
                  | refine lex_done _ rfl (by kernel_rfl) ?_
                  | refine aw_ct rfl ?_
                  | refine aw_cf rfl ?_
                  | refine aw_block ?_
                  | refine then_n ?_
                  | refine aw_skip ?_
                  | refine aw_exit ?_
                  | refine then_x ?_
                  | refine then_r ?_
                  | refine block_x ?_
                  | refine block_n ?_
                  | refine block_r ?_
                  | refine aw_ret ?_
              · repeat' first
                  | refine aw_seq ?_
                  | refine aw_region ?_
                  | refine aw_lex [] ?_
                  | (refine isA ?_; refine do_F rfl ?_)
                  | (refine isL ?_; refine lex_F rfl (by kernel_rfl) rfl rfl ?_)
                  | (refine isLg rfl ?_; refine lex_S rfl (by kernel_rfl) rfl rfl ?_)
                  | refine aops_nil ?_
                  | refine lex_done _ rfl (by kernel_rfl) ?_
                  | refine aw_ct rfl ?_
                  | refine aw_cf rfl ?_
                  | refine aw_block ?_
                  | refine then_n ?_
                  | refine aw_skip ?_
                  | refine aw_exit ?_
                  | refine then_x ?_
                  | refine then_r ?_
                  | refine block_x ?_
                  | refine block_n ?_
                  | refine block_r ?_
                  | refine aw_ret ?_
                refine ⟨⟨k + 1, hlk, fun j z hj hz => ?_⟩, by simp only; omega, ?_⟩
                · rcases Nat.lt_succ_iff_lt_or_eq.1 hj with hj | rfl
                  · exact hc j z hj hz
                  · rw [hy] at hz
                    cases hz
                    exact of_decide_eq_false he
                · exact sub0 [0] rfl rfl (by decide) (by repeat' first | exact HLes.nil | refine HLes.cons rfl rfl rfl rfl ?_ ?_ | exact les_nil | refine les_cons ?_ ?_ | exact le_any | exact le_refl rfl | exact le_sl rfl rfl | exact le_ptr rfl) (by repeat' first | exact les_nil | refine les_cons ?_ ?_ | exact le_any | exact le_refl rfl | exact le_sl rfl rfl | exact le_ptr rfl | exact le_i (by assumption) (by omega))
            · have hge : k = b.wait.length := by
                have : ¬ ((k : Int) < b.wait.length) := by simpa using h
                omega
              subst hge
              repeat' first
                | refine aw_seq ?_
                | refine aw_region ?_
                | refine aw_lex [] ?_
                | (refine isA ?_; refine do_F rfl ?_)
                | (refine isL ?_; refine lex_F rfl (by kernel_rfl) rfl rfl ?_)
                | (refine isLg rfl ?_; refine lex_S rfl (by kernel_rfl) rfl rfl ?_)
                | refine aops_nil ?_
                | refine lex_done _ rfl (by kernel_rfl) ?_
                | refine aw_ct rfl ?_
                | refine aw_cf rfl ?_
                | refine aw_block ?_
                | refine then_n ?_
                | refine aw_skip ?_
                | refine aw_exit ?_
                | refine then_x ?_
                | refine then_r ?_
                | refine block_x ?_
                | refine block_n ?_
                | refine block_r ?_
                | refine aw_ret ?_
              refine ⟨⟨i + 1, hlt, fun j z hj hz => ?_⟩, by simp only; omega, ?_⟩
              · rcases Nat.lt_succ_iff_lt_or_eq.1 hj with hj | rfl
                · exact hb j z hj hz
                · rw [hx] at hz
                  cases hz
                  exact hc
              · exact sub0 [0] rfl rfl (by decide) (by repeat' first | exact HLes.nil | refine HLes.cons rfl rfl rfl rfl ?_ ?_ | exact les_nil | refine les_cons ?_ ?_ | exact le_any | exact le_refl rfl | exact le_sl rfl rfl | exact le_ptr rfl) (by repeat' first | exact les_nil | refine les_cons ?_ ?_ | exact le_any | exact le_refl rfl | exact le_sl rfl rfl | exact le_ptr rfl | exact le_i (by assumption) (by omega))
        · have hge : i = b.act.length := by
            have : ¬ ((i : Int) < b.act.length) := by simpa using h
            omega
          subst hge
          have hd : disj b.act b.wait = true := disj_true hb
          repeat' first
            | refine aw_seq ?_
            | refine aw_region ?_
            | refine aw_lex [] ?_
            | (refine isA ?_; refine do_F rfl ?_)
            | (refine isL ?_; refine lex_F rfl (by kernel_rfl) rfl rfl ?_)
            | (refine isLg rfl ?_; refine lex_S rfl (by kernel_rfl) rfl rfl ?_)
            | (refine isAc 65 ?_; refine do_R rfl (st_call rfl (c_in _ _ _) (.cons (.same rfl) (.cons (.same rfl) (.cons (.same rfl) .nil))) rfl) rfl ?_)
            | (refine isLc 65 rfl ?_; refine lex_R rfl (by kernel_rfl) rfl (st_call rfl (c_in _ _ _) (.cons (.same rfl) (.cons (.same rfl) (.cons (.same rfl) .nil))) rfl) rfl ?_)
            | (refine isAc 74 ?_; refine do_R rfl (st_call rfl (c_room _) (.cons (.same rfl) .nil) rfl) rfl ?_)
            | (refine isLc 74 rfl ?_; refine lex_R rfl (by kernel_rfl) rfl (st_call rfl (c_room _) (.cons (.same rfl) .nil) rfl) rfl ?_)
            | exact fin1 rfl rfl (by first | ((try simp only [Bool.not_eq_true', Bool.not_eq_false'] at *); simp only [validB, *, Bool.true_and, Bool.false_and, Bool.and_true, Bool.and_false, Bool.true_or, Bool.false_or, Bool.or_true, Bool.or_false, Bool.not_true, Bool.not_false, cond_true, cond_false]; done) | (simp_all [validB]; done) | (simp_all [validB]; intros; omega))
            | refine aops_nil ?_
            | refine lex_done _ rfl (by kernel_rfl) ?_
            | refine aw_ct rfl ?_
            | refine aw_cf rfl ?_
            | refine aw_block ?_
            | refine then_n ?_
            | refine aw_skip ?_
            | refine aw_exit ?_
            | refine then_x ?_
            | refine then_r ?_
            | refine block_x ?_
            | refine block_n ?_
            | refine block_r ?_
            | refine aw_ret ?_
            | (refine isAg ?_; refine do_br rfl rfl (fun hbr => ?_) (fun hbr => ?_) <;> (fail_if_success (with_reducible (have hx : true = true := hbr))) <;> (fail_if_success (with_reducible (have hx : false = false := hbr))))
            | (refine isLg rfl ?_; refine lex_br rfl rfl rfl rfl (fun hbr => ?_) (fun hbr => ?_) <;> (fail_if_success (with_reducible (have hx : true = true := hbr))) <;> (fail_if_success (with_reducible (have hx : false = false := hbr))))

/-! ### The law -/
theorem sz_len {b : Br} (ha : b.act.length ≤ 9223372036854775807) (hw : b.wait.length ≤ 9223372036854775807) (h : decide (szB b 1048576 < 0) = false) : b.act.length ≤ 1048576 ∧ b.wait.length ≤ 1048576 := by
  have h := of_decide_eq_false h
  have key : ∀ (n : Nat) (l : Int), n ≤ 9223372036854775807 → 0 ≤ l → l ≤ 1048576 → ¬ szL n l < 0 → (n : Int) ≤ l ∧ szL n l = l - n := fun n l hn h0 h1 hs => by
    unfold szL at hs ⊢
    rw [IntKind.wrap_i64] at hs ⊢
    by_cases hc : l - (n : Int) < 0
    · have e : (l - (n : Int) + 9223372036854775808) % 18446744073709551616 - 9223372036854775808 = l - n := by omega
      rw [e] at hs
      simp [hc] at hs
    · have e : (l - (n : Int) + 9223372036854775808) % 18446744073709551616 - 9223372036854775808 = l - n := by omega
      rw [e]
      exact ⟨by omega, by simp [hc]⟩
  unfold szB at h
  by_cases h1 : szL b.act.length 1048576 < 0
  · simp [h1] at h
  · obtain ⟨k1, k2⟩ := key _ _ ha (by decide) (by decide) h1
    by_cases h2 : szL b.wait.length (szL b.act.length 1048576) < 0
    · simp [h1, h2] at h
    · rw [k2] at h2
      obtain ⟨k3, k4⟩ := key _ _ hw (by omega) (by omega) h2
      omega

theorem law_IsValidBroker (b : Br) (ha : b.act.length ≤ 9223372036854775807) (hw : b.wait.length ≤ 9223372036854775807) : Meets Go.Proofs.Try.prog 5 [.agg (brE b)] [] (B true) [] false := by
  refine meets_of [2] Go.Proofs.Try.func5 rfl rfl ?_
  simp only [Go.Proofs.Try.ntmps5, List.length_cons, List.length_nil, Nat.reduceAdd, Nat.reduceSub, List.replicate_succ, List.replicate_zero, List.cons_append, List.nil_append]
  repeat' first
    | refine aw_seq ?_
    | refine aw_region ?_
    | refine aw_lex [] ?_
    | (refine isA ?_; refine do_F rfl ?_)
    | (refine isL ?_; refine lex_F rfl (by kernel_rfl) rfl rfl ?_)
    | (refine isLg rfl ?_; refine lex_S rfl (by kernel_rfl) rfl rfl ?_)
    | (refine isAc 20 ?_; refine do_R rfl (st_call rfl (c_szBroker _ _) (.cons (.same rfl) (.cons (.same rfl) .nil)) rfl) rfl ?_)
    | (refine isLc 20 rfl ?_; refine lex_R rfl (by kernel_rfl) rfl (st_call rfl (c_szBroker _ _) (.cons (.same rfl) (.cons (.same rfl) .nil)) rfl) rfl ?_)
    | refine aops_nil ?_
    | refine lex_done _ rfl (by kernel_rfl) ?_
    | refine aw_ct rfl ?_
    | refine aw_cf rfl ?_
    | refine aw_block ?_
    | refine then_n ?_
    | refine aw_skip ?_
    | refine aw_exit ?_
    | refine then_x ?_
    | refine then_r ?_
    | refine block_x ?_
    | refine block_n ?_
    | refine block_r ?_
    | refine aw_ret ?_
  refine aw_cond rfl (fun h => ?_) (fun h => ?_)
  · repeat' first
      | refine aw_seq ?_
      | refine aw_region ?_
      | refine aw_lex [] ?_
      | (refine isA ?_; refine do_F rfl ?_)
      | (refine isL ?_; refine lex_F rfl (by kernel_rfl) rfl rfl ?_)
      | (refine isLg rfl ?_; refine lex_S rfl (by kernel_rfl) rfl rfl ?_)
      | exact fin1 rfl rfl rfl
      | refine aops_nil ?_
      | refine lex_done _ rfl (by kernel_rfl) ?_
      | refine aw_ct rfl ?_
      | refine aw_cf rfl ?_
      | refine aw_block ?_
      | refine then_n ?_
      | refine aw_skip ?_
      | refine aw_exit ?_
      | refine then_x ?_
      | refine then_r ?_
      | refine block_x ?_
      | refine block_n ?_
      | refine block_r ?_
      | refine aw_ret ?_
  · obtain ⟨h1, h2⟩ := sz_len ha hw h
    repeat' first
      | refine aw_seq ?_
      | refine aw_region ?_
      | refine aw_lex [] ?_
      | (refine isA ?_; refine do_F rfl ?_)
      | (refine isL ?_; refine lex_F rfl (by kernel_rfl) rfl rfl ?_)
      | (refine isLg rfl ?_; refine lex_S rfl (by kernel_rfl) rfl rfl ?_)
      | (refine isAc 22 ?_; refine do_R rfl (st_call rfl (c_toBroker _ (by omega) (by omega)) (.cons (.same rfl) .nil) rfl) rfl ?_)
      | (refine isLc 22 rfl ?_; refine lex_R rfl (by kernel_rfl) rfl (st_call rfl (c_toBroker _ (by omega) (by omega)) (.cons (.same rfl) .nil) rfl) rfl ?_)
      | (refine isAc 24 ?_; refine do_R rfl (st_call rfl (c_svalid _ (by omega) (by omega)) (.cons (.same rfl) .nil) rfl) rfl ?_)
      | (refine isLc 24 rfl ?_; refine lex_R rfl (by kernel_rfl) rfl (st_call rfl (c_svalid _ (by omega) (by omega)) (.cons (.same rfl) .nil) rfl) rfl ?_)
      | (refine isAc 25 ?_; refine do_R rfl (st_call rfl (c_ivalid _ (by omega) (by omega)) (.cons (.same rfl) .nil) rfl) rfl ?_)
      | (refine isLc 25 rfl ?_; refine lex_R rfl (by kernel_rfl) rfl (st_call rfl (c_ivalid _ (by omega) (by omega)) (.cons (.same rfl) .nil) rfl) rfl ?_)
      | (refine isAc 17 ?_; refine do_R rfl (st_call rfl (c_eqBroker _ (by omega) (by omega)) (.cons (.same rfl) (.cons (.same rfl) .nil)) rfl) rfl ?_)
      | (refine isLc 17 rfl ?_; refine lex_R rfl (by kernel_rfl) rfl (st_call rfl (c_eqBroker _ (by omega) (by omega)) (.cons (.same rfl) (.cons (.same rfl) .nil)) rfl) rfl ?_)
      | refine aops_nil ?_
      | refine lex_done _ rfl (by kernel_rfl) ?_
      | refine aw_ct rfl ?_
      | refine aw_cf rfl ?_
      | refine aw_block ?_
      | refine then_n ?_
      | refine aw_skip ?_
      | refine aw_exit ?_
      | refine then_x ?_
      | refine then_r ?_
      | refine block_x ?_
      | refine block_n ?_
      | refine block_r ?_
      | refine aw_ret ?_
    refine aw_cond rfl (fun h => by simp at h) (fun h => ?_)
    repeat' first
      | refine aw_seq ?_
      | refine aw_region ?_
      | refine aw_lex [] ?_
      | (refine isA ?_; refine do_F rfl ?_)
      | (refine isL ?_; refine lex_F rfl (by kernel_rfl) rfl rfl ?_)
      | (refine isLg rfl ?_; refine lex_S rfl (by kernel_rfl) rfl rfl ?_)
      | (refine isAc 22 ?_; refine do_R rfl (st_call rfl (c_toBroker _ (by omega) (by omega)) (.cons (.same rfl) .nil) rfl) rfl ?_)
      | (refine isLc 22 rfl ?_; refine lex_R rfl (by kernel_rfl) rfl (st_call rfl (c_toBroker _ (by omega) (by omega)) (.cons (.same rfl) .nil) rfl) rfl ?_)
      | (refine isAc 17 ?_; refine do_R rfl (st_call rfl (c_eqBroker _ (by omega) (by omega)) (.cons (.same rfl) (.cons (.same rfl) .nil)) rfl) rfl ?_)
      | (refine isLc 17 rfl ?_; refine lex_R rfl (by kernel_rfl) rfl (st_call rfl (c_eqBroker _ (by omega) (by omega)) (.cons (.same rfl) (.cons (.same rfl) .nil)) rfl) rfl ?_)
      | exact fin1 rfl rfl rfl
      | refine aops_nil ?_
      | refine lex_done _ rfl (by kernel_rfl) ?_
      | refine aw_ct rfl ?_
      | refine aw_cf rfl ?_
      | refine aw_block ?_
      | refine then_n ?_
      | refine aw_skip ?_
      | refine aw_exit ?_
      | refine then_x ?_
      | refine then_r ?_
      | refine block_x ?_
      | refine block_n ?_
      | refine block_r ?_
      | refine aw_ret ?_
end Go.Proofs.Ytjlhfemfmkdlhaa.Ab
