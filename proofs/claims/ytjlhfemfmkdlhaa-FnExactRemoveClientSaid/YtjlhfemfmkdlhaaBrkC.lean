/-
  FnExactIsValidBroker: both sides.
-/
import Derived.Test.YtjlhfemfmkdlhaaBrkB
namespace Go.Proofs.Ytjlhfemfmkdlhaa.Ab
open Go.RowKit
set_option linter.unusedVariables false
set_option linter.unusedSimpArgs false
set_option maxRecDepth 20000
set_option maxHeartbeats 1000000

def badC (next : Int) (p : Option Cl) (c : Cl) : Bool := !inV c.a 0 (IntKind.i64.wrap (next - 1)) || ((match p with | none => false | some q => decide (c.a ≤ q.a)) || (!inV c.b 8 60 || !inV c.c 0 9))
def prevC (xs : List Cl) (i : Nat) : Option Cl := if i = 0 then none else xs[i - 1]?
def allC (next : Int) (xs : List Cl) : Bool := (List.range xs.length).all fun i => match xs[i]? with
  | some c => !badC next (prevC xs i) c
  | none => true

theorem allC_true {next : Int} {xs : List Cl} (h : ∀ i z, i < xs.length → xs[i]? = some z → badC next (prevC xs i) z = false) : allC next xs = true := by
  rw [allC, List.all_eq_true]
  intro i hi
  rw [List.mem_range] at hi
  rw [List.getElem?_eq_getElem hi]
  simp [h i _ hi (List.getElem?_eq_getElem hi)]
theorem allC_false {next : Int} {xs : List Cl} {i : Nat} {z : Cl} (hz : xs[i]? = some z) (h : badC next (prevC xs i) z = true) : allC next xs = false := by
  rw [allC, List.all_eq_false]
  exact ⟨i, List.mem_range.2 (List.getElem?_eq_some_iff.1 hz).1, by simp [hz, h]⟩
theorem allC_step {next : Int} {xs : List Cl} {i : Nat} {z : Cl} (hb : ∀ j z, j < i → xs[j]? = some z → badC next (prevC xs j) z = false) (hz : xs[i]? = some z) (h : badC next (prevC xs i) z = false) :
    ∀ j z, j < i + 1 → xs[j]? = some z → badC next (prevC xs j) z = false := fun j y hj hy => by
  rcases Nat.lt_succ_iff_lt_or_eq.1 hj with hj | rfl
  · exact hb j y hj hy
  · rw [hz] at hy
    cases hy
    exact h

theorem prev_at {xs : List Cl} {i : Nat} (hi : i < xs.length) (hl : xs.length ≤ 1000000000) (h : decide ((0 : Int) < (i : Int)) = true) : ∃ q, prevC xs i = some q ∧ 0 ≤ IntKind.i64.wrap ((i : Int) - 1) ∧ xs[(IntKind.i64.wrap ((i : Int) - 1)).toNat]? = some q := by
  have h0 : 0 < i := by have := of_decide_eq_true h; omega
  have hw : IntKind.i64.wrap ((i : Int) - 1) = ((i - 1 : Nat) : Int) := by rw [IntKind.wrap_i64]; omega
  rw [hw]
  refine ⟨xs[i - 1]'(by omega), ?_, Int.natCast_nonneg _, ?_⟩
  · rw [prevC, if_neg (by omega), List.getElem?_eq_getElem]
  · rw [Int.toNat_natCast, List.getElem?_eq_getElem]
theorem prev_no {xs : List Cl} {i : Nat} (h : decide ((0 : Int) < (i : Int)) = false) : prevC xs i = none := by
  have h0 : i = 0 := by have := of_decide_eq_false h; omega
  rw [prevC, if_pos h0]

theorem c_right (xs : List Cl) (next : Int) (hl : xs.length ≤ 1000000000) : Meets Go.Proofs.Try.prog 75 [clL xs, I next] [] (B (allC next xs)) [] false := by
  refine meets_of [4] Go.Proofs.Try.func75 rfl rfl ?_
  simp only [Go.Proofs.Try.ntmps75, List.length_cons, List.length_nil, Nat.reduceAdd, Nat.reduceSub, List.replicate_succ, List.replicate_zero, List.cons_append, List.nil_append]
  repeat' first
    | refine aw_seq ?_
    | refine aw_region ?_
    | refine aw_lex [] ?_
    | (refine isA ?_; refine do_F rfl ?_)
    | (refine isL ?_; refine lex_F rfl (by kernel_rfl) rfl rfl ?_)
    | (refine isLg rfl ?_; refine lex_S rfl (by kernel_rfl) rfl rfl ?_)
    | refine aops_nil ?_
    | refine lex_done _ rfl (by kernel_rfl) ?_
    | refine aw_ct rfl ?_
    | refine aw_cf rfl ?_
    | refine aw_block ?_
    | refine then_n ?_
    | refine aw_skip ?_
    | refine aw_exit ?_
    | refine then_x ?_
    | refine then_r ?_
    | refine block_x ?_
    | refine block_n ?_
    | refine block_r ?_
    | refine aw_ret ?_
  refine aw_loop (α := { i : Nat // i ≤ xs.length ∧ ∀ j z, j < i → xs[j]? = some z → badC next (prevC xs j) z = false }) (fun i => ⟨[clL xs, I next, .any, .any, .any, .any, .any, clL xs, I xs.length, I i.1, .any, .any, .any, .any, .any, .any, .any, .any, .any, .any, .any, .any, .any, .any, .any, .any, .any, .any, .any, .any, .any, .any, .any, .any, .any, .any, .any, .any, .any, .any, .any, .any, .any, .any, .any, .any, .any, .any], [], 0⟩) (fun i => xs.length - i.1) ⟨0, Nat.zero_le _, fun j z hj => absurd hj (Nat.not_lt_zero _)⟩ ?_ ?_
  · exact sub0 [] rfl rfl (by decide) .nil (by repeat' first | exact les_nil | refine les_cons ?_ ?_ | exact le_any | exact le_refl rfl | exact le_sl rfl rfl | exact le_ptr rfl)
  · rintro ⟨i, hi, hb⟩
    repeat' first
      | refine aw_seq ?_
      | refine aw_region ?_
      | refine aw_lex [] ?_
      | (refine isA ?_; refine do_F rfl ?_)
      | (refine isL ?_; refine lex_F rfl (by kernel_rfl) rfl rfl ?_)
      | (refine isLg rfl ?_; refine lex_S rfl (by kernel_rfl) rfl rfl ?_)
      | refine aops_nil ?_
      | refine lex_done _ rfl (by kernel_rfl) ?_
      | refine aw_ct rfl ?_
      | refine aw_cf rfl ?_
      | refine aw_block ?_
      | refine then_n ?_
      | refine aw_skip ?_
      | refine aw_exit ?_
      | refine then_x ?_
      | refine then_r ?_
      | refine block_x ?_
      | refine block_n ?_
      | refine block_r ?_
      | refine aw_ret ?_
    refine aw_cond rfl (fun h => ?_) (fun h => ?_)
    · have hlt : i < xs.length := by simpa using h
      obtain ⟨z, hz⟩ : ∃ z, xs[i]? = some z := ⟨_, List.getElem?_eq_getElem hlt⟩
      repeat' first
        | refine aw_seq ?_
        | refine aw_region ?_
        | refine aw_lex [] ?_
        | (refine isA ?_; refine do_F rfl ?_)
        | (refine isL ?_; refine lex_F rfl (by kernel_rfl) rfl rfl ?_)
        | (refine isLg rfl ?_; refine lex_S rfl (by kernel_rfl) rfl rfl ?_)
        | (refine isAi (x := .tmp 7) ?_; refine do_R rfl (ia_l (z := z) rfl rfl rfl rfl (Int.natCast_nonneg i) hz) rfl ?_)
        | (refine isLi (x := .tmp 7) rfl ?_; refine lex_R rfl (by kernel_rfl) rfl (ia_l (z := z) rfl rfl rfl rfl (Int.natCast_nonneg i) hz) rfl ?_)
        | (refine isAc 66 ?_; refine do_R rfl (st_call rfl (c_within _ _ _) (.cons (.same rfl) (.cons (.same rfl) (.cons (.same rfl) .nil))) rfl) rfl ?_)
        | (refine isLc 66 rfl ?_; refine lex_R rfl (by kernel_rfl) rfl (st_call rfl (c_within _ _ _) (.cons (.same rfl) (.cons (.same rfl) (.cons (.same rfl) .nil))) rfl) rfl ?_)
        | (refine isAc 81 ?_; refine do_R rfl (st_call rfl (c_isGrant _) (.cons (.same rfl) .nil) rfl) rfl ?_)
        | (refine isLc 81 rfl ?_; refine lex_R rfl (by kernel_rfl) rfl (st_call rfl (c_isGrant _) (.cons (.same rfl) .nil) rfl) rfl ?_)
        | (refine isAi (x := .tmp 26) ?_; obtain ⟨q, hp, h0, hq⟩ := prev_at hlt hl hbr; refine do_R rfl (ia_l (z := q) rfl rfl rfl rfl h0 hq) rfl ?_)
        | (refine isLi (x := .tmp 26) rfl ?_; obtain ⟨q, hp, h0, hq⟩ := prev_at hlt hl hbr; refine lex_R rfl (by kernel_rfl) rfl (ia_l (z := q) rfl rfl rfl rfl h0 hq) rfl ?_)
        | exact fin1 rfl rfl (by rw [allC_false hz]; first | (simp only [badC, *, Bool.true_or, Bool.false_or, Bool.or_true, Bool.or_false, Bool.not_false, Bool.not_true]; done) | (rw [prev_no (by assumption)]; simp [badC, *]))
        | refine aops_nil ?_
        | refine lex_done _ rfl (by kernel_rfl) ?_
        | refine aw_ct rfl ?_
        | refine aw_cf rfl ?_
        | refine aw_block ?_
        | refine then_n ?_
        | refine aw_skip ?_
        | refine aw_exit ?_
        | refine then_x ?_
        | refine then_r ?_
        | refine block_x ?_
        | refine block_n ?_
        | refine block_r ?_
        | refine aw_ret ?_
        | refine aw_cond rfl (fun hbr => ?_) (fun hbr => ?_)
        | (refine isAg ?_; refine do_br rfl rfl (fun hbr => ?_) (fun hbr => ?_) <;> (fail_if_success (with_reducible (have hx : true = true := hbr))) <;> (fail_if_success (with_reducible (have hx : false = false := hbr))))
        | (refine isLg rfl ?_; refine lex_br rfl rfl rfl rfl (fun hbr => ?_) (fun hbr => ?_) <;> (fail_if_success (with_reducible (have hx : true = true := hbr))) <;> (fail_if_success (with_reducible (have hx : false = false := hbr))))
      all_goals
        refine ⟨⟨i + 1, hlt, allC_step hb hz (by first | (simp only [badC, *, Bool.true_or, Bool.false_or, Bool.or_true, Bool.or_false, Bool.not_false, Bool.not_true]; done) | (rw [prev_no (by assumption)]; simp [badC, *]; done))⟩, by simp only; omega, ?_⟩
        exact sub0 [] rfl rfl (by decide) .nil (by repeat' first | exact les_nil | refine les_cons ?_ ?_ | exact le_any | exact le_refl rfl | exact le_sl rfl rfl | exact le_ptr rfl | exact le_i (by assumption) (by omega))
    · have hge : i = xs.length := by
        have : ¬ ((i : Int) < xs.length) := by simpa using h
        omega
      subst hge
      repeat' first
        | refine aw_seq ?_
        | refine aw_region ?_
        | refine aw_lex [] ?_
        | (refine isA ?_; refine do_F rfl ?_)
        | (refine isL ?_; refine lex_F rfl (by kernel_rfl) rfl rfl ?_)
        | (refine isLg rfl ?_; refine lex_S rfl (by kernel_rfl) rfl rfl ?_)
        | exact fin1 rfl rfl (by rw [allC_true hb])
        | refine aops_nil ?_
        | refine lex_done _ rfl (by kernel_rfl) ?_
        | refine aw_ct rfl ?_
        | refine aw_cf rfl ?_
        | refine aw_block ?_
        | refine then_n ?_
        | refine aw_skip ?_
        | refine aw_exit ?_
        | refine then_x ?_
        | refine then_r ?_
        | refine block_x ?_
        | refine block_n ?_
        | refine block_r ?_
        | refine aw_ret ?_
end Go.Proofs.Ytjlhfemfmkdlhaa.Ab
