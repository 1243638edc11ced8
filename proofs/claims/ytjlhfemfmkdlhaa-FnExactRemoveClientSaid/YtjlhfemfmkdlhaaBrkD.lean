/-
  FnExactIsValidBroker: both sides alike; the law.
-/
import Derived.Test.YtjlhfemfmkdlhaaBrkC
namespace Go.Proofs.Ytjlhfemfmkdlhaa.Ab
open Go.RowKit
set_option linter.unusedVariables false
set_option linter.unusedSimpArgs false
set_option maxRecDepth 20000
set_option maxHeartbeats 2000000

def disj (xs ys : List Cl) : Bool := xs.all fun x => ys.all fun y => !decide (x.a = y.a)
theorem disj_true {xs ys : List Cl} (h : ∀ i x, i < xs.length → xs[i]? = some x → ∀ k y, k < ys.length → ys[k]? = some y → x.a ≠ y.a) : disj xs ys = true := by
  rw [disj, List.all_eq_true]
  intro x hx
  rw [List.all_eq_true]
  intro y hy
  obtain ⟨i, hi⟩ := List.getElem?_of_mem hx
  obtain ⟨k, hk⟩ := List.getElem?_of_mem hy
  simpa using h i x (List.getElem?_eq_some_iff.1 hi).1 hi k y (List.getElem?_eq_some_iff.1 hk).1 hk
theorem disj_false {xs ys : List Cl} {i k : Nat} {x y : Cl} (hx : xs[i]? = some x) (hy : ys[k]? = some y) (h : x.a = y.a) : disj xs ys = false := by
  rw [disj, List.all_eq_false]
  refine ⟨x, List.mem_of_getElem? hx, ?_⟩
  rw [Bool.not_eq_true, List.all_eq_false]
  exact ⟨y, List.mem_of_getElem? hy, by simp [h]⟩
theorem idx_pos {xs : List Cl} {id : Int} (h : 0 ≤ idxC xs id) : ∃ (i : Nat) (x : Cl), xs[i]? = some x ∧ x.a = id := by
  unfold idxC at h
  cases hf : xs.findIdx? (fun c => decide (c.a = id)) with
  | none => rw [hf] at h; simp at h
  | some i =>
    rw [List.findIdx?_eq_some_iff_getElem] at hf
    obtain ⟨h1, h2, _⟩ := hf
    exact ⟨i, xs[i], List.getElem?_eq_getElem h1, by simpa using h2⟩
theorem idx_neg {xs : List Cl} {id : Int} (h : ¬ 0 ≤ idxC xs id) : ∀ (i : Nat) (x : Cl), xs[i]? = some x → x.a ≠ id := by
  unfold idxC at h
  cases hf : xs.findIdx? (fun c => decide (c.a = id)) with
  | some i => rw [hf] at h; exact absurd (Int.natCast_nonneg i) h
  | none =>
    rw [List.findIdx?_eq_none_iff] at hf
    intro i x hx
    simpa using hf x (List.mem_of_getElem? hx)

def validB (b : Br) : Bool := inV b.pool 8 120 && (inV b.next 0 1000 && (allC b.next b.act && (allC b.next b.wait && (disj b.act b.wait && (decide ((b.act.length : Int) ≤ roomV b.pool) && ((decide ((b.wait.length : Int) = 0) || decide ((b.act.length : Int) = roomV b.pool)) && decide ((b.wait.length : Int) ≤ 5)))))))

theorem valid_disj {b : Br} (h : disj b.act b.wait = false) : validB b = false := by simp [validB, h]
theorem valid_list {b : Br} {i : Nat} {xs : List Cl} (hx : [b.act, b.wait][i]? = some xs) (h : allC b.next xs = false) : validB b = false := by
  match i with
  | 0 => simp at hx; subst hx; simp [validB, h]
  | 1 => simp at hx; subst hx; simp [validB, h]
  | i + 2 => simp at hx

theorem c_ivalid (b : Br) (h1 : b.act.length ≤ 1000000000) (h2 : b.wait.length ≤ 1000000000) : Meets Go.Proofs.Try.prog 25 [.agg (brE b)] [] (B (validB b)) [] false := by
  refine meets_of [2] Go.Proofs.Try.func25 rfl rfl ?_
  simp only [Go.Proofs.Try.ntmps25, List.length_cons, List.length_nil, Nat.reduceAdd, Nat.reduceSub, List.replicate_succ, List.replicate_zero, List.cons_append, List.nil_append]
  repeat' first
    | refine aw_seq ?_
    | refine aw_region ?_
    | refine aw_lex [] ?_
    | (refine isA ?_; refine do_F rfl ?_)
    | (refine isL ?_; refine lex_F rfl (by kernel_rfl) rfl rfl ?_)
    | (refine isLg rfl ?_; refine lex_S rfl (by kernel_rfl) rfl rfl ?_)
    | (refine isAc 66 ?_; refine do_R rfl (st_call rfl (c_within _ _ _) (.cons (.same rfl) (.cons (.same rfl) (.cons (.same rfl) .nil))) rfl) rfl ?_)
    | (refine isLc 66 rfl ?_; refine lex_R rfl (by kernel_rfl) rfl (st_call rfl (c_within _ _ _) (.cons (.same rfl) (.cons (.same rfl) (.cons (.same rfl) .nil))) rfl) rfl ?_)
    | (refine isAc 75 ?_; refine do_R rfl (st_call rfl (c_right _ _ h1) (.cons (.same rfl) (.cons (.same rfl) .nil)) rfl) rfl ?_)
    | (refine isAc 75 ?_; refine do_R rfl (st_call rfl (c_right _ _ h2) (.cons (.same rfl) (.cons (.same rfl) .nil)) rfl) rfl ?_)
    | exact fin1 rfl rfl (by first | ((try simp only [Bool.not_eq_true', Bool.not_eq_false'] at *); simp only [validB, *, Bool.true_and, Bool.false_and, Bool.and_true, Bool.and_false, Bool.true_or, Bool.false_or, Bool.or_true, Bool.or_false, Bool.not_true, Bool.not_false, cond_true, cond_false]; done) | (simp_all [validB]; done) | (simp_all [validB]; intros; omega))
    | refine aops_nil ?_
    | refine lex_done _ rfl (by kernel_rfl) ?_
    | refine aw_ct rfl ?_
    | refine aw_cf rfl ?_
    | refine aw_block ?_
    | refine then_n ?_
    | refine aw_skip ?_
    | refine aw_exit ?_
    | refine then_x ?_
    | refine then_r ?_
    | refine block_x ?_
    | refine block_n ?_
    | refine block_r ?_
    | refine aw_ret ?_
    | refine aw_cond rfl (fun hbr => ?_) (fun hbr => ?_)
    | (refine isAg ?_; refine do_br rfl rfl (fun hbr => ?_) (fun hbr => ?_) <;> (fail_if_success (with_reducible (have hx : true = true := hbr))) <;> (fail_if_success (with_reducible (have hx : false = false := hbr))))
    | (refine isLg rfl ?_; refine lex_br rfl rfl rfl rfl (fun hbr => ?_) (fun hbr => ?_) <;> (fail_if_success (with_reducible (have hx : true = true := hbr))) <;> (fail_if_success (with_reducible (have hx : false = false := hbr))))
  refine aw_loop (α := { i : Nat // i ≤ b.wait.length ∧ ∀ k y, k < i → b.wait[k]? = some y → ∀ (j : Nat) (x : Cl), b.act[j]? = some x → x.a ≠ y.a }) (fun i => ⟨[.any, .ptr 0 0, .any, .any, .any, .any, .any, .any, .any, .any, .any, .any, .any, .any, .any, .any, .any, .any, .any, .any, .any, .any, .any, .any, .any, .any, .any, .any, .any, .any, .any, .any, .any, .any, clL b.wait, I b.wait.length, I i.1, .any, .any, .any, .any, .any, .any, .any, .any, .any, .any, .any, .any, .any, .any, .any, .any, .any, .any, .any, .any, .any, .any, .any, .any, .any, .any, .any, .any, .any, .any, .any, .any, .any, .any], [⟨24, 4, brE b, 0⟩], 0⟩) (fun i => b.wait.length - i.1) ⟨0, Nat.zero_le _, fun j z hj => absurd hj (Nat.not_lt_zero _)⟩ ?_ ?_
  · exact sub0 [0] rfl rfl (by decide) (by repeat' first | exact HLes.nil | refine HLes.cons rfl rfl rfl rfl ?_ ?_ | exact les_nil | refine les_cons ?_ ?_ | exact le_any | exact le_refl rfl | exact le_sl rfl rfl | exact le_ptr rfl) (by repeat' first | exact les_nil | refine les_cons ?_ ?_ | exact le_any | exact le_refl rfl | exact le_sl rfl rfl | exact le_ptr rfl)
  · rintro ⟨i, hi, hb⟩
    repeat' first
      | refine aw_seq ?_
      | refine aw_region ?_
      | refine aw_lex [] ?_
      | (refine isA ?_; refine do_F rfl ?_)
      | (refine isL ?_; refine lex_F rfl (by kernel_rfl) rfl rfl ?_)
      | (refine isLg rfl ?_; refine lex_S rfl (by kernel_rfl) rfl rfl ?_)
      | refine aops_nil ?_
      | refine lex_done _ rfl (by kernel_rfl) ?_
      | refine aw_ct rfl ?_
      | refine aw_cf rfl ?_
      | refine aw_block ?_
      | refine then_n ?_
      | refine aw_skip ?_
      | refine aw_exit ?_
      | refine then_x ?_
      | refine then_r ?_
      | refine block_x ?_
      | refine block_n ?_
      | refine block_r ?_
      | refine aw_ret ?_
    refine aw_cond rfl (fun h => ?_) (fun h => ?_)
    · have hlt : i < b.wait.length := by simpa using h
      obtain ⟨z, hz⟩ : ∃ z, b.wait[i]? = some z := ⟨_, List.getElem?_eq_getElem hlt⟩
      repeat' first
        | refine aw_seq ?_
        | refine aw_region ?_
        | refine aw_lex [] ?_
        | (refine isA ?_; refine do_F rfl ?_)
        | (refine isL ?_; refine lex_F rfl (by kernel_rfl) rfl rfl ?_)
        | (refine isLg rfl ?_; refine lex_S rfl (by kernel_rfl) rfl rfl ?_)
        | (refine isAi ?_; refine do_R rfl (ia_l (z := z) rfl rfl rfl rfl (Int.natCast_nonneg i) hz) rfl ?_)
        | (refine isLi rfl ?_; refine lex_R rfl (by kernel_rfl) rfl (ia_l (z := z) rfl rfl rfl rfl (Int.natCast_nonneg i) hz) rfl ?_)
        | (refine isAc 76 ?_; refine do_R rfl (st_call rfl (c_clientAt _ _ h1) (.cons (.same rfl) (.cons (.same rfl) .nil)) rfl) rfl ?_)
        | (refine isLc 76 rfl ?_; refine lex_R rfl (by kernel_rfl) rfl (st_call rfl (c_clientAt _ _ h1) (.cons (.same rfl) (.cons (.same rfl) .nil)) rfl) rfl ?_)
        | refine aops_nil ?_
        | refine lex_done _ rfl (by kernel_rfl) ?_
        | refine aw_ct rfl ?_
        | refine aw_cf rfl ?_
        | refine aw_block ?_
        | refine then_n ?_
        | refine aw_skip ?_
        | refine aw_exit ?_
        | refine then_x ?_
        | refine then_r ?_
        | refine block_x ?_
        | refine block_n ?_
        | refine block_r ?_
        | refine aw_ret ?_
      refine aw_cond rfl (fun hp => ?_) (fun hp => ?_)
      · obtain ⟨j, x, hx, he⟩ := idx_pos (of_decide_eq_true hp)
        repeat' first
          | refine aw_seq ?_
          | refine aw_region ?_
          | refine aw_lex [] ?_
          | (refine isA ?_; refine do_F rfl ?_)
          | (refine isL ?_; refine lex_F rfl (by kernel_rfl) rfl rfl ?_)
          | (refine isLg rfl ?_; refine lex_S rfl (by kernel_rfl) rfl rfl ?_)
          | exact fin1 rfl rfl (by rw [valid_disj (disj_false hx hz he)])
          | refine aops_nil ?_
          | refine lex_done _ rfl (by kernel_rfl) ?_
          | refine aw_ct rfl ?_
          | refine aw_cf rfl ?_
          | refine aw_block ?_
          | refine then_n ?_
          | refine aw_skip ?_
          | refine aw_exit ?_
          | refine then_x ?_
          | refine then_r ?_
          | refine block_x ?_
          | refine block_n ?_
          | refine block_r ?_
          | refine aw_ret ?_
      · repeat' first
          | refine aw_seq ?_
          | refine aw_region ?_
          | refine aw_lex [] ?_
          | (refine isA ?_; refine do_F rfl ?_)
          | (refine isL ?_; refine lex_F rfl (by kernel_rfl) rfl rfl ?_)
          | (refine isLg rfl ?_; refine lex_S rfl (by kernel_rfl) rfl rfl ?_)
          | refine aops_nil ?_
          | refine lex_done _ rfl (by kernel_rfl) ?_
          | refine aw_ct rfl ?_
          | refine aw_cf rfl ?_
          | refine aw_block ?_
          | refine then_n ?_
          | refine aw_skip ?_
          | refine aw_exit ?_
          | refine then_x ?_
          | refine then_r ?_
          | refine block_x ?_
          | refine block_n ?_
          | refine block_r ?_
          | refine aw_ret ?_
        refine ⟨⟨i + 1, hlt, fun k y hk hy => ?_⟩, by simp only; omega, ?_⟩
        · rcases Nat.lt_succ_iff_lt_or_eq.1 hk with hk | rfl
          · exact hb k y hk hy
          · rw [hz] at hy
            cases hy
            exact idx_neg (of_decide_eq_false hp)
        · exact sub0 [0] rfl rfl (by decide) (by repeat' first | exact HLes.nil | refine HLes.cons rfl rfl rfl rfl ?_ ?_ | exact les_nil | refine les_cons ?_ ?_ | exact le_any | exact le_refl rfl | exact le_sl rfl rfl | exact le_ptr rfl) (by repeat' first | exact les_nil | refine les_cons ?_ ?_ | exact le_any | exact le_refl rfl | exact le_sl rfl rfl | exact le_ptr rfl | exact le_i (by assumption) (by omega))
    · have hge : i = b.wait.length := by
        have : ¬ ((i : Int) < b.wait.length) := by simpa using h
        omega
      subst hge
      have hd : disj b.act b.wait = true := disj_true fun i x hi hx k y hk hy => hb k y hk hy i x hx
      repeat' first
        | refine aw_seq ?_
        | refine aw_region ?_
        | refine aw_lex [] ?_
        | (refine isA ?_; refine do_F rfl ?_)
        | (refine isL ?_; refine lex_F rfl (by kernel_rfl) rfl rfl ?_)
        | (refine isLg rfl ?_; refine lex_S rfl (by kernel_rfl) rfl rfl ?_)
        | (refine isAc 77 ?_; refine do_R rfl (st_call rfl (c_iroom _) (.cons (.same rfl) .nil) rfl) rfl ?_)
        | (refine isLc 77 rfl ?_; refine lex_R rfl (by kernel_rfl) rfl (st_call rfl (c_iroom _) (.cons (.same rfl) .nil) rfl) rfl ?_)
        | exact fin1 rfl rfl (by first | ((try simp only [Bool.not_eq_true', Bool.not_eq_false'] at *); simp only [validB, *, Bool.true_and, Bool.false_and, Bool.and_true, Bool.and_false, Bool.true_or, Bool.false_or, Bool.or_true, Bool.or_false, Bool.not_true, Bool.not_false, cond_true, cond_false]; done) | (simp_all [validB]; done) | (simp_all [validB]; intros; omega))
        | refine aops_nil ?_
        | refine lex_done _ rfl (by kernel_rfl) ?_
        | refine aw_ct rfl ?_
        | refine aw_cf rfl ?_
        | refine aw_block ?_
        | refine then_n ?_
        | refine aw_skip ?_
        | refine aw_exit ?_
        | refine then_x ?_
        | refine then_r ?_
        | refine block_x ?_
        | refine block_n ?_
        | refine block_r ?_
        | refine aw_ret ?_
        | (refine isAg ?_; refine do_br rfl rfl (fun hbr => ?_) (fun hbr => ?_) <;> (fail_if_success (with_reducible (have hx : true = true := hbr))) <;> (fail_if_success (with_reducible (have hx : false = false := hbr))))
        | (refine isLg rfl ?_; refine lex_br rfl rfl rfl rfl (fun hbr => ?_) (fun hbr => ?_) <;> (fail_if_success (with_reducible (have hx : true = true := hbr))) <;> (fail_if_success (with_reducible (have hx : false = false := hbr))))
end Go.Proofs.Ytjlhfemfmkdlhaa.Ab
