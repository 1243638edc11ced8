/-
  Rows compared and merged, both sides.
-/
import Derived.Test.YtngeppmincgebaaNsA
namespace Go.Proofs.Ytngeppmincgebaa.Ab
open Go.RowKit
set_option linter.unusedVariables false
set_option linter.unusedSimpArgs false
set_option maxRecDepth 20000
set_option maxHeartbeats 2000000

/-! ### Rows compared -/
def ordI (a b : Int) : Int := cond (decide (a < b)) (-1) (cond (decide (b < a)) 1 0)
def cmpL : List Int → List Int → Int
  | x :: xs, y :: ys => cond (decide (x < y)) (-1) (cond (decide (y < x)) 1 (cmpL xs ys))
  | _, _ => 0
def rwN (x : Rw) : List Int := [x.a, x.b, x.c]
def cmpV (x y : Rw) : Int := cmpL (rwN x) (rwN y)
theorem c_order (a b : Int) : Meets Go.Proofs.Try.prog 100 [I a, I b] [] (I (ordI a b)) [] false := by
  refine meets_of [4] Go.Proofs.Try.func100 rfl rfl ?_
  simp only [Go.Proofs.Try.ntmps100, List.length_cons, List.length_nil, Nat.reduceAdd, Nat.reduceSub, List.replicate_succ, List.replicate_zero, List.cons_append, List.nil_append]
  repeat' first
    | refine aw_seq ?_
    | refine aw_region ?_
    | refine aw_lex [] ?_
    | (refine isA ?_; refine do_F rfl ?_)
    | (refine isL ?_; refine lex_F rfl (by kernel_rfl) rfl rfl ?_)
    | (refine isLg rfl ?_; refine lex_S rfl (by kernel_rfl) rfl rfl ?_)
    | exact fin1 rfl rfl (by simp only [ordI, *, cond_true, cond_false])
    | refine aops_nil ?_
    | refine lex_done _ rfl (by kernel_rfl) ?_
    | refine aw_ct rfl ?_
    | refine aw_cf rfl ?_
    | refine aw_block ?_
    | refine then_n ?_
    | refine aw_skip ?_
    | refine aw_exit ?_
    | refine then_x ?_
    | refine then_r ?_
    | refine block_x ?_
    | refine block_n ?_
    | refine block_r ?_
    | refine aw_ret ?_
    | refine aw_cond rfl (fun hbr => ?_) (fun hbr => ?_)
    | (refine isAg ?_; refine do_br rfl rfl (fun hbr => ?_) (fun hbr => ?_) <;> (fail_if_success (with_reducible (have hx : true = true := hbr))) <;> (fail_if_success (with_reducible (have hx : false = false := hbr))))
    | (refine isLg rfl ?_; refine lex_br rfl rfl rfl rfl (fun hbr => ?_) (fun hbr => ?_) <;> (fail_if_success (with_reducible (have hx : true = true := hbr))) <;> (fail_if_success (with_reducible (have hx : false = false := hbr))))
theorem cmp_ne {a b : Int} {xs ys : List Int} (h : ordI a b ≠ 0) : cmpL (a :: xs) (b :: ys) = ordI a b := by
  rw [cmpL]
  unfold ordI at h ⊢
  generalize decide (a < b) = p at h ⊢
  generalize decide (b < a) = q at h ⊢
  cases p
  · cases q
    · exact absurd rfl h
    · rfl
  · rfl
theorem cmp_eq {a b : Int} {xs ys : List Int} (h : ordI a b = 0) : cmpL (a :: xs) (b :: ys) = cmpL xs ys := by
  rw [cmpL]
  unfold ordI at h
  generalize decide (a < b) = p at h ⊢
  generalize decide (b < a) = q at h ⊢
  cases p
  · cases q
    · rfl
    · cases h
  · cases h
theorem cmp_one {a b : Int} : cmpL [a] [b] = ordI a b := rfl
theorem c_icmp (x y : Rw) : Meets Go.Proofs.Try.prog 74 [.agg (rwE x), .agg (rwE y)] [] (I (cmpV x y)) [] false := by
  refine meets_of [4] Go.Proofs.Try.func74 rfl rfl ?_
  simp only [Go.Proofs.Try.ntmps74, List.length_cons, List.length_nil, Nat.reduceAdd, Nat.reduceSub, List.replicate_succ, List.replicate_zero, List.cons_append, List.nil_append]
  repeat' first
    | refine aw_seq ?_
    | refine aw_region ?_
    | refine aw_lex [] ?_
    | (refine isA ?_; refine do_F rfl ?_)
    | (refine isL ?_; refine lex_F rfl (by kernel_rfl) rfl rfl ?_)
    | (refine isLg rfl ?_; refine lex_S rfl (by kernel_rfl) rfl rfl ?_)
    | (refine isAc 100 ?_; refine do_R rfl (st_call rfl (c_order _ _) (.cons (.same rfl) (.cons (.same rfl) .nil)) rfl) rfl ?_)
    | (refine isLc 100 rfl ?_; refine lex_R rfl (by kernel_rfl) rfl (st_call rfl (c_order _ _) (.cons (.same rfl) (.cons (.same rfl) .nil)) rfl) rfl ?_)
    | refine aops_nil ?_
    | refine lex_done _ rfl (by kernel_rfl) ?_
    | refine aw_ct rfl ?_
    | refine aw_cf rfl ?_
    | refine aw_block ?_
    | refine then_n ?_
    | refine aw_skip ?_
    | refine aw_exit ?_
    | refine then_x ?_
    | refine then_r ?_
    | refine block_x ?_
    | refine block_n ?_
    | refine block_r ?_
    | refine aw_ret ?_
  refine aw_cond rfl (fun h => ?_) (fun h => ?_)
  · have h1 : ordI x.a y.a ≠ 0 := by simpa using h
    have e : cmpV x y = ordI x.a y.a := cmp_ne h1
    repeat' first
      | refine aw_seq ?_
      | refine aw_region ?_
      | refine aw_lex [] ?_
      | (refine isA ?_; refine do_F rfl ?_)
      | (refine isL ?_; refine lex_F rfl (by kernel_rfl) rfl rfl ?_)
      | (refine isLg rfl ?_; refine lex_S rfl (by kernel_rfl) rfl rfl ?_)
      | exact fin1 rfl rfl (by rw [e])
      | refine aops_nil ?_
      | refine lex_done _ rfl (by kernel_rfl) ?_
      | refine aw_ct rfl ?_
      | refine aw_cf rfl ?_
      | refine aw_block ?_
      | refine then_n ?_
      | refine aw_skip ?_
      | refine aw_exit ?_
      | refine then_x ?_
      | refine then_r ?_
      | refine block_x ?_
      | refine block_n ?_
      | refine block_r ?_
      | refine aw_ret ?_
  have h1 : ordI x.a y.a = 0 := by simpa using h
  repeat' first
    | refine aw_seq ?_
    | refine aw_region ?_
    | refine aw_lex [] ?_
    | (refine isA ?_; refine do_F rfl ?_)
    | (refine isL ?_; refine lex_F rfl (by kernel_rfl) rfl rfl ?_)
    | (refine isLg rfl ?_; refine lex_S rfl (by kernel_rfl) rfl rfl ?_)
    | (refine isAc 100 ?_; refine do_R rfl (st_call rfl (c_order _ _) (.cons (.same rfl) (.cons (.same rfl) .nil)) rfl) rfl ?_)
    | (refine isLc 100 rfl ?_; refine lex_R rfl (by kernel_rfl) rfl (st_call rfl (c_order _ _) (.cons (.same rfl) (.cons (.same rfl) .nil)) rfl) rfl ?_)
    | refine aops_nil ?_
    | refine lex_done _ rfl (by kernel_rfl) ?_
    | refine aw_ct rfl ?_
    | refine aw_cf rfl ?_
    | refine aw_block ?_
    | refine then_n ?_
    | refine aw_skip ?_
    | refine aw_exit ?_
    | refine then_x ?_
    | refine then_r ?_
    | refine block_x ?_
    | refine block_n ?_
    | refine block_r ?_
    | refine aw_ret ?_
  refine aw_cond rfl (fun h => ?_) (fun h => ?_)
  · have h2 : ordI x.b y.b ≠ 0 := by simpa using h
    have e : cmpV x y = ordI x.b y.b := (cmp_eq h1).trans (cmp_ne h2)
    repeat' first
      | refine aw_seq ?_
      | refine aw_region ?_
      | refine aw_lex [] ?_
      | (refine isA ?_; refine do_F rfl ?_)
      | (refine isL ?_; refine lex_F rfl (by kernel_rfl) rfl rfl ?_)
      | (refine isLg rfl ?_; refine lex_S rfl (by kernel_rfl) rfl rfl ?_)
      | exact fin1 rfl rfl (by rw [e])
      | refine aops_nil ?_
      | refine lex_done _ rfl (by kernel_rfl) ?_
      | refine aw_ct rfl ?_
      | refine aw_cf rfl ?_
      | refine aw_block ?_
      | refine then_n ?_
      | refine aw_skip ?_
      | refine aw_exit ?_
      | refine then_x ?_
      | refine then_r ?_
      | refine block_x ?_
      | refine block_n ?_
      | refine block_r ?_
      | refine aw_ret ?_
  have h2 : ordI x.b y.b = 0 := by simpa using h
  have e : cmpV x y = ordI x.c y.c := (cmp_eq h1).trans ((cmp_eq h2).trans cmp_one)
  repeat' first
    | refine aw_seq ?_
    | refine aw_region ?_
    | refine aw_lex [] ?_
    | (refine isA ?_; refine do_F rfl ?_)
    | (refine isL ?_; refine lex_F rfl (by kernel_rfl) rfl rfl ?_)
    | (refine isLg rfl ?_; refine lex_S rfl (by kernel_rfl) rfl rfl ?_)
    | (refine isAc 100 ?_; refine do_R rfl (st_call rfl (c_order _ _) (.cons (.same rfl) (.cons (.same rfl) .nil)) rfl) rfl ?_)
    | (refine isLc 100 rfl ?_; refine lex_R rfl (by kernel_rfl) rfl (st_call rfl (c_order _ _) (.cons (.same rfl) (.cons (.same rfl) .nil)) rfl) rfl ?_)
    | exact fin1 rfl rfl (by rw [e])
    | refine aops_nil ?_
    | refine lex_done _ rfl (by kernel_rfl) ?_
    | refine aw_ct rfl ?_
    | refine aw_cf rfl ?_
    | refine aw_block ?_
    | refine then_n ?_
    | refine aw_skip ?_
    | refine aw_exit ?_
    | refine then_x ?_
    | refine then_r ?_
    | refine block_x ?_
    | refine block_n ?_
    | refine block_r ?_
    | refine aw_ret ?_

def intT : Ty Int := ⟨1, fun n => [I n], fun _ => rfl, by decide, fun r c hc => by
  simp only [List.mem_cons, List.not_mem_nil, or_false] at hc
  subst hc
  exact ⟨rfl, rfl⟩⟩
theorem cmp_at {xs ys : List Int} {i : Nat} {a b : Int} (hx : xs[i]? = some a) (hy : ys[i]? = some b) : cmpL (xs.drop i) (ys.drop i) = cond (decide (a < b)) (-1) (cond (decide (b < a)) 1 (cmpL (xs.drop (i + 1)) (ys.drop (i + 1)))) := by
  rw [take_drop1 hx, take_drop1 hy, cmpL]
theorem c_scmp (x y : Rw) : Meets Go.Proofs.Try.prog 73 [.agg (rwE x), .agg (rwE y)] [] (I (cmpV x y)) [] false := by
  refine meets_of [4] Go.Proofs.Try.func73 rfl rfl ?_
  simp only [Go.Proofs.Try.ntmps73, List.length_cons, List.length_nil, Nat.reduceAdd, Nat.reduceSub, List.replicate_succ, List.replicate_zero, List.cons_append, List.nil_append]
  repeat' first
    | refine aw_seq ?_
    | refine aw_region ?_
    | refine aw_lex [] ?_
    | (refine isA ?_; refine do_F rfl ?_)
    | (refine isL ?_; refine lex_F rfl (by kernel_rfl) rfl rfl ?_)
    | (refine isLg rfl ?_; refine lex_S rfl (by kernel_rfl) rfl rfl ?_)
    | refine aops_nil ?_
    | refine lex_done _ rfl (by kernel_rfl) ?_
    | refine aw_ct rfl ?_
    | refine aw_cf rfl ?_
    | refine aw_block ?_
    | refine then_n ?_
    | refine aw_skip ?_
    | refine aw_exit ?_
    | refine then_x ?_
    | refine then_r ?_
    | refine block_x ?_
    | refine block_n ?_
    | refine block_r ?_
    | refine aw_ret ?_
  refine aw_loop (α := { i : Nat // i ≤ 3 ∧ cmpL ((rwN x).drop i) ((rwN y).drop i) = cmpV x y }) (fun i => ⟨[.any, .any, .any, .any, .any, .sl 0 0 3, .sl 1 0 3, I i.1, .any, .any, .any, .any, .any, .any, .any, .any, .any, .any, .any, .any, .any, .any, .any, .any, .any, .any, .any, .any, .any, .any, .any, .any, .any, .any, .any, .any, .any, .any, .any, .any, .any, .any, .any, .any], [regOf intT 3 (rwN x), regOf intT 3 (rwN y)], 0⟩) (fun i => 3 - i.1) ⟨0, Nat.zero_le _, rfl⟩ ?_ ?_
  · exact sub0 [2, 3] rfl rfl (by decide) (.cons rfl rfl rfl rfl (les_refl' rfl) (.cons rfl rfl rfl rfl (les_refl' rfl) .nil)) (by repeat' first | exact les_nil | refine les_cons ?_ ?_ | exact le_any | exact le_refl rfl | exact le_sl rfl rfl | exact le_ptr rfl)
  · rintro ⟨i, hi, hq⟩
    repeat' first
      | refine aw_seq ?_
      | refine aw_region ?_
      | refine aw_lex [] ?_
      | (refine isA ?_; refine do_F rfl ?_)
      | (refine isL ?_; refine lex_F rfl (by kernel_rfl) rfl rfl ?_)
      | (refine isLg rfl ?_; refine lex_S rfl (by kernel_rfl) rfl rfl ?_)
      | refine aops_nil ?_
      | refine lex_done _ rfl (by kernel_rfl) ?_
      | refine aw_ct rfl ?_
      | refine aw_cf rfl ?_
      | refine aw_block ?_
      | refine then_n ?_
      | refine aw_skip ?_
      | refine aw_exit ?_
      | refine then_x ?_
      | refine then_r ?_
      | refine block_x ?_
      | refine block_n ?_
      | refine block_r ?_
      | refine aw_ret ?_
    refine aw_cond rfl (fun h => ?_) (fun h => ?_)
    · have hlt : i < 3 := by have := of_decide_eq_true h; simp only at this; omega
      obtain ⟨a, ha⟩ : ∃ z, (rwN x)[i]? = some z := ⟨_, List.getElem?_eq_getElem hlt⟩
      obtain ⟨b, hb⟩ : ∃ z, (rwN y)[i]? = some z := ⟨_, List.getElem?_eq_getElem hlt⟩
      rw [cmp_at ha hb] at hq
      repeat' first
        | refine aw_seq ?_
        | refine aw_region ?_
        | refine aw_lex [] ?_
        | (refine isA ?_; refine do_F rfl ?_)
        | (refine isL ?_; refine lex_F rfl (by kernel_rfl) rfl rfl ?_)
        | (refine isLg rfl ?_; refine lex_S rfl (by kernel_rfl) rfl rfl ?_)
        | (refine isAi (x := .tmp 26) ?_; refine do_R rfl (ia_s (t := intT) (xs := rwN x) rfl rfl rfl rfl rfl (Int.natCast_nonneg i) (by simp only; show (i : Int) < 3; omega)) rfl ?_)
        | (refine isLi (x := .tmp 26) rfl ?_; refine lex_R rfl (by kernel_rfl) rfl (ia_s (t := intT) (xs := rwN x) rfl rfl rfl rfl rfl (Int.natCast_nonneg i) (by simp only; show (i : Int) < 3; omega)) rfl ?_)
        | (refine isAi (x := .tmp 30) ?_; refine do_R rfl (ia_s (t := intT) (xs := rwN y) rfl rfl rfl rfl rfl (Int.natCast_nonneg i) (by simp only; show (i : Int) < 3; omega)) rfl ?_)
        | (refine isLi (x := .tmp 30) rfl ?_; refine lex_R rfl (by kernel_rfl) rfl (ia_s (t := intT) (xs := rwN y) rfl rfl rfl rfl rfl (Int.natCast_nonneg i) (by simp only; show (i : Int) < 3; omega)) rfl ?_)
        | (refine isAl (x := .tmp 28) ?_; refine do_R rfl (ld_f (T := intT) (i := i) (off := 0) (xs := rwN x) (z := a) rfl rfl rfl ha rfl) rfl ?_)
        | (refine isLl (x := .tmp 28) rfl ?_; refine lex_R rfl (by kernel_rfl) rfl (ld_f (T := intT) (i := i) (off := 0) (xs := rwN x) (z := a) rfl rfl rfl ha rfl) rfl ?_)
        | (refine isAl (x := .tmp 32) ?_; refine do_R rfl (ld_f (T := intT) (i := i) (off := 0) (xs := rwN y) (z := b) rfl rfl rfl hb rfl) rfl ?_)
        | (refine isLl (x := .tmp 32) rfl ?_; refine lex_R rfl (by kernel_rfl) rfl (ld_f (T := intT) (i := i) (off := 0) (xs := rwN y) (z := b) rfl rfl rfl hb rfl) rfl ?_)
        | refine aops_nil ?_
        | refine lex_done _ rfl (by kernel_rfl) ?_
        | refine aw_ct rfl ?_
        | refine aw_cf rfl ?_
        | refine aw_block ?_
        | refine then_n ?_
        | refine aw_skip ?_
        | refine aw_exit ?_
        | refine then_x ?_
        | refine then_r ?_
        | refine block_x ?_
        | refine block_n ?_
        | refine block_r ?_
        | refine aw_ret ?_
      refine aw_cond rfl (fun h1 => ?_) (fun h1 => ?_)
      · rw [h1, cond_true] at hq
        repeat' first
          | refine aw_seq ?_
          | refine aw_region ?_
          | refine aw_lex [] ?_
          | (refine isA ?_; refine do_F rfl ?_)
          | (refine isL ?_; refine lex_F rfl (by kernel_rfl) rfl rfl ?_)
          | (refine isLg rfl ?_; refine lex_S rfl (by kernel_rfl) rfl rfl ?_)
          | exact fin1 rfl rfl (congrArg I hq)
          | refine aops_nil ?_
          | refine lex_done _ rfl (by kernel_rfl) ?_
          | refine aw_ct rfl ?_
          | refine aw_cf rfl ?_
          | refine aw_block ?_
          | refine then_n ?_
          | refine aw_skip ?_
          | refine aw_exit ?_
          | refine then_x ?_
          | refine then_r ?_
          | refine block_x ?_
          | refine block_n ?_
          | refine block_r ?_
          | refine aw_ret ?_
      rw [h1, cond_false] at hq
      repeat' first
        | refine aw_seq ?_
        | refine aw_region ?_
        | refine aw_lex [] ?_
        | (refine isA ?_; refine do_F rfl ?_)
        | (refine isL ?_; refine lex_F rfl (by kernel_rfl) rfl rfl ?_)
        | (refine isLg rfl ?_; refine lex_S rfl (by kernel_rfl) rfl rfl ?_)
        | (refine isAi (x := .tmp 35) ?_; refine do_R rfl (ia_s (t := intT) (xs := rwN x) rfl rfl rfl rfl rfl (Int.natCast_nonneg i) (by simp only; show (i : Int) < 3; omega)) rfl ?_)
        | (refine isLi (x := .tmp 35) rfl ?_; refine lex_R rfl (by kernel_rfl) rfl (ia_s (t := intT) (xs := rwN x) rfl rfl rfl rfl rfl (Int.natCast_nonneg i) (by simp only; show (i : Int) < 3; omega)) rfl ?_)
        | (refine isAi (x := .tmp 39) ?_; refine do_R rfl (ia_s (t := intT) (xs := rwN y) rfl rfl rfl rfl rfl (Int.natCast_nonneg i) (by simp only; show (i : Int) < 3; omega)) rfl ?_)
        | (refine isLi (x := .tmp 39) rfl ?_; refine lex_R rfl (by kernel_rfl) rfl (ia_s (t := intT) (xs := rwN y) rfl rfl rfl rfl rfl (Int.natCast_nonneg i) (by simp only; show (i : Int) < 3; omega)) rfl ?_)
        | (refine isAl (x := .tmp 37) ?_; refine do_R rfl (ld_f (T := intT) (i := i) (off := 0) (xs := rwN x) (z := a) rfl rfl rfl ha rfl) rfl ?_)
        | (refine isLl (x := .tmp 37) rfl ?_; refine lex_R rfl (by kernel_rfl) rfl (ld_f (T := intT) (i := i) (off := 0) (xs := rwN x) (z := a) rfl rfl rfl ha rfl) rfl ?_)
        | (refine isAl (x := .tmp 41) ?_; refine do_R rfl (ld_f (T := intT) (i := i) (off := 0) (xs := rwN y) (z := b) rfl rfl rfl hb rfl) rfl ?_)
        | (refine isLl (x := .tmp 41) rfl ?_; refine lex_R rfl (by kernel_rfl) rfl (ld_f (T := intT) (i := i) (off := 0) (xs := rwN y) (z := b) rfl rfl rfl hb rfl) rfl ?_)
        | refine aops_nil ?_
        | refine lex_done _ rfl (by kernel_rfl) ?_
        | refine aw_ct rfl ?_
        | refine aw_cf rfl ?_
        | refine aw_block ?_
        | refine then_n ?_
        | refine aw_skip ?_
        | refine aw_exit ?_
        | refine then_x ?_
        | refine then_r ?_
        | refine block_x ?_
        | refine block_n ?_
        | refine block_r ?_
        | refine aw_ret ?_
      refine aw_cond rfl (fun h2 => ?_) (fun h2 => ?_)
      · rw [h2, cond_true] at hq
        repeat' first
          | refine aw_seq ?_
          | refine aw_region ?_
          | refine aw_lex [] ?_
          | (refine isA ?_; refine do_F rfl ?_)
          | (refine isL ?_; refine lex_F rfl (by kernel_rfl) rfl rfl ?_)
          | (refine isLg rfl ?_; refine lex_S rfl (by kernel_rfl) rfl rfl ?_)
          | exact fin1 rfl rfl (congrArg I hq)
          | refine aops_nil ?_
          | refine lex_done _ rfl (by kernel_rfl) ?_
          | refine aw_ct rfl ?_
          | refine aw_cf rfl ?_
          | refine aw_block ?_
          | refine then_n ?_
          | refine aw_skip ?_
          | refine aw_exit ?_
          | refine then_x ?_
          | refine then_r ?_
          | refine block_x ?_
          | refine block_n ?_
          | refine block_r ?_
          | refine aw_ret ?_
      rw [h2, cond_false] at hq
      repeat' first
        | refine aw_seq ?_
        | refine aw_region ?_
        | refine aw_lex [] ?_
        | (refine isA ?_; refine do_F rfl ?_)
        | (refine isL ?_; refine lex_F rfl (by kernel_rfl) rfl rfl ?_)
        | (refine isLg rfl ?_; refine lex_S rfl (by kernel_rfl) rfl rfl ?_)
        | refine aops_nil ?_
        | refine lex_done _ rfl (by kernel_rfl) ?_
        | refine aw_ct rfl ?_
        | refine aw_cf rfl ?_
        | refine aw_block ?_
        | refine then_n ?_
        | refine aw_skip ?_
        | refine aw_exit ?_
        | refine then_x ?_
        | refine then_r ?_
        | refine block_x ?_
        | refine block_n ?_
        | refine block_r ?_
        | refine aw_ret ?_
      refine ⟨⟨i + 1, hlt, hq⟩, by simp only; omega, ?_⟩
      exact sub0 [0, 1] rfl rfl (by decide) (.cons rfl rfl rfl rfl (les_refl' rfl) (.cons rfl rfl rfl rfl (les_refl' rfl) .nil)) (by
        repeat' first
          | exact les_nil
          | refine les_cons ?_ ?_
          | exact le_any
          | exact le_refl rfl
          | exact le_sl rfl rfl
          | exact le_i hlt (by omega))
    · have hge : i = 3 := by have := of_decide_eq_false h; simp only at this; omega
      subst hge
      repeat' first
        | refine aw_seq ?_
        | refine aw_region ?_
        | refine aw_lex [] ?_
        | (refine isA ?_; refine do_F rfl ?_)
        | (refine isL ?_; refine lex_F rfl (by kernel_rfl) rfl rfl ?_)
        | (refine isLg rfl ?_; refine lex_S rfl (by kernel_rfl) rfl rfl ?_)
        | exact fin1 rfl rfl (congrArg I hq)
        | refine aops_nil ?_
        | refine lex_done _ rfl (by kernel_rfl) ?_
        | refine aw_ct rfl ?_
        | refine aw_cf rfl ?_
        | refine aw_block ?_
        | refine then_n ?_
        | refine aw_skip ?_
        | refine aw_exit ?_
        | refine then_x ?_
        | refine then_r ?_
        | refine block_x ?_
        | refine block_n ?_
        | refine block_r ?_
        | refine aw_ret ?_

/-! ### Rows merged -/
def mgV : List Rw → List Rw → List Rw
  | [], ys => ys
  | x :: xs, [] => x :: xs
  | x :: xs, y :: ys => cond (decide (cmpV x y ≤ 0)) (x :: mgV xs (y :: ys)) (y :: mgV (x :: xs) ys)
termination_by xs ys => xs.length + ys.length
theorem mg_nil (ys : List Rw) : mgV [] ys = ys := by rw [mgV]
theorem mg_nil2 (xs : List Rw) : mgV xs [] = xs := by cases xs <;> rw [mgV]
theorem mg_le {x y : Rw} {xs ys : List Rw} (h : decide (cmpV x y ≤ 0) = true) : mgV (x :: xs) (y :: ys) = x :: mgV xs (y :: ys) := by rw [mgV, h, cond_true]
theorem mg_gt {x y : Rw} {xs ys : List Rw} (h : decide (cmpV x y ≤ 0) = false) : mgV (x :: xs) (y :: ys) = y :: mgV (x :: xs) ys := by rw [mgV, h, cond_false]
theorem mg_len : ∀ (xs ys : List Rw), (mgV xs ys).length = xs.length + ys.length
  | [], ys => by rw [mg_nil]; simp
  | x :: xs, [] => by rw [mg_nil2]; simp
  | x :: xs, y :: ys => by
    cases h : decide (cmpV x y ≤ 0) with
    | true => rw [mg_le h, List.length_cons, mg_len xs (y :: ys)]; simp; omega
    | false => rw [mg_gt h, List.length_cons, mg_len (x :: xs) ys]; simp; omega
termination_by xs ys => xs.length + ys.length
theorem mgA1 {a b : List Rw} {i k : Nat} {x : Rw} (hx : a[i]? = some x) (hk : b.length ≤ k) : mgV (a.drop i) (b.drop k) = x :: mgV (a.drop (i + 1)) (b.drop k) := by
  rw [take_drop1 hx, List.drop_of_length_le hk, mg_nil2, mg_nil2]
theorem mgA2 {a b : List Rw} {i k : Nat} {x y : Rw} (hx : a[i]? = some x) (hy : b[k]? = some y) (h : decide (cmpV x y ≤ 0) = true) : mgV (a.drop i) (b.drop k) = x :: mgV (a.drop (i + 1)) (b.drop k) := by
  rw [take_drop1 hx, take_drop1 hy, mg_le h]
theorem mgB1 {a b : List Rw} {i k : Nat} {x y : Rw} (hx : a[i]? = some x) (hy : b[k]? = some y) (h : decide (cmpV x y ≤ 0) = false) : mgV (a.drop i) (b.drop k) = y :: mgV (a.drop i) (b.drop (k + 1)) := by
  rw [take_drop1 hx, take_drop1 hy, mg_gt h]
theorem mgB2 {a b : List Rw} {i k : Nat} {y : Rw} (hy : b[k]? = some y) (hi : a.length ≤ i) : mgV (a.drop i) (b.drop k) = y :: mgV (a.drop i) (b.drop (k + 1)) := by
  rw [take_drop1 hy, List.drop_of_length_le hi, mg_nil, mg_nil]
theorem c_smg (a b : List Rw) (h1 : a.length ≤ 100000000) (h2 : b.length ≤ 100000000) : Meets Go.Proofs.Try.prog 25 [rwL a, rwL b] [] (.sl 0 0 (mgV a b).length) [rwR (mgV a b)] false := by
  refine meets_of [4] Go.Proofs.Try.func25 rfl rfl ?_
  simp only [Go.Proofs.Try.ntmps25, List.length_cons, List.length_nil, Nat.reduceAdd, Nat.reduceSub, List.replicate_succ, List.replicate_zero, List.cons_append, List.nil_append]
  repeat' first
    | refine aw_seq ?_
    | refine aw_region ?_
    | refine aw_lex [] ?_
    | (refine isA ?_; refine do_F rfl ?_)
    | (refine isL ?_; refine lex_F rfl (by kernel_rfl) rfl rfl ?_)
    | (refine isLg rfl ?_; refine lex_S rfl (by kernel_rfl) rfl rfl ?_)
    | refine aops_nil ?_
    | refine lex_done _ rfl (by kernel_rfl) ?_
    | refine aw_ct rfl ?_
    | refine aw_cf rfl ?_
    | refine aw_block ?_
    | refine then_n ?_
    | refine aw_skip ?_
    | refine aw_exit ?_
    | refine then_x ?_
    | refine then_r ?_
    | refine block_x ?_
    | refine block_n ?_
    | refine block_r ?_
    | refine aw_ret ?_
  refine aw_loop (α := { p : Nat × Nat × List Rw // p.1 ≤ a.length ∧ p.2.1 ≤ b.length ∧ p.2.2.length = p.1 + p.2.1 ∧ p.2.2 ++ mgV (a.drop p.1) (b.drop p.2.1) = mgV a b }) (fun p => ⟨((rwL a) :: (rwL b) :: .any :: .any :: .any :: (.sl 0 0 p.1.2.2.length) :: (I p.1.1) :: (I p.1.2.1) :: .any :: .any :: .any :: .any :: .any :: .any :: .any :: .any :: .any :: .any :: .any :: .any :: .any :: .any :: .any :: .any :: .any :: .any :: .any :: .any :: .any :: .any :: .any :: .any :: .any :: .any :: .any :: .any :: .any :: .any :: .any :: .any :: .any :: .any :: .any :: .any :: .any :: .any :: .any :: .any :: .any :: .any :: .any :: .any :: .any :: .any :: .any :: .any :: .any :: .any :: .any :: .any :: []), [rwR p.1.2.2], 0⟩) (fun p => a.length + b.length - p.1.1 - p.1.2.1) ⟨(0, 0, []), Nat.zero_le _, Nat.zero_le _, rfl, rfl⟩ ?_ ?_
  · exact sub0 [0] rfl rfl (by decide) (.cons rfl rfl rfl rfl (les_refl (flat_noH _ _)) .nil) (by repeat' first | exact les_nil | refine les_cons ?_ ?_ | exact le_any | exact le_refl rfl | exact le_sl rfl rfl | exact le_ptr rfl)
  · rintro ⟨⟨i, k, out⟩, hi, hk, ho, hq⟩
    simp only at hi hk ho hq
    repeat' first
      | refine aw_seq ?_
      | refine aw_region ?_
      | refine aw_lex [] ?_
      | (refine isA ?_; refine do_F rfl ?_)
      | (refine isL ?_; refine lex_F rfl (by kernel_rfl) rfl rfl ?_)
      | (refine isLg rfl ?_; refine lex_S rfl (by kernel_rfl) rfl rfl ?_)
      | refine aops_nil ?_
      | refine lex_done _ rfl (by kernel_rfl) ?_
      | refine aw_ct rfl ?_
      | refine aw_cf rfl ?_
      | refine aw_block ?_
      | refine then_n ?_
      | refine aw_skip ?_
      | refine aw_exit ?_
      | refine then_x ?_
      | refine then_r ?_
      | refine block_x ?_
      | refine block_n ?_
      | refine block_r ?_
      | refine aw_ret ?_
    refine do_br rfl rfl (fun p1 => ?_) (fun p1 => ?_)
    · have q1 : i < a.length := by have := of_decide_eq_true p1; simp only at this; omega
      obtain ⟨x, hx⟩ : ∃ z, a[i]? = some z := ⟨_, List.getElem?_eq_getElem q1⟩
      repeat' first
        | refine aw_seq ?_
        | refine aw_region ?_
        | refine aw_lex [] ?_
        | (refine isA ?_; refine do_F rfl ?_)
        | (refine isL ?_; refine lex_F rfl (by kernel_rfl) rfl rfl ?_)
        | (refine isLg rfl ?_; refine lex_S rfl (by kernel_rfl) rfl rfl ?_)
        | refine aops_nil ?_
        | refine lex_done _ rfl (by kernel_rfl) ?_
        | refine aw_ct rfl ?_
        | refine aw_cf rfl ?_
        | refine aw_block ?_
        | refine then_n ?_
        | refine aw_skip ?_
        | refine aw_exit ?_
        | refine then_x ?_
        | refine then_r ?_
        | refine block_x ?_
        | refine block_n ?_
        | refine block_r ?_
        | refine aw_ret ?_
      refine lex_br rfl rfl rfl rfl (fun p2 => ?_) (fun p2 => ?_)
      · have q2 : b.length ≤ k := by have := of_decide_eq_true p2; simp only at this; omega
        repeat' first
          | refine aw_seq ?_
          | refine aw_region ?_
          | refine aw_lex [] ?_
          | (refine isA ?_; refine do_F rfl ?_)
          | (refine isL ?_; refine lex_F rfl (by kernel_rfl) rfl rfl ?_)
          | (refine isLg rfl ?_; refine lex_S rfl (by kernel_rfl) rfl rfl ?_)
          | (refine isAi (x := .tmp 42) ?_; refine do_R rfl (ia_l (t := rwT) (z := x) rfl rfl rfl rfl (Int.natCast_nonneg i) hx) rfl ?_)
          | (refine isLi (x := .tmp 42) rfl ?_; refine lex_R rfl (by kernel_rfl) rfl (ia_l (t := rwT) (z := x) rfl rfl rfl rfl (Int.natCast_nonneg i) hx) rfl ?_)
          | (refine isAp ?_; refine do_R rfl (ap_l (t := rwT) (xs := out) (ys := [x]) rfl rfl rfl rfl (src_of rfl rfl rfl rfl) (by simp; omega) rfl) rfl ?_)
          | (refine isLp rfl ?_; refine lex_R rfl (by kernel_rfl) rfl (ap_l (t := rwT) (xs := out) (ys := [x]) rfl rfl rfl rfl (src_of rfl rfl rfl rfl) (by simp; omega) rfl) rfl ?_)
          | refine aops_nil ?_
          | refine lex_done _ rfl (by kernel_rfl) ?_
          | refine aw_ct rfl ?_
          | refine aw_cf rfl ?_
          | refine aw_block ?_
          | refine then_n ?_
          | refine aw_skip ?_
          | refine aw_exit ?_
          | refine then_x ?_
          | refine then_r ?_
          | refine block_x ?_
          | refine block_n ?_
          | refine block_r ?_
          | refine aw_ret ?_
        refine ⟨⟨(i + 1, k, out ++ [x]), by simp only; omega, by simp only; omega, by simp only [List.length_append, List.length_singleton]; omega, by simp only [List.append_assoc, List.singleton_append]; rw [← hq, mgA1 hx q2]⟩, by simp only; omega, ?_⟩
        exact sub0 [2] rfl rfl (by decide) (.cons rfl rfl rfl rfl (les_refl (flat_noH _ _)) .nil) (by
            repeat' first
              | exact les_nil
              | refine les_cons ?_ ?_
              | exact le_any
              | exact le_refl rfl
              | exact le_sl rfl rfl
              | exact le_sl rfl (by simp)
              | exact le_i (n := a.length) (by omega) (by omega)
              | exact le_i (n := b.length) (by omega) (by omega))
      · have q2 : k < b.length := by have := of_decide_eq_false p2; simp only at this; omega
        obtain ⟨y, hy⟩ : ∃ z, b[k]? = some z := ⟨_, List.getElem?_eq_getElem q2⟩
        repeat' first
          | refine aw_seq ?_
          | refine aw_region ?_
          | refine aw_lex [] ?_
          | (refine isA ?_; refine do_F rfl ?_)
          | (refine isL ?_; refine lex_F rfl (by kernel_rfl) rfl rfl ?_)
          | (refine isLg rfl ?_; refine lex_S rfl (by kernel_rfl) rfl rfl ?_)
          | refine aops_nil ?_
          | refine lex_done _ rfl (by kernel_rfl) ?_
          | refine aw_ct rfl ?_
          | refine aw_cf rfl ?_
          | refine aw_block ?_
          | refine then_n ?_
          | refine aw_skip ?_
          | refine aw_exit ?_
          | refine then_x ?_
          | refine then_r ?_
          | refine block_x ?_
          | refine block_n ?_
          | refine block_r ?_
          | refine aw_ret ?_
        refine lex_br rfl rfl rfl rfl (fun _ => ?_) (fun k => absurd (of_decide_eq_false k) (by simp only; omega))
        repeat' first
          | refine aw_seq ?_
          | refine aw_region ?_
          | refine aw_lex [] ?_
          | (refine isA ?_; refine do_F rfl ?_)
          | (refine isL ?_; refine lex_F rfl (by kernel_rfl) rfl rfl ?_)
          | (refine isLg rfl ?_; refine lex_S rfl (by kernel_rfl) rfl rfl ?_)
          | (refine isAi (x := .tmp 29) ?_; refine do_R rfl (ia_l (t := rwT) (z := x) rfl rfl rfl rfl (Int.natCast_nonneg i) hx) rfl ?_)
          | (refine isLi (x := .tmp 29) rfl ?_; refine lex_R rfl (by kernel_rfl) rfl (ia_l (t := rwT) (z := x) rfl rfl rfl rfl (Int.natCast_nonneg i) hx) rfl ?_)
          | (refine isAi (x := .tmp 33) ?_; refine do_R rfl (ia_l (t := rwT) (z := y) rfl rfl rfl rfl (Int.natCast_nonneg k) hy) rfl ?_)
          | (refine isLi (x := .tmp 33) rfl ?_; refine lex_R rfl (by kernel_rfl) rfl (ia_l (t := rwT) (z := y) rfl rfl rfl rfl (Int.natCast_nonneg k) hy) rfl ?_)
          | (refine isAc 73 ?_; refine do_R rfl (st_call rfl (c_scmp x y) (.cons (.same rfl) (.cons (.same rfl) .nil)) rfl) rfl ?_)
          | (refine isLc 73 rfl ?_; refine lex_R rfl (by kernel_rfl) rfl (st_call rfl (c_scmp x y) (.cons (.same rfl) (.cons (.same rfl) .nil)) rfl) rfl ?_)
          | refine aops_nil ?_
          | refine lex_done _ rfl (by kernel_rfl) ?_
          | refine aw_ct rfl ?_
          | refine aw_cf rfl ?_
          | refine aw_block ?_
          | refine then_n ?_
          | refine aw_skip ?_
          | refine aw_exit ?_
          | refine then_x ?_
          | refine then_r ?_
          | refine block_x ?_
          | refine block_n ?_
          | refine block_r ?_
          | refine aw_ret ?_
        refine aw_cond rfl (fun p3 => ?_) (fun p3 => ?_)
        · skip
          repeat' first
            | refine aw_seq ?_
            | refine aw_region ?_
            | refine aw_lex [] ?_
            | (refine isA ?_; refine do_F rfl ?_)
            | (refine isL ?_; refine lex_F rfl (by kernel_rfl) rfl rfl ?_)
            | (refine isLg rfl ?_; refine lex_S rfl (by kernel_rfl) rfl rfl ?_)
            | (refine isAi (x := .tmp 42) ?_; refine do_R rfl (ia_l (t := rwT) (z := x) rfl rfl rfl rfl (Int.natCast_nonneg i) hx) rfl ?_)
            | (refine isLi (x := .tmp 42) rfl ?_; refine lex_R rfl (by kernel_rfl) rfl (ia_l (t := rwT) (z := x) rfl rfl rfl rfl (Int.natCast_nonneg i) hx) rfl ?_)
            | (refine isAp ?_; refine do_R rfl (ap_l (t := rwT) (xs := out) (ys := [x]) rfl rfl rfl rfl (src_of rfl rfl rfl rfl) (by simp; omega) rfl) rfl ?_)
            | (refine isLp rfl ?_; refine lex_R rfl (by kernel_rfl) rfl (ap_l (t := rwT) (xs := out) (ys := [x]) rfl rfl rfl rfl (src_of rfl rfl rfl rfl) (by simp; omega) rfl) rfl ?_)
            | refine aops_nil ?_
            | refine lex_done _ rfl (by kernel_rfl) ?_
            | refine aw_ct rfl ?_
            | refine aw_cf rfl ?_
            | refine aw_block ?_
            | refine then_n ?_
            | refine aw_skip ?_
            | refine aw_exit ?_
            | refine then_x ?_
            | refine then_r ?_
            | refine block_x ?_
            | refine block_n ?_
            | refine block_r ?_
            | refine aw_ret ?_
          refine ⟨⟨(i + 1, k, out ++ [x]), by simp only; omega, by simp only; omega, by simp only [List.length_append, List.length_singleton]; omega, by simp only [List.append_assoc, List.singleton_append]; rw [← hq, mgA2 hx hy p3]⟩, by simp only; omega, ?_⟩
          exact sub0 [2] rfl rfl (by decide) (.cons rfl rfl rfl rfl (les_refl (flat_noH _ _)) .nil) (by
              repeat' first
                | exact les_nil
                | refine les_cons ?_ ?_
                | exact le_any
                | exact le_refl rfl
                | exact le_sl rfl rfl
                | exact le_sl rfl (by simp)
                | exact le_i (n := a.length) (by omega) (by omega)
                | exact le_i (n := b.length) (by omega) (by omega))
        · skip
          repeat' first
            | refine aw_seq ?_
            | refine aw_region ?_
            | refine aw_lex [] ?_
            | (refine isA ?_; refine do_F rfl ?_)
            | (refine isL ?_; refine lex_F rfl (by kernel_rfl) rfl rfl ?_)
            | (refine isLg rfl ?_; refine lex_S rfl (by kernel_rfl) rfl rfl ?_)
            | (refine isAi (x := .tmp 51) ?_; refine do_R rfl (ia_l (t := rwT) (z := y) rfl rfl rfl rfl (Int.natCast_nonneg k) hy) rfl ?_)
            | (refine isLi (x := .tmp 51) rfl ?_; refine lex_R rfl (by kernel_rfl) rfl (ia_l (t := rwT) (z := y) rfl rfl rfl rfl (Int.natCast_nonneg k) hy) rfl ?_)
            | (refine isAp ?_; refine do_R rfl (ap_l (t := rwT) (xs := out) (ys := [y]) rfl rfl rfl rfl (src_of rfl rfl rfl rfl) (by simp; omega) rfl) rfl ?_)
            | (refine isLp rfl ?_; refine lex_R rfl (by kernel_rfl) rfl (ap_l (t := rwT) (xs := out) (ys := [y]) rfl rfl rfl rfl (src_of rfl rfl rfl rfl) (by simp; omega) rfl) rfl ?_)
            | refine aops_nil ?_
            | refine lex_done _ rfl (by kernel_rfl) ?_
            | refine aw_ct rfl ?_
            | refine aw_cf rfl ?_
            | refine aw_block ?_
            | refine then_n ?_
            | refine aw_skip ?_
            | refine aw_exit ?_
            | refine then_x ?_
            | refine then_r ?_
            | refine block_x ?_
            | refine block_n ?_
            | refine block_r ?_
            | refine aw_ret ?_
          refine ⟨⟨(i, k + 1, out ++ [y]), by simp only; omega, by simp only; omega, by simp only [List.length_append, List.length_singleton]; omega, by simp only [List.append_assoc, List.singleton_append]; rw [← hq, mgB1 hx hy p3]⟩, by simp only; omega, ?_⟩
          exact sub0 [2] rfl rfl (by decide) (.cons rfl rfl rfl rfl (les_refl (flat_noH _ _)) .nil) (by
              repeat' first
                | exact les_nil
                | refine les_cons ?_ ?_
                | exact le_any
                | exact le_refl rfl
                | exact le_sl rfl rfl
                | exact le_sl rfl (by simp)
                | exact le_i (n := a.length) (by omega) (by omega)
                | exact le_i (n := b.length) (by omega) (by omega))
    · have q1 : a.length ≤ i := by have := of_decide_eq_false p1; simp only at this; omega
      repeat' first
        | refine aw_seq ?_
        | refine aw_region ?_
        | refine aw_lex [] ?_
        | (refine isA ?_; refine do_F rfl ?_)
        | (refine isL ?_; refine lex_F rfl (by kernel_rfl) rfl rfl ?_)
        | (refine isLg rfl ?_; refine lex_S rfl (by kernel_rfl) rfl rfl ?_)
        | refine aops_nil ?_
        | refine lex_done _ rfl (by kernel_rfl) ?_
        | refine aw_ct rfl ?_
        | refine aw_cf rfl ?_
        | refine aw_block ?_
        | refine then_n ?_
        | refine aw_skip ?_
        | refine aw_exit ?_
        | refine then_x ?_
        | refine then_r ?_
        | refine block_x ?_
        | refine block_n ?_
        | refine block_r ?_
        | refine aw_ret ?_
      refine aw_cond rfl (fun p2 => ?_) (fun p2 => ?_)
      · have q2 : k < b.length := by have := of_decide_eq_true p2; simp only at this; omega
        obtain ⟨y, hy⟩ : ∃ z, b[k]? = some z := ⟨_, List.getElem?_eq_getElem q2⟩
        repeat' first
          | refine aw_seq ?_
          | refine aw_region ?_
          | refine aw_lex [] ?_
          | (refine isA ?_; refine do_F rfl ?_)
          | (refine isL ?_; refine lex_F rfl (by kernel_rfl) rfl rfl ?_)
          | (refine isLg rfl ?_; refine lex_S rfl (by kernel_rfl) rfl rfl ?_)
          | refine aops_nil ?_
          | refine lex_done _ rfl (by kernel_rfl) ?_
          | refine aw_ct rfl ?_
          | refine aw_cf rfl ?_
          | refine aw_block ?_
          | refine then_n ?_
          | refine aw_skip ?_
          | refine aw_exit ?_
          | refine then_x ?_
          | refine then_r ?_
          | refine block_x ?_
          | refine block_n ?_
          | refine block_r ?_
          | refine aw_ret ?_
        refine lex_br rfl rfl rfl rfl (fun k => absurd (of_decide_eq_true k) (by simp only; omega)) (fun _ => ?_)
        repeat' first
          | refine aw_seq ?_
          | refine aw_region ?_
          | refine aw_lex [] ?_
          | (refine isA ?_; refine do_F rfl ?_)
          | (refine isL ?_; refine lex_F rfl (by kernel_rfl) rfl rfl ?_)
          | (refine isLg rfl ?_; refine lex_S rfl (by kernel_rfl) rfl rfl ?_)
          | refine aops_nil ?_
          | refine lex_done _ rfl (by kernel_rfl) ?_
          | refine aw_ct rfl ?_
          | refine aw_cf rfl ?_
          | refine aw_block ?_
          | refine then_n ?_
          | refine aw_skip ?_
          | refine aw_exit ?_
          | refine then_x ?_
          | refine then_r ?_
          | refine block_x ?_
          | refine block_n ?_
          | refine block_r ?_
          | refine aw_ret ?_
        refine lex_br rfl rfl rfl rfl (fun k => absurd (of_decide_eq_true k) (by simp only; omega)) (fun _ => ?_)
        repeat' first
          | refine aw_seq ?_
          | refine aw_region ?_
          | refine aw_lex [] ?_
          | (refine isA ?_; refine do_F rfl ?_)
          | (refine isL ?_; refine lex_F rfl (by kernel_rfl) rfl rfl ?_)
          | (refine isLg rfl ?_; refine lex_S rfl (by kernel_rfl) rfl rfl ?_)
          | (refine isAi (x := .tmp 51) ?_; refine do_R rfl (ia_l (t := rwT) (z := y) rfl rfl rfl rfl (Int.natCast_nonneg k) hy) rfl ?_)
          | (refine isLi (x := .tmp 51) rfl ?_; refine lex_R rfl (by kernel_rfl) rfl (ia_l (t := rwT) (z := y) rfl rfl rfl rfl (Int.natCast_nonneg k) hy) rfl ?_)
          | (refine isAp ?_; refine do_R rfl (ap_l (t := rwT) (xs := out) (ys := [y]) rfl rfl rfl rfl (src_of rfl rfl rfl rfl) (by simp; omega) rfl) rfl ?_)
          | (refine isLp rfl ?_; refine lex_R rfl (by kernel_rfl) rfl (ap_l (t := rwT) (xs := out) (ys := [y]) rfl rfl rfl rfl (src_of rfl rfl rfl rfl) (by simp; omega) rfl) rfl ?_)
          | refine aops_nil ?_
          | refine lex_done _ rfl (by kernel_rfl) ?_
          | refine aw_ct rfl ?_
          | refine aw_cf rfl ?_
          | refine aw_block ?_
          | refine then_n ?_
          | refine aw_skip ?_
          | refine aw_exit ?_
          | refine then_x ?_
          | refine then_r ?_
          | refine block_x ?_
          | refine block_n ?_
          | refine block_r ?_
          | refine aw_ret ?_
        refine ⟨⟨(i, k + 1, out ++ [y]), by simp only; omega, by simp only; omega, by simp only [List.length_append, List.length_singleton]; omega, by simp only [List.append_assoc, List.singleton_append]; rw [← hq, mgB2 hy q1]⟩, by simp only; omega, ?_⟩
        exact sub0 [2] rfl rfl (by decide) (.cons rfl rfl rfl rfl (les_refl (flat_noH _ _)) .nil) (by
            repeat' first
              | exact les_nil
              | refine les_cons ?_ ?_
              | exact le_any
              | exact le_refl rfl
              | exact le_sl rfl rfl
              | exact le_sl rfl (by simp)
              | exact le_i (n := a.length) (by omega) (by omega)
              | exact le_i (n := b.length) (by omega) (by omega))
      · have q2 : b.length ≤ k := by have := of_decide_eq_false p2; simp only at this; omega
        rw [List.drop_of_length_le q1, List.drop_of_length_le q2, mg_nil, List.append_nil] at hq
        subst hq
        repeat' first
          | refine aw_seq ?_
          | refine aw_region ?_
          | refine aw_lex [] ?_
          | (refine isA ?_; refine do_F rfl ?_)
          | (refine isL ?_; refine lex_F rfl (by kernel_rfl) rfl rfl ?_)
          | (refine isLg rfl ?_; refine lex_S rfl (by kernel_rfl) rfl rfl ?_)
          | exact finL (ty := rwT) rfl rfl rfl rfl rfl rfl (flat_rw _)
          | refine aops_nil ?_
          | refine lex_done _ rfl (by kernel_rfl) ?_
          | refine aw_ct rfl ?_
          | refine aw_cf rfl ?_
          | refine aw_block ?_
          | refine then_n ?_
          | refine aw_skip ?_
          | refine aw_exit ?_
          | refine then_x ?_
          | refine then_r ?_
          | refine block_x ?_
          | refine block_n ?_
          | refine block_r ?_
          | refine aw_ret ?_
theorem take_l (xs : List Rw) (k : Nat) : ((rwT.flat xs).drop (0 * 3)).take ((k - 0) * 3) = rwT.flat (xs.take k) := by
  rw [Nat.zero_mul, List.drop_zero, Nat.sub_zero, show k * 3 = k * rwT.n from rfl, flat_take]
theorem drop_l (xs : List Rw) (k : Nat) : ((rwT.flat xs).drop (k * 3)).take ((xs.length - k) * 3) = rwT.flat (xs.drop k) := by
  rw [show k * 3 = k * rwT.n from rfl, flat_drop, show (xs.length - k) * 3 = (xs.length - k) * rwT.n from rfl, flat_take, List.take_of_length_le (by simp)]
theorem st_takeL {o : Oper} {ρ : Operand → V} {H : List Reg} {x y : Operand} {xs : List Rw} {k : Nat} {kk : IntKind} (ho : o.op = .slice 25 x none (some y) none) (hx : ρ x = rwL xs) (hy : ρ y = .k (.int kk k)) (hk : k ≤ xs.length) : Step Go.Proofs.Try.prog o ρ H (rwL (xs.take k)) H := by
  have := step_slice_lst (P := Go.Proofs.Try.prog) (o := o) (ρ := ρ) (H := H) (l := 0) (h := k) ho hx (.no 0) (.yes _ hy) (flat_length rwT xs) (by omega) (by omega) (by omega)
  rw [Int.toNat_natCast, show Int.toNat 0 = 0 from rfl] at this
  rw [show rwL (xs.take k) = .lst (k - 0) (((rwT.flat xs).drop (0 * 3)).take ((k - 0) * 3)) by rw [take_l]; simp [lstOf]; omega]
  exact this
theorem st_dropL {o : Oper} {ρ : Operand → V} {H : List Reg} {x y : Operand} {xs : List Rw} {k : Nat} {j : Int} {kk : IntKind} (ho : o.op = .slice 25 x (some y) none none) (hx : ρ x = rwL xs) (hy : ρ y = .k (.int kk j)) (hj : j = (k : Int)) (hk : k ≤ xs.length) : Step Go.Proofs.Try.prog o ρ H (rwL (xs.drop k)) H := by
  subst hj
  have := step_slice_lst (P := Go.Proofs.Try.prog) (o := o) (ρ := ρ) (H := H) (l := k) (h := xs.length) ho hx (.yes _ hy) (.no _) (flat_length rwT xs) (by omega) (by omega) (by omega)
  rw [Int.toNat_natCast, Int.toNat_natCast] at this
  rw [show rwL (xs.drop k) = .lst (xs.length - k) (((rwT.flat xs).drop (k * 3)).take ((xs.length - k) * 3)) by rw [drop_l]; simp [lstOf]]
  exact this

theorem src_of2 {K : List Reg} {h : Nat} {e : TypeId} {c : List V} {xs : List Rw} (hr : K[h]? = some ⟨e, 3, c, 0⟩) (hc : c = rwT.flat xs) : Src K (.sl h 0 xs.length) xs.length (rwT.flat xs) := by
  subst hc
  have := Src.sl (H := K) (h := h) (off := 0) (m := xs.length) (r := ⟨e, 3, rwT.flat xs, 0⟩) hr (Nat.zero_le _) (by show (0 + xs.length) * 3 ≤ _; rw [flat_length]; show _ ≤ xs.length * 3; omega)
  have e2 : ((rwT.flat xs).drop (0 * 3)).take (xs.length * 3) = rwT.flat xs := by rw [Nat.zero_mul, List.drop_zero, List.take_of_length_le]; rw [flat_length]; exact Nat.le_refl _
  rw [show (((⟨e, 3, rwT.flat xs, 0⟩ : Reg).cells.drop (0 * (⟨e, 3, rwT.flat xs, 0⟩ : Reg).esz)).take (xs.length * (⟨e, 3, rwT.flat xs, 0⟩ : Reg).esz)) = rwT.flat xs from e2] at this
  exact this
theorem c_img (a b : List Rw) (h1 : a.length ≤ 100000000) (h2 : b.length ≤ 100000000) : Meets Go.Proofs.Try.prog 26 [rwL a, rwL b] [] (.sl 0 0 (mgV a b).length) [rwR (mgV a b)] false := by
  refine meets_of [4] Go.Proofs.Try.func26 rfl rfl ?_
  simp only [Go.Proofs.Try.ntmps26, List.length_cons, List.length_nil, Nat.reduceAdd, Nat.reduceSub, List.replicate_succ, List.replicate_zero, List.cons_append, List.nil_append]
  repeat' first
    | refine aw_seq ?_
    | refine aw_region ?_
    | refine aw_lex [] ?_
    | (refine isA ?_; refine do_F rfl ?_)
    | (refine isL ?_; refine lex_F rfl (by kernel_rfl) rfl rfl ?_)
    | (refine isLg rfl ?_; refine lex_S rfl (by kernel_rfl) rfl rfl ?_)
    | refine aops_nil ?_
    | refine lex_done _ rfl (by kernel_rfl) ?_
    | refine aw_ct rfl ?_
    | refine aw_cf rfl ?_
    | refine aw_block ?_
    | refine then_n ?_
    | refine aw_skip ?_
    | refine aw_exit ?_
    | refine then_x ?_
    | refine then_r ?_
    | refine block_x ?_
    | refine block_n ?_
    | refine block_r ?_
    | refine aw_ret ?_
  refine aw_loop (α := { p : List Rw × List Rw × List Rw // p.2.2.length + p.1.length + p.2.1.length = a.length + b.length ∧ p.2.2 ++ mgV p.1 p.2.1 = mgV a b }) (fun p => ⟨[rwL p.1.1, rwL p.1.2.1, .any, .any, .any, .sl 0 0 p.1.2.2.length, .any, .any, .any, .any, .any, .any, .any, .any, .any, .any, .any, .any, .any, .any, .any, .any, .any, .any, .any, .any, .any, .any, .any, .any, .any, .any, .any, .any, .any, .any, .any, .any, .any, .any, .any, .any, .any, .any, .any, .any, .any, .any, .any, .any], [rwR p.1.2.2], 0⟩) (fun p => p.1.1.length + p.1.2.1.length) ⟨(a, b, []), by simp, rfl⟩ ?_ ?_
  · exact sub0 [0] rfl rfl (by decide) (.cons rfl rfl rfl rfl (les_refl (flat_noH _ _)) .nil) (by repeat' first | exact les_nil | refine les_cons ?_ ?_ | exact le_any | exact le_refl rfl | exact le_sl rfl rfl | exact le_ptr rfl)
  · rintro ⟨⟨c, d, out⟩, ho, hq⟩
    simp only at ho hq
    repeat' first
      | refine aw_seq ?_
      | refine aw_region ?_
      | refine aw_lex [] ?_
      | (refine isA ?_; refine do_F rfl ?_)
      | (refine isL ?_; refine lex_F rfl (by kernel_rfl) rfl rfl ?_)
      | (refine isLg rfl ?_; refine lex_S rfl (by kernel_rfl) rfl rfl ?_)
      | refine aops_nil ?_
      | refine lex_done _ rfl (by kernel_rfl) ?_
      | refine aw_ct rfl ?_
      | refine aw_cf rfl ?_
      | refine aw_block ?_
      | refine then_n ?_
      | refine aw_skip ?_
      | refine aw_exit ?_
      | refine then_x ?_
      | refine then_r ?_
      | refine block_x ?_
      | refine block_n ?_
      | refine block_r ?_
      | refine aw_ret ?_
    refine do_br rfl rfl (fun p1 => ?_) (fun p1 => ?_)
    · have q1 : 1 ≤ c.length := by have := of_decide_eq_true p1; simp only at this; omega
      obtain ⟨x, hx⟩ : ∃ z, c[0]? = some z := ⟨_, List.getElem?_eq_getElem q1⟩
      repeat' first
        | refine aw_seq ?_
        | refine aw_region ?_
        | refine aw_lex [] ?_
        | (refine isA ?_; refine do_F rfl ?_)
        | (refine isL ?_; refine lex_F rfl (by kernel_rfl) rfl rfl ?_)
        | (refine isLg rfl ?_; refine lex_S rfl (by kernel_rfl) rfl rfl ?_)
        | refine aops_nil ?_
        | refine lex_done _ rfl (by kernel_rfl) ?_
        | refine aw_ct rfl ?_
        | refine aw_cf rfl ?_
        | refine aw_block ?_
        | refine then_n ?_
        | refine aw_skip ?_
        | refine aw_exit ?_
        | refine then_x ?_
        | refine then_r ?_
        | refine block_x ?_
        | refine block_n ?_
        | refine block_r ?_
        | refine aw_ret ?_
      refine lex_br rfl rfl rfl rfl (fun p2 => ?_) (fun p2 => ?_)
      · have q2 : d.length ≤ 0 := by have := of_decide_eq_true p2; simp only at this; omega
        have e : mgV c d = x :: mgV (c.drop 1) d := mgA1 (i := 0) (k := 0) hx q2
        repeat' first
          | refine aw_seq ?_
          | refine aw_region ?_
          | refine aw_lex [] ?_
          | (refine isA ?_; refine do_F rfl ?_)
          | (refine isL ?_; refine lex_F rfl (by kernel_rfl) rfl rfl ?_)
          | (refine isLg rfl ?_; refine lex_S rfl (by kernel_rfl) rfl rfl ?_)
          | (refine isAi (x := .tmp 34) ?_; refine do_R rfl (ia_l (t := rwT) (z := x) rfl rfl rfl rfl (Int.le_refl 0) hx) rfl ?_)
          | (refine isLi (x := .tmp 34) rfl ?_; refine lex_R rfl (by kernel_rfl) rfl (ia_l (t := rwT) (z := x) rfl rfl rfl rfl (Int.le_refl 0) hx) rfl ?_)
          | (refine isAp ?_; refine do_R rfl (ap_l (t := rwT) (xs := out) (ys := [x]) rfl rfl rfl rfl (src_of rfl rfl rfl rfl) (by simp; omega) rfl) rfl ?_)
          | (refine isLp rfl ?_; refine lex_R rfl (by kernel_rfl) rfl (ap_l (t := rwT) (xs := out) (ys := [x]) rfl rfl rfl rfl (src_of rfl rfl rfl rfl) (by simp; omega) rfl) rfl ?_)
          | (refine isAx ?_; refine do_R rfl (st_dropL (k := 1) rfl rfl rfl rfl q1) rfl ?_)
          | (refine isLx rfl ?_; refine lex_R rfl (by kernel_rfl) rfl (st_dropL (k := 1) rfl rfl rfl rfl q1) rfl ?_)
          | refine aops_nil ?_
          | refine lex_done _ rfl (by kernel_rfl) ?_
          | refine aw_ct rfl ?_
          | refine aw_cf rfl ?_
          | refine aw_block ?_
          | refine then_n ?_
          | refine aw_skip ?_
          | refine aw_exit ?_
          | refine then_x ?_
          | refine then_r ?_
          | refine block_x ?_
          | refine block_n ?_
          | refine block_r ?_
          | refine aw_ret ?_
        refine ⟨⟨(c.drop 1, d, out ++ [x]), by simp only [List.length_append, List.length_singleton, List.length_drop]; omega, by simp only [List.append_assoc, List.singleton_append]; rw [← hq, e]⟩, by simp only [List.length_drop]; omega, ?_⟩
        exact sub0 [2] rfl rfl (by decide) (.cons rfl rfl rfl rfl (les_refl (flat_noH _ _)) .nil) (by
            repeat' first
              | exact les_nil
              | refine les_cons ?_ ?_
              | exact le_any
              | exact le_refl rfl
              | exact le_sl rfl rfl
              | exact le_sl rfl (by simp))
      · have q2 : 1 ≤ d.length := by have := of_decide_eq_false p2; simp only at this; omega
        obtain ⟨y, hy⟩ : ∃ z, d[0]? = some z := ⟨_, List.getElem?_eq_getElem q2⟩
        repeat' first
          | refine aw_seq ?_
          | refine aw_region ?_
          | refine aw_lex [] ?_
          | (refine isA ?_; refine do_F rfl ?_)
          | (refine isL ?_; refine lex_F rfl (by kernel_rfl) rfl rfl ?_)
          | (refine isLg rfl ?_; refine lex_S rfl (by kernel_rfl) rfl rfl ?_)
          | refine aops_nil ?_
          | refine lex_done _ rfl (by kernel_rfl) ?_
          | refine aw_ct rfl ?_
          | refine aw_cf rfl ?_
          | refine aw_block ?_
          | refine then_n ?_
          | refine aw_skip ?_
          | refine aw_exit ?_
          | refine then_x ?_
          | refine then_r ?_
          | refine block_x ?_
          | refine block_n ?_
          | refine block_r ?_
          | refine aw_ret ?_
        refine lex_br rfl rfl rfl rfl (fun _ => ?_) (fun k => absurd (of_decide_eq_false k) (by simp only; omega))
        repeat' first
          | refine aw_seq ?_
          | refine aw_region ?_
          | refine aw_lex [] ?_
          | (refine isA ?_; refine do_F rfl ?_)
          | (refine isL ?_; refine lex_F rfl (by kernel_rfl) rfl rfl ?_)
          | (refine isLg rfl ?_; refine lex_S rfl (by kernel_rfl) rfl rfl ?_)
          | (refine isAi (x := .tmp 23) ?_; refine do_R rfl (ia_l (t := rwT) (z := x) rfl rfl rfl rfl (Int.le_refl 0) hx) rfl ?_)
          | (refine isLi (x := .tmp 23) rfl ?_; refine lex_R rfl (by kernel_rfl) rfl (ia_l (t := rwT) (z := x) rfl rfl rfl rfl (Int.le_refl 0) hx) rfl ?_)
          | (refine isAi (x := .tmp 26) ?_; refine do_R rfl (ia_l (t := rwT) (z := y) rfl rfl rfl rfl (Int.le_refl 0) hy) rfl ?_)
          | (refine isLi (x := .tmp 26) rfl ?_; refine lex_R rfl (by kernel_rfl) rfl (ia_l (t := rwT) (z := y) rfl rfl rfl rfl (Int.le_refl 0) hy) rfl ?_)
          | (refine isAc 74 ?_; refine do_R rfl (st_call rfl (c_icmp x y) (.cons (.same rfl) (.cons (.same rfl) .nil)) rfl) rfl ?_)
          | (refine isLc 74 rfl ?_; refine lex_R rfl (by kernel_rfl) rfl (st_call rfl (c_icmp x y) (.cons (.same rfl) (.cons (.same rfl) .nil)) rfl) rfl ?_)
          | refine aops_nil ?_
          | refine lex_done _ rfl (by kernel_rfl) ?_
          | refine aw_ct rfl ?_
          | refine aw_cf rfl ?_
          | refine aw_block ?_
          | refine then_n ?_
          | refine aw_skip ?_
          | refine aw_exit ?_
          | refine then_x ?_
          | refine then_r ?_
          | refine block_x ?_
          | refine block_n ?_
          | refine block_r ?_
          | refine aw_ret ?_
        refine aw_cond rfl (fun p3 => ?_) (fun p3 => ?_)
        · skip
          have e : mgV c d = x :: mgV (c.drop 1) d := mgA2 (i := 0) (k := 0) hx hy p3
          repeat' first
            | refine aw_seq ?_
            | refine aw_region ?_
            | refine aw_lex [] ?_
            | (refine isA ?_; refine do_F rfl ?_)
            | (refine isL ?_; refine lex_F rfl (by kernel_rfl) rfl rfl ?_)
            | (refine isLg rfl ?_; refine lex_S rfl (by kernel_rfl) rfl rfl ?_)
            | (refine isAi (x := .tmp 34) ?_; refine do_R rfl (ia_l (t := rwT) (z := x) rfl rfl rfl rfl (Int.le_refl 0) hx) rfl ?_)
            | (refine isLi (x := .tmp 34) rfl ?_; refine lex_R rfl (by kernel_rfl) rfl (ia_l (t := rwT) (z := x) rfl rfl rfl rfl (Int.le_refl 0) hx) rfl ?_)
            | (refine isAp ?_; refine do_R rfl (ap_l (t := rwT) (xs := out) (ys := [x]) rfl rfl rfl rfl (src_of rfl rfl rfl rfl) (by simp; omega) rfl) rfl ?_)
            | (refine isLp rfl ?_; refine lex_R rfl (by kernel_rfl) rfl (ap_l (t := rwT) (xs := out) (ys := [x]) rfl rfl rfl rfl (src_of rfl rfl rfl rfl) (by simp; omega) rfl) rfl ?_)
            | (refine isAx ?_; refine do_R rfl (st_dropL (k := 1) rfl rfl rfl rfl q1) rfl ?_)
            | (refine isLx rfl ?_; refine lex_R rfl (by kernel_rfl) rfl (st_dropL (k := 1) rfl rfl rfl rfl q1) rfl ?_)
            | refine aops_nil ?_
            | refine lex_done _ rfl (by kernel_rfl) ?_
            | refine aw_ct rfl ?_
            | refine aw_cf rfl ?_
            | refine aw_block ?_
            | refine then_n ?_
            | refine aw_skip ?_
            | refine aw_exit ?_
            | refine then_x ?_
            | refine then_r ?_
            | refine block_x ?_
            | refine block_n ?_
            | refine block_r ?_
            | refine aw_ret ?_
          refine ⟨⟨(c.drop 1, d, out ++ [x]), by simp only [List.length_append, List.length_singleton, List.length_drop]; omega, by simp only [List.append_assoc, List.singleton_append]; rw [← hq, e]⟩, by simp only [List.length_drop]; omega, ?_⟩
          exact sub0 [2] rfl rfl (by decide) (.cons rfl rfl rfl rfl (les_refl (flat_noH _ _)) .nil) (by
              repeat' first
                | exact les_nil
                | refine les_cons ?_ ?_
                | exact le_any
                | exact le_refl rfl
                | exact le_sl rfl rfl
                | exact le_sl rfl (by simp))
        · skip
          have e : mgV c d = y :: mgV c (d.drop 1) := mgB1 (i := 0) (k := 0) hx hy p3
          repeat' first
            | refine aw_seq ?_
            | refine aw_region ?_
            | refine aw_lex [] ?_
            | (refine isA ?_; refine do_F rfl ?_)
            | (refine isL ?_; refine lex_F rfl (by kernel_rfl) rfl rfl ?_)
            | (refine isLg rfl ?_; refine lex_S rfl (by kernel_rfl) rfl rfl ?_)
            | (refine isAi (x := .tmp 42) ?_; refine do_R rfl (ia_l (t := rwT) (z := y) rfl rfl rfl rfl (Int.le_refl 0) hy) rfl ?_)
            | (refine isLi (x := .tmp 42) rfl ?_; refine lex_R rfl (by kernel_rfl) rfl (ia_l (t := rwT) (z := y) rfl rfl rfl rfl (Int.le_refl 0) hy) rfl ?_)
            | (refine isAp ?_; refine do_R rfl (ap_l (t := rwT) (xs := out) (ys := [y]) rfl rfl rfl rfl (src_of rfl rfl rfl rfl) (by simp; omega) rfl) rfl ?_)
            | (refine isLp rfl ?_; refine lex_R rfl (by kernel_rfl) rfl (ap_l (t := rwT) (xs := out) (ys := [y]) rfl rfl rfl rfl (src_of rfl rfl rfl rfl) (by simp; omega) rfl) rfl ?_)
            | (refine isAx ?_; refine do_R rfl (st_dropL (k := 1) rfl rfl rfl rfl q2) rfl ?_)
            | (refine isLx rfl ?_; refine lex_R rfl (by kernel_rfl) rfl (st_dropL (k := 1) rfl rfl rfl rfl q2) rfl ?_)
            | refine aops_nil ?_
            | refine lex_done _ rfl (by kernel_rfl) ?_
            | refine aw_ct rfl ?_
            | refine aw_cf rfl ?_
            | refine aw_block ?_
            | refine then_n ?_
            | refine aw_skip ?_
            | refine aw_exit ?_
            | refine then_x ?_
            | refine then_r ?_
            | refine block_x ?_
            | refine block_n ?_
            | refine block_r ?_
            | refine aw_ret ?_
          refine ⟨⟨(c, d.drop 1, out ++ [y]), by simp only [List.length_append, List.length_singleton, List.length_drop]; omega, by simp only [List.append_assoc, List.singleton_append]; rw [← hq, e]⟩, by simp only [List.length_drop]; omega, ?_⟩
          exact sub0 [2] rfl rfl (by decide) (.cons rfl rfl rfl rfl (les_refl (flat_noH _ _)) .nil) (by
              repeat' first
                | exact les_nil
                | refine les_cons ?_ ?_
                | exact le_any
                | exact le_refl rfl
                | exact le_sl rfl rfl
                | exact le_sl rfl (by simp))
    · have q1 : c.length ≤ 0 := by have := of_decide_eq_false p1; simp only at this; omega
      repeat' first
        | refine aw_seq ?_
        | refine aw_region ?_
        | refine aw_lex [] ?_
        | (refine isA ?_; refine do_F rfl ?_)
        | (refine isL ?_; refine lex_F rfl (by kernel_rfl) rfl rfl ?_)
        | (refine isLg rfl ?_; refine lex_S rfl (by kernel_rfl) rfl rfl ?_)
        | refine aops_nil ?_
        | refine lex_done _ rfl (by kernel_rfl) ?_
        | refine aw_ct rfl ?_
        | refine aw_cf rfl ?_
        | refine aw_block ?_
        | refine then_n ?_
        | refine aw_skip ?_
        | refine aw_exit ?_
        | refine then_x ?_
        | refine then_r ?_
        | refine block_x ?_
        | refine block_n ?_
        | refine block_r ?_
        | refine aw_ret ?_
      refine aw_cond rfl (fun p2 => ?_) (fun p2 => ?_)
      · have q2 : 1 ≤ d.length := by have := of_decide_eq_true p2; simp only at this; omega
        obtain ⟨y, hy⟩ : ∃ z, d[0]? = some z := ⟨_, List.getElem?_eq_getElem q2⟩
        repeat' first
          | refine aw_seq ?_
          | refine aw_region ?_
          | refine aw_lex [] ?_
          | (refine isA ?_; refine do_F rfl ?_)
          | (refine isL ?_; refine lex_F rfl (by kernel_rfl) rfl rfl ?_)
          | (refine isLg rfl ?_; refine lex_S rfl (by kernel_rfl) rfl rfl ?_)
          | refine aops_nil ?_
          | refine lex_done _ rfl (by kernel_rfl) ?_
          | refine aw_ct rfl ?_
          | refine aw_cf rfl ?_
          | refine aw_block ?_
          | refine then_n ?_
          | refine aw_skip ?_
          | refine aw_exit ?_
          | refine then_x ?_
          | refine then_r ?_
          | refine block_x ?_
          | refine block_n ?_
          | refine block_r ?_
          | refine aw_ret ?_
        refine lex_br rfl rfl rfl rfl (fun k => absurd (of_decide_eq_true k) (by simp only; omega)) (fun _ => ?_)
        repeat' first
          | refine aw_seq ?_
          | refine aw_region ?_
          | refine aw_lex [] ?_
          | (refine isA ?_; refine do_F rfl ?_)
          | (refine isL ?_; refine lex_F rfl (by kernel_rfl) rfl rfl ?_)
          | (refine isLg rfl ?_; refine lex_S rfl (by kernel_rfl) rfl rfl ?_)
          | refine aops_nil ?_
          | refine lex_done _ rfl (by kernel_rfl) ?_
          | refine aw_ct rfl ?_
          | refine aw_cf rfl ?_
          | refine aw_block ?_
          | refine then_n ?_
          | refine aw_skip ?_
          | refine aw_exit ?_
          | refine then_x ?_
          | refine then_r ?_
          | refine block_x ?_
          | refine block_n ?_
          | refine block_r ?_
          | refine aw_ret ?_
        refine lex_br rfl rfl rfl rfl (fun k => absurd (of_decide_eq_true k) (by simp only; omega)) (fun _ => ?_)
        have e : mgV c d = y :: mgV c (d.drop 1) := mgB2 (i := 0) (k := 0) hy q1
        repeat' first
          | refine aw_seq ?_
          | refine aw_region ?_
          | refine aw_lex [] ?_
          | (refine isA ?_; refine do_F rfl ?_)
          | (refine isL ?_; refine lex_F rfl (by kernel_rfl) rfl rfl ?_)
          | (refine isLg rfl ?_; refine lex_S rfl (by kernel_rfl) rfl rfl ?_)
          | (refine isAi (x := .tmp 42) ?_; refine do_R rfl (ia_l (t := rwT) (z := y) rfl rfl rfl rfl (Int.le_refl 0) hy) rfl ?_)
          | (refine isLi (x := .tmp 42) rfl ?_; refine lex_R rfl (by kernel_rfl) rfl (ia_l (t := rwT) (z := y) rfl rfl rfl rfl (Int.le_refl 0) hy) rfl ?_)
          | (refine isAp ?_; refine do_R rfl (ap_l (t := rwT) (xs := out) (ys := [y]) rfl rfl rfl rfl (src_of rfl rfl rfl rfl) (by simp; omega) rfl) rfl ?_)
          | (refine isLp rfl ?_; refine lex_R rfl (by kernel_rfl) rfl (ap_l (t := rwT) (xs := out) (ys := [y]) rfl rfl rfl rfl (src_of rfl rfl rfl rfl) (by simp; omega) rfl) rfl ?_)
          | (refine isAx ?_; refine do_R rfl (st_dropL (k := 1) rfl rfl rfl rfl q2) rfl ?_)
          | (refine isLx rfl ?_; refine lex_R rfl (by kernel_rfl) rfl (st_dropL (k := 1) rfl rfl rfl rfl q2) rfl ?_)
          | refine aops_nil ?_
          | refine lex_done _ rfl (by kernel_rfl) ?_
          | refine aw_ct rfl ?_
          | refine aw_cf rfl ?_
          | refine aw_block ?_
          | refine then_n ?_
          | refine aw_skip ?_
          | refine aw_exit ?_
          | refine then_x ?_
          | refine then_r ?_
          | refine block_x ?_
          | refine block_n ?_
          | refine block_r ?_
          | refine aw_ret ?_
        refine ⟨⟨(c, d.drop 1, out ++ [y]), by simp only [List.length_append, List.length_singleton, List.length_drop]; omega, by simp only [List.append_assoc, List.singleton_append]; rw [← hq, e]⟩, by simp only [List.length_drop]; omega, ?_⟩
        exact sub0 [2] rfl rfl (by decide) (.cons rfl rfl rfl rfl (les_refl (flat_noH _ _)) .nil) (by
            repeat' first
              | exact les_nil
              | refine les_cons ?_ ?_
              | exact le_any
              | exact le_refl rfl
              | exact le_sl rfl rfl
              | exact le_sl rfl (by simp))
      · have q2 : d.length ≤ 0 := by have := of_decide_eq_false p2; simp only at this; omega
        have c0 : c = [] := List.eq_nil_of_length_eq_zero (by omega)
        have d0 : d = [] := List.eq_nil_of_length_eq_zero (by omega)
        subst c0 d0
        rw [mg_nil, List.append_nil] at hq
        subst hq
        repeat' first
          | refine aw_seq ?_
          | refine aw_region ?_
          | refine aw_lex [] ?_
          | (refine isA ?_; refine do_F rfl ?_)
          | (refine isL ?_; refine lex_F rfl (by kernel_rfl) rfl rfl ?_)
          | (refine isLg rfl ?_; refine lex_S rfl (by kernel_rfl) rfl rfl ?_)
          | exact finL (ty := rwT) rfl rfl rfl rfl rfl rfl (flat_rw _)
          | refine aops_nil ?_
          | refine lex_done _ rfl (by kernel_rfl) ?_
          | refine aw_ct rfl ?_
          | refine aw_cf rfl ?_
          | refine aw_block ?_
          | refine then_n ?_
          | refine aw_skip ?_
          | refine aw_exit ?_
          | refine then_x ?_
          | refine then_r ?_
          | refine block_x ?_
          | refine block_n ?_
          | refine block_r ?_
          | refine aw_ret ?_
end Go.Proofs.Ytngeppmincgebaa.Ab
