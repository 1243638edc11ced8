/- Texts MgA, StA, StB, SpA0, SqA in one. -/
import Derived.Test.YtojcojanokhnaaaGA
import Derived.Test.YtojcojanokhnaaaAb2
set_option linter.unusedVariables false
set_option linter.unusedSimpArgs false
set_option maxRecDepth 20000
set_option maxHeartbeats 8000000
/- MgA -/
namespace Go.Proofs.Ytojcojanokhnaaa.Ab
open Go.RowKit

/-! ### Rows compared -/
def ordI (a b : Int) : Int := cond (decide (a < b)) (-1) (cond (decide (b < a)) 1 0)
def cmpL : List Int → List Int → Int
  | x :: xs, y :: ys => cond (decide (x < y)) (-1) (cond (decide (y < x)) 1 (cmpL xs ys))
  | _, _ => 0
def rwN (x : Rw) : List Int := [x.a, x.b, x.c]
def cmpV (x y : Rw) : Int := cmpL (rwN x) (rwN y)
theorem c_order (a b : Int) : Meets Go.Proofs.Try.prog 117 [I a, I b] [] (I (ordI a b)) [] false := by
  refine meets_of [4] Go.Proofs.Try.func117 rfl rfl ?_
  simp only [Go.Proofs.Try.ntmps117, List.length_cons, List.length_nil, Nat.reduceAdd, Nat.reduceSub, List.replicate_succ, List.replicate_zero, List.cons_append, List.nil_append]
  repeat' first | refine aw_seq ?_ | refine aw_region ?_ | refine aw_lex [] ?_ | (refine isA ?_; refine do_F rfl ?_) | (refine isL ?_; refine lex_F rfl (by kernel_rfl) rfl rfl ?_) | (refine isLg rfl ?_; refine lex_S rfl (by kernel_rfl) rfl rfl ?_) | exact fin1 rfl rfl (by simp only [ordI, *, cond_true, cond_false]) | refine aops_nil ?_ | refine lex_done _ rfl (by kernel_rfl) ?_ | refine aw_ct rfl ?_ | refine aw_cf rfl ?_ | refine aw_block ?_ | with_reducible refine then_n ?_ | refine aw_skip ?_ | refine aw_exit ?_ | (with_reducible first | refine then_x ?_ | refine then_r ?_ | refine block_x ?_ | refine block_n ?_ | refine block_r ?_) | refine aw_ret ?_ | refine aw_cond rfl (fun hbr => ?_) (fun hbr => ?_) | (refine isAg ?_; refine do_br rfl rfl (fun hbr => ?_) (fun hbr => ?_) <;> (fail_if_success (with_reducible (have hx : true = true := hbr))) <;> (fail_if_success (with_reducible (have hx : false = false := hbr)))) | (refine isLg rfl ?_; refine lex_br rfl rfl rfl rfl (fun hbr => ?_) (fun hbr => ?_) <;> (fail_if_success (with_reducible (have hx : true = true := hbr))) <;> (fail_if_success (with_reducible (have hx : false = false := hbr))))
theorem cmp_ne {a b : Int} {xs ys : List Int} (h : ordI a b ≠ 0) : cmpL (a :: xs) (b :: ys) = ordI a b := by
  rw [cmpL]
  unfold ordI at h ⊢
  generalize decide (a < b) = p at h ⊢
  generalize decide (b < a) = q at h ⊢
  cases p
  · cases q
    · exact absurd rfl h
    · rfl
  · rfl
theorem cmp_eq {a b : Int} {xs ys : List Int} (h : ordI a b = 0) : cmpL (a :: xs) (b :: ys) = cmpL xs ys := by
  rw [cmpL]
  unfold ordI at h
  generalize decide (a < b) = p at h ⊢
  generalize decide (b < a) = q at h ⊢
  cases p
  · cases q
    · rfl
    · cases h
  · cases h
theorem cmp_one {a b : Int} : cmpL [a] [b] = ordI a b := rfl
theorem c_icmp (x y : Rw) : Meets Go.Proofs.Try.prog 64 [.agg (rwE x), .agg (rwE y)] [] (I (cmpV x y)) [] false := by
  refine meets_of [4] Go.Proofs.Try.func64 rfl rfl ?_
  simp only [Go.Proofs.Try.ntmps64, List.length_cons, List.length_nil, Nat.reduceAdd, Nat.reduceSub, List.replicate_succ, List.replicate_zero, List.cons_append, List.nil_append]
  repeat' first | refine aw_seq ?_ | refine aw_region ?_ | refine aw_lex [] ?_ | (refine isA ?_; refine do_F rfl ?_) | (refine isL ?_; refine lex_F rfl (by kernel_rfl) rfl rfl ?_) | (refine isLg rfl ?_; refine lex_S rfl (by kernel_rfl) rfl rfl ?_) | (refine isAc 117 ?_; refine do_R rfl (st_call rfl (c_order _ _) (.cons (.same rfl) (.cons (.same rfl) .nil)) rfl) rfl ?_) | (refine isLc 117 rfl ?_; refine lex_R rfl (by kernel_rfl) rfl (st_call rfl (c_order _ _) (.cons (.same rfl) (.cons (.same rfl) .nil)) rfl) rfl ?_) | refine aops_nil ?_ | refine lex_done _ rfl (by kernel_rfl) ?_ | refine aw_ct rfl ?_ | refine aw_cf rfl ?_ | refine aw_block ?_ | with_reducible refine then_n ?_ | refine aw_skip ?_ | refine aw_exit ?_ | (with_reducible first | refine then_x ?_ | refine then_r ?_ | refine block_x ?_ | refine block_n ?_ | refine block_r ?_) | refine aw_ret ?_
  refine aw_cond rfl (fun h => ?_) (fun h => ?_)
  · have h1 : ordI x.a y.a ≠ 0 := by simpa using h
    have e : cmpV x y = ordI x.a y.a := cmp_ne h1
    repeat' first | refine aw_seq ?_ | refine aw_region ?_ | refine aw_lex [] ?_ | (refine isA ?_; refine do_F rfl ?_) | (refine isL ?_; refine lex_F rfl (by kernel_rfl) rfl rfl ?_) | (refine isLg rfl ?_; refine lex_S rfl (by kernel_rfl) rfl rfl ?_) | exact fin1 rfl rfl (by rw [e]) | refine aops_nil ?_ | refine lex_done _ rfl (by kernel_rfl) ?_ | refine aw_ct rfl ?_ | refine aw_cf rfl ?_ | refine aw_block ?_ | with_reducible refine then_n ?_ | refine aw_skip ?_ | refine aw_exit ?_ | (with_reducible first | refine then_x ?_ | refine then_r ?_ | refine block_x ?_ | refine block_n ?_ | refine block_r ?_) | refine aw_ret ?_
  have h1 : ordI x.a y.a = 0 := by simpa using h
  repeat' first | refine aw_seq ?_ | refine aw_region ?_ | refine aw_lex [] ?_ | (refine isA ?_; refine do_F rfl ?_) | (refine isL ?_; refine lex_F rfl (by kernel_rfl) rfl rfl ?_) | (refine isLg rfl ?_; refine lex_S rfl (by kernel_rfl) rfl rfl ?_) | (refine isAc 117 ?_; refine do_R rfl (st_call rfl (c_order _ _) (.cons (.same rfl) (.cons (.same rfl) .nil)) rfl) rfl ?_) | (refine isLc 117 rfl ?_; refine lex_R rfl (by kernel_rfl) rfl (st_call rfl (c_order _ _) (.cons (.same rfl) (.cons (.same rfl) .nil)) rfl) rfl ?_) | refine aops_nil ?_ | refine lex_done _ rfl (by kernel_rfl) ?_ | refine aw_ct rfl ?_ | refine aw_cf rfl ?_ | refine aw_block ?_ | with_reducible refine then_n ?_ | refine aw_skip ?_ | refine aw_exit ?_ | (with_reducible first | refine then_x ?_ | refine then_r ?_ | refine block_x ?_ | refine block_n ?_ | refine block_r ?_) | refine aw_ret ?_
  refine aw_cond rfl (fun h => ?_) (fun h => ?_)
  · have h2 : ordI x.b y.b ≠ 0 := by simpa using h
    have e : cmpV x y = ordI x.b y.b := (cmp_eq h1).trans (cmp_ne h2)
    repeat' first | refine aw_seq ?_ | refine aw_region ?_ | refine aw_lex [] ?_ | (refine isA ?_; refine do_F rfl ?_) | (refine isL ?_; refine lex_F rfl (by kernel_rfl) rfl rfl ?_) | (refine isLg rfl ?_; refine lex_S rfl (by kernel_rfl) rfl rfl ?_) | exact fin1 rfl rfl (by rw [e]) | refine aops_nil ?_ | refine lex_done _ rfl (by kernel_rfl) ?_ | refine aw_ct rfl ?_ | refine aw_cf rfl ?_ | refine aw_block ?_ | with_reducible refine then_n ?_ | refine aw_skip ?_ | refine aw_exit ?_ | (with_reducible first | refine then_x ?_ | refine then_r ?_ | refine block_x ?_ | refine block_n ?_ | refine block_r ?_) | refine aw_ret ?_
  have h2 : ordI x.b y.b = 0 := by simpa using h
  have e : cmpV x y = ordI x.c y.c := (cmp_eq h1).trans ((cmp_eq h2).trans cmp_one)
  repeat' first | refine aw_seq ?_ | refine aw_region ?_ | refine aw_lex [] ?_ | (refine isA ?_; refine do_F rfl ?_) | (refine isL ?_; refine lex_F rfl (by kernel_rfl) rfl rfl ?_) | (refine isLg rfl ?_; refine lex_S rfl (by kernel_rfl) rfl rfl ?_) | (refine isAc 117 ?_; refine do_R rfl (st_call rfl (c_order _ _) (.cons (.same rfl) (.cons (.same rfl) .nil)) rfl) rfl ?_) | (refine isLc 117 rfl ?_; refine lex_R rfl (by kernel_rfl) rfl (st_call rfl (c_order _ _) (.cons (.same rfl) (.cons (.same rfl) .nil)) rfl) rfl ?_) | exact fin1 rfl rfl (by rw [e]) | refine aops_nil ?_ | refine lex_done _ rfl (by kernel_rfl) ?_ | refine aw_ct rfl ?_ | refine aw_cf rfl ?_ | refine aw_block ?_ | with_reducible refine then_n ?_ | refine aw_skip ?_ | refine aw_exit ?_ | (with_reducible first | refine then_x ?_ | refine then_r ?_ | refine block_x ?_ | refine block_n ?_ | refine block_r ?_) | refine aw_ret ?_

def intT : Ty Int := ⟨1, fun n => [I n], fun _ => rfl, by decide, fun r c hc => by
  simp only [List.mem_cons, List.not_mem_nil, or_false] at hc
  subst hc
  exact ⟨rfl, rfl⟩⟩
theorem cmp_at {xs ys : List Int} {i : Nat} {a b : Int} (hx : xs[i]? = some a) (hy : ys[i]? = some b) : cmpL (xs.drop i) (ys.drop i) = cond (decide (a < b)) (-1) (cond (decide (b < a)) 1 (cmpL (xs.drop (i + 1)) (ys.drop (i + 1)))) := by
  rw [take_drop1 hx, take_drop1 hy, cmpL]
theorem c_scmp (x y : Rw) : Meets Go.Proofs.Try.prog 68 [.agg (rwE x), .agg (rwE y)] [] (I (cmpV x y)) [] false := by
  refine meets_of [4] Go.Proofs.Try.func68 rfl rfl ?_
  simp only [Go.Proofs.Try.ntmps68, List.length_cons, List.length_nil, Nat.reduceAdd, Nat.reduceSub, List.replicate_succ, List.replicate_zero, List.cons_append, List.nil_append]
  repeat' first | refine aw_seq ?_ | refine aw_region ?_ | refine aw_lex [] ?_ | (refine isA ?_; refine do_F rfl ?_) | (refine isL ?_; refine lex_F rfl (by kernel_rfl) rfl rfl ?_) | (refine isLg rfl ?_; refine lex_S rfl (by kernel_rfl) rfl rfl ?_) | refine aops_nil ?_ | refine lex_done _ rfl (by kernel_rfl) ?_ | refine aw_ct rfl ?_ | refine aw_cf rfl ?_ | refine aw_block ?_ | with_reducible refine then_n ?_ | refine aw_skip ?_ | refine aw_exit ?_ | (with_reducible first | refine then_x ?_ | refine then_r ?_ | refine block_x ?_ | refine block_n ?_ | refine block_r ?_) | refine aw_ret ?_
  refine aw_loop (α := { i : Nat // i ≤ 3 ∧ cmpL ((rwN x).drop i) ((rwN y).drop i) = cmpV x y }) (fun i => ⟨[.any, .any, .any, .any, .any, .sl 0 0 3, .sl 1 0 3, I i.1, .any, .any, .any, .any, .any, .any, .any, .any, .any, .any, .any, .any, .any, .any, .any, .any, .any, .any, .any, .any, .any, .any, .any, .any, .any, .any, .any, .any, .any, .any, .any, .any, .any, .any, .any, .any], [regOf intT 3 (rwN x), regOf intT 3 (rwN y)], 0⟩) (fun i => 3 - i.1) ⟨0, Nat.zero_le _, rfl⟩ ?_ ?_
  · exact sub0 [2, 3] rfl rfl (by decide) (.cons rfl rfl rfl rfl (les_refl' rfl) (.cons rfl rfl rfl rfl (les_refl' rfl) .nil)) (by repeat' first | exact les_nil | refine les_cons ?_ ?_ | exact le_any | exact le_refl rfl | exact le_sl rfl rfl | exact le_ptr rfl)
  · rintro ⟨i, hi, hq⟩
    repeat' first | refine aw_seq ?_ | refine aw_region ?_ | refine aw_lex [] ?_ | (refine isA ?_; refine do_F rfl ?_) | (refine isL ?_; refine lex_F rfl (by kernel_rfl) rfl rfl ?_) | (refine isLg rfl ?_; refine lex_S rfl (by kernel_rfl) rfl rfl ?_) | refine aops_nil ?_ | refine lex_done _ rfl (by kernel_rfl) ?_ | refine aw_ct rfl ?_ | refine aw_cf rfl ?_ | refine aw_block ?_ | with_reducible refine then_n ?_ | refine aw_skip ?_ | refine aw_exit ?_ | (with_reducible first | refine then_x ?_ | refine then_r ?_ | refine block_x ?_ | refine block_n ?_ | refine block_r ?_) | refine aw_ret ?_
    refine aw_cond rfl (fun h => ?_) (fun h => ?_)
    · have hlt : i < 3 := by have := of_decide_eq_true h; simp only at this; omega
      obtain ⟨a, ha⟩ : ∃ z, (rwN x)[i]? = some z := ⟨_, List.getElem?_eq_getElem hlt⟩
      obtain ⟨b, hb⟩ : ∃ z, (rwN y)[i]? = some z := ⟨_, List.getElem?_eq_getElem hlt⟩
      rw [cmp_at ha hb] at hq
      repeat' first | refine aw_seq ?_ | refine aw_region ?_ | refine aw_lex [] ?_ | (refine isA ?_; refine do_F rfl ?_) | (refine isL ?_; refine lex_F rfl (by kernel_rfl) rfl rfl ?_) | (refine isLg rfl ?_; refine lex_S rfl (by kernel_rfl) rfl rfl ?_) | (refine isAi (x := .tmp 26) ?_; refine do_R rfl (ia_s (t := intT) (xs := rwN x) rfl rfl rfl rfl rfl (Int.natCast_nonneg i) (by simp only; show (i : Int) < 3; omega)) rfl ?_) | (refine isLi (x := .tmp 26) rfl ?_; refine lex_R rfl (by kernel_rfl) rfl (ia_s (t := intT) (xs := rwN x) rfl rfl rfl rfl rfl (Int.natCast_nonneg i) (by simp only; show (i : Int) < 3; omega)) rfl ?_) | (refine isAi (x := .tmp 30) ?_; refine do_R rfl (ia_s (t := intT) (xs := rwN y) rfl rfl rfl rfl rfl (Int.natCast_nonneg i) (by simp only; show (i : Int) < 3; omega)) rfl ?_) | (refine isLi (x := .tmp 30) rfl ?_; refine lex_R rfl (by kernel_rfl) rfl (ia_s (t := intT) (xs := rwN y) rfl rfl rfl rfl rfl (Int.natCast_nonneg i) (by simp only; show (i : Int) < 3; omega)) rfl ?_) | (refine isAl (x := .tmp 28) ?_; refine do_R rfl (ld_f (T := intT) (i := i) (off := 0) (xs := rwN x) (z := a) rfl rfl rfl ha rfl) rfl ?_) | (refine isLl (x := .tmp 28) rfl ?_; refine lex_R rfl (by kernel_rfl) rfl (ld_f (T := intT) (i := i) (off := 0) (xs := rwN x) (z := a) rfl rfl rfl ha rfl) rfl ?_) | (refine isAl (x := .tmp 32) ?_; refine do_R rfl (ld_f (T := intT) (i := i) (off := 0) (xs := rwN y) (z := b) rfl rfl rfl hb rfl) rfl ?_) | (refine isLl (x := .tmp 32) rfl ?_; refine lex_R rfl (by kernel_rfl) rfl (ld_f (T := intT) (i := i) (off := 0) (xs := rwN y) (z := b) rfl rfl rfl hb rfl) rfl ?_) | refine aops_nil ?_ | refine lex_done _ rfl (by kernel_rfl) ?_ | refine aw_ct rfl ?_ | refine aw_cf rfl ?_ | refine aw_block ?_ | with_reducible refine then_n ?_ | refine aw_skip ?_ | refine aw_exit ?_ | (with_reducible first | refine then_x ?_ | refine then_r ?_ | refine block_x ?_ | refine block_n ?_ | refine block_r ?_) | refine aw_ret ?_
      refine aw_cond rfl (fun h1 => ?_) (fun h1 => ?_)
      · rw [h1, cond_true] at hq
        repeat' first | refine aw_seq ?_ | refine aw_region ?_ | refine aw_lex [] ?_ | (refine isA ?_; refine do_F rfl ?_) | (refine isL ?_; refine lex_F rfl (by kernel_rfl) rfl rfl ?_) | (refine isLg rfl ?_; refine lex_S rfl (by kernel_rfl) rfl rfl ?_) | exact fin1 rfl rfl (congrArg I hq) | refine aops_nil ?_ | refine lex_done _ rfl (by kernel_rfl) ?_ | refine aw_ct rfl ?_ | refine aw_cf rfl ?_ | refine aw_block ?_ | with_reducible refine then_n ?_ | refine aw_skip ?_ | refine aw_exit ?_ | (with_reducible first | refine then_x ?_ | refine then_r ?_ | refine block_x ?_ | refine block_n ?_ | refine block_r ?_) | refine aw_ret ?_
      rw [h1, cond_false] at hq
      repeat' first | refine aw_seq ?_ | refine aw_region ?_ | refine aw_lex [] ?_ | (refine isA ?_; refine do_F rfl ?_) | (refine isL ?_; refine lex_F rfl (by kernel_rfl) rfl rfl ?_) | (refine isLg rfl ?_; refine lex_S rfl (by kernel_rfl) rfl rfl ?_) | (refine isAi (x := .tmp 35) ?_; refine do_R rfl (ia_s (t := intT) (xs := rwN x) rfl rfl rfl rfl rfl (Int.natCast_nonneg i) (by simp only; show (i : Int) < 3; omega)) rfl ?_) | (refine isLi (x := .tmp 35) rfl ?_; refine lex_R rfl (by kernel_rfl) rfl (ia_s (t := intT) (xs := rwN x) rfl rfl rfl rfl rfl (Int.natCast_nonneg i) (by simp only; show (i : Int) < 3; omega)) rfl ?_) | (refine isAi (x := .tmp 39) ?_; refine do_R rfl (ia_s (t := intT) (xs := rwN y) rfl rfl rfl rfl rfl (Int.natCast_nonneg i) (by simp only; show (i : Int) < 3; omega)) rfl ?_) | (refine isLi (x := .tmp 39) rfl ?_; refine lex_R rfl (by kernel_rfl) rfl (ia_s (t := intT) (xs := rwN y) rfl rfl rfl rfl rfl (Int.natCast_nonneg i) (by simp only; show (i : Int) < 3; omega)) rfl ?_) | (refine isAl (x := .tmp 37) ?_; refine do_R rfl (ld_f (T := intT) (i := i) (off := 0) (xs := rwN x) (z := a) rfl rfl rfl ha rfl) rfl ?_) | (refine isLl (x := .tmp 37) rfl ?_; refine lex_R rfl (by kernel_rfl) rfl (ld_f (T := intT) (i := i) (off := 0) (xs := rwN x) (z := a) rfl rfl rfl ha rfl) rfl ?_) | (refine isAl (x := .tmp 41) ?_; refine do_R rfl (ld_f (T := intT) (i := i) (off := 0) (xs := rwN y) (z := b) rfl rfl rfl hb rfl) rfl ?_) | (refine isLl (x := .tmp 41) rfl ?_; refine lex_R rfl (by kernel_rfl) rfl (ld_f (T := intT) (i := i) (off := 0) (xs := rwN y) (z := b) rfl rfl rfl hb rfl) rfl ?_) | refine aops_nil ?_ | refine lex_done _ rfl (by kernel_rfl) ?_ | refine aw_ct rfl ?_ | refine aw_cf rfl ?_ | refine aw_block ?_ | with_reducible refine then_n ?_ | refine aw_skip ?_ | refine aw_exit ?_ | (with_reducible first | refine then_x ?_ | refine then_r ?_ | refine block_x ?_ | refine block_n ?_ | refine block_r ?_) | refine aw_ret ?_
      refine aw_cond rfl (fun h2 => ?_) (fun h2 => ?_)
      · rw [h2, cond_true] at hq
        repeat' first | refine aw_seq ?_ | refine aw_region ?_ | refine aw_lex [] ?_ | (refine isA ?_; refine do_F rfl ?_) | (refine isL ?_; refine lex_F rfl (by kernel_rfl) rfl rfl ?_) | (refine isLg rfl ?_; refine lex_S rfl (by kernel_rfl) rfl rfl ?_) | exact fin1 rfl rfl (congrArg I hq) | refine aops_nil ?_ | refine lex_done _ rfl (by kernel_rfl) ?_ | refine aw_ct rfl ?_ | refine aw_cf rfl ?_ | refine aw_block ?_ | with_reducible refine then_n ?_ | refine aw_skip ?_ | refine aw_exit ?_ | (with_reducible first | refine then_x ?_ | refine then_r ?_ | refine block_x ?_ | refine block_n ?_ | refine block_r ?_) | refine aw_ret ?_
      rw [h2, cond_false] at hq
      repeat' first | refine aw_seq ?_ | refine aw_region ?_ | refine aw_lex [] ?_ | (refine isA ?_; refine do_F rfl ?_) | (refine isL ?_; refine lex_F rfl (by kernel_rfl) rfl rfl ?_) | (refine isLg rfl ?_; refine lex_S rfl (by kernel_rfl) rfl rfl ?_) | refine aops_nil ?_ | refine lex_done _ rfl (by kernel_rfl) ?_ | refine aw_ct rfl ?_ | refine aw_cf rfl ?_ | refine aw_block ?_ | with_reducible refine then_n ?_ | refine aw_skip ?_ | refine aw_exit ?_ | (with_reducible first | refine then_x ?_ | refine then_r ?_ | refine block_x ?_ | refine block_n ?_ | refine block_r ?_) | refine aw_ret ?_
      refine ⟨⟨i + 1, hlt, hq⟩, by simp only; omega, ?_⟩
      exact sub0 [0, 1] rfl rfl (by decide) (.cons rfl rfl rfl rfl (les_refl' rfl) (.cons rfl rfl rfl rfl (les_refl' rfl) .nil)) (by
        repeat' first | exact les_nil | refine les_cons ?_ ?_ | exact le_any | exact le_refl rfl | exact le_sl rfl rfl | exact le_i hlt (by omega))
    · have hge : i = 3 := by have := of_decide_eq_false h; simp only at this; omega
      subst hge
      repeat' first | refine aw_seq ?_ | refine aw_region ?_ | refine aw_lex [] ?_ | (refine isA ?_; refine do_F rfl ?_) | (refine isL ?_; refine lex_F rfl (by kernel_rfl) rfl rfl ?_) | (refine isLg rfl ?_; refine lex_S rfl (by kernel_rfl) rfl rfl ?_) | exact fin1 rfl rfl (congrArg I hq) | refine aops_nil ?_ | refine lex_done _ rfl (by kernel_rfl) ?_ | refine aw_ct rfl ?_ | refine aw_cf rfl ?_ | refine aw_block ?_ | with_reducible refine then_n ?_ | refine aw_skip ?_ | refine aw_exit ?_ | (with_reducible first | refine then_x ?_ | refine then_r ?_ | refine block_x ?_ | refine block_n ?_ | refine block_r ?_) | refine aw_ret ?_

/-! ### Rows merged -/
def mgV : List Rw → List Rw → List Rw
  | [], ys => ys
  | x :: xs, [] => x :: xs
  | x :: xs, y :: ys => cond (decide (cmpV x y ≤ 0)) (x :: mgV xs (y :: ys)) (y :: mgV (x :: xs) ys)
termination_by xs ys => xs.length + ys.length
theorem mg_nil (ys : List Rw) : mgV [] ys = ys := by rw [mgV]
theorem mg_nil2 (xs : List Rw) : mgV xs [] = xs := by cases xs <;> rw [mgV]
theorem mg_le {x y : Rw} {xs ys : List Rw} (h : decide (cmpV x y ≤ 0) = true) : mgV (x :: xs) (y :: ys) = x :: mgV xs (y :: ys) := by rw [mgV, h, cond_true]
theorem mg_gt {x y : Rw} {xs ys : List Rw} (h : decide (cmpV x y ≤ 0) = false) : mgV (x :: xs) (y :: ys) = y :: mgV (x :: xs) ys := by rw [mgV, h, cond_false]
theorem mg_len : ∀ (xs ys : List Rw), (mgV xs ys).length = xs.length + ys.length
  | [], ys => by rw [mg_nil]; simp
  | x :: xs, [] => by rw [mg_nil2]; simp
  | x :: xs, y :: ys => by
    cases h : decide (cmpV x y ≤ 0) with
    | true => rw [mg_le h, List.length_cons, mg_len xs (y :: ys)]; simp; omega
    | false => rw [mg_gt h, List.length_cons, mg_len (x :: xs) ys]; simp; omega
termination_by xs ys => xs.length + ys.length
theorem mgA1 {a b : List Rw} {i k : Nat} {x : Rw} (hx : a[i]? = some x) (hk : b.length ≤ k) : mgV (a.drop i) (b.drop k) = x :: mgV (a.drop (i + 1)) (b.drop k) := by
  rw [take_drop1 hx, List.drop_of_length_le hk, mg_nil2, mg_nil2]
theorem mgA2 {a b : List Rw} {i k : Nat} {x y : Rw} (hx : a[i]? = some x) (hy : b[k]? = some y) (h : decide (cmpV x y ≤ 0) = true) : mgV (a.drop i) (b.drop k) = x :: mgV (a.drop (i + 1)) (b.drop k) := by
  rw [take_drop1 hx, take_drop1 hy, mg_le h]
theorem mgB1 {a b : List Rw} {i k : Nat} {x y : Rw} (hx : a[i]? = some x) (hy : b[k]? = some y) (h : decide (cmpV x y ≤ 0) = false) : mgV (a.drop i) (b.drop k) = y :: mgV (a.drop i) (b.drop (k + 1)) := by
  rw [take_drop1 hx, take_drop1 hy, mg_gt h]
theorem mgB2 {a b : List Rw} {i k : Nat} {y : Rw} (hy : b[k]? = some y) (hi : a.length ≤ i) : mgV (a.drop i) (b.drop k) = y :: mgV (a.drop i) (b.drop (k + 1)) := by
  rw [take_drop1 hy, List.drop_of_length_le hi, mg_nil, mg_nil]
theorem c_smg (a b : List Rw) (h1 : a.length ≤ 100000000) (h2 : b.length ≤ 100000000) : Meets Go.Proofs.Try.prog 87 [rwL a, rwL b] [] (.sl 0 0 (mgV a b).length) [rwR (mgV a b)] false := by
  refine meets_of [4] Go.Proofs.Try.func87 rfl rfl ?_
  simp only [Go.Proofs.Try.ntmps87, List.length_cons, List.length_nil, Nat.reduceAdd, Nat.reduceSub, List.replicate_succ, List.replicate_zero, List.cons_append, List.nil_append]
  repeat' first | refine aw_seq ?_ | refine aw_region ?_ | refine aw_lex [] ?_ | (refine isA ?_; refine do_F rfl ?_) | (refine isL ?_; refine lex_F rfl (by kernel_rfl) rfl rfl ?_) | (refine isLg rfl ?_; refine lex_S rfl (by kernel_rfl) rfl rfl ?_) | refine aops_nil ?_ | refine lex_done _ rfl (by kernel_rfl) ?_ | refine aw_ct rfl ?_ | refine aw_cf rfl ?_ | refine aw_block ?_ | with_reducible refine then_n ?_ | refine aw_skip ?_ | refine aw_exit ?_ | (with_reducible first | refine then_x ?_ | refine then_r ?_ | refine block_x ?_ | refine block_n ?_ | refine block_r ?_) | refine aw_ret ?_
  refine aw_loop (α := { p : Nat × Nat × List Rw // p.1 ≤ a.length ∧ p.2.1 ≤ b.length ∧ p.2.2.length = p.1 + p.2.1 ∧ p.2.2 ++ mgV (a.drop p.1) (b.drop p.2.1) = mgV a b }) (fun p => ⟨((rwL a) :: (rwL b) :: .any :: .any :: .any :: (.sl 0 0 p.1.2.2.length) :: (I p.1.1) :: (I p.1.2.1) :: .any :: .any :: .any :: .any :: .any :: .any :: .any :: .any :: .any :: .any :: .any :: .any :: .any :: .any :: .any :: .any :: .any :: .any :: .any :: .any :: .any :: .any :: .any :: .any :: .any :: .any :: .any :: .any :: .any :: .any :: .any :: .any :: .any :: .any :: .any :: .any :: .any :: .any :: .any :: .any :: .any :: .any :: .any :: .any :: .any :: .any :: .any :: .any :: .any :: .any :: .any :: .any :: []), [rwR p.1.2.2], 0⟩) (fun p => a.length + b.length - p.1.1 - p.1.2.1) ⟨(0, 0, []), Nat.zero_le _, Nat.zero_le _, rfl, rfl⟩ ?_ ?_
  · exact sub0 [0] rfl rfl (by decide) (.cons rfl rfl rfl rfl (les_refl (flat_noH _ _)) .nil) (by repeat' first | exact les_nil | refine les_cons ?_ ?_ | exact le_any | exact le_refl rfl | exact le_sl rfl rfl | exact le_ptr rfl)
  · rintro ⟨⟨i, k, out⟩, hi, hk, ho, hq⟩
    simp only at hi hk ho hq
    repeat' first | refine aw_seq ?_ | refine aw_region ?_ | refine aw_lex [] ?_ | (refine isA ?_; refine do_F rfl ?_) | (refine isL ?_; refine lex_F rfl (by kernel_rfl) rfl rfl ?_) | (refine isLg rfl ?_; refine lex_S rfl (by kernel_rfl) rfl rfl ?_) | refine aops_nil ?_ | refine lex_done _ rfl (by kernel_rfl) ?_ | refine aw_ct rfl ?_ | refine aw_cf rfl ?_ | refine aw_block ?_ | with_reducible refine then_n ?_ | refine aw_skip ?_ | refine aw_exit ?_ | (with_reducible first | refine then_x ?_ | refine then_r ?_ | refine block_x ?_ | refine block_n ?_ | refine block_r ?_) | refine aw_ret ?_
    refine do_br rfl rfl (fun p1 => ?_) (fun p1 => ?_)
    · have q1 : i < a.length := by have := of_decide_eq_true p1; simp only at this; omega
      obtain ⟨x, hx⟩ : ∃ z, a[i]? = some z := ⟨_, List.getElem?_eq_getElem q1⟩
      repeat' first | refine aw_seq ?_ | refine aw_region ?_ | refine aw_lex [] ?_ | (refine isA ?_; refine do_F rfl ?_) | (refine isL ?_; refine lex_F rfl (by kernel_rfl) rfl rfl ?_) | (refine isLg rfl ?_; refine lex_S rfl (by kernel_rfl) rfl rfl ?_) | refine aops_nil ?_ | refine lex_done _ rfl (by kernel_rfl) ?_ | refine aw_ct rfl ?_ | refine aw_cf rfl ?_ | refine aw_block ?_ | with_reducible refine then_n ?_ | refine aw_skip ?_ | refine aw_exit ?_ | (with_reducible first | refine then_x ?_ | refine then_r ?_ | refine block_x ?_ | refine block_n ?_ | refine block_r ?_) | refine aw_ret ?_
      refine lex_br rfl rfl rfl rfl (fun p2 => ?_) (fun p2 => ?_)
      · have q2 : b.length ≤ k := by have := of_decide_eq_true p2; simp only at this; omega
        repeat' first | refine aw_seq ?_ | refine aw_region ?_ | refine aw_lex [] ?_ | (refine isA ?_; refine do_F rfl ?_) | (refine isL ?_; refine lex_F rfl (by kernel_rfl) rfl rfl ?_) | (refine isLg rfl ?_; refine lex_S rfl (by kernel_rfl) rfl rfl ?_) | (refine isAi (x := .tmp 42) ?_; refine do_R rfl (ia_l (t := rwT) (z := x) rfl rfl rfl rfl (Int.natCast_nonneg i) hx) rfl ?_) | (refine isLi (x := .tmp 42) rfl ?_; refine lex_R rfl (by kernel_rfl) rfl (ia_l (t := rwT) (z := x) rfl rfl rfl rfl (Int.natCast_nonneg i) hx) rfl ?_) | (refine isAp ?_; refine do_R rfl (ap_l (t := rwT) (xs := out) (ys := [x]) rfl rfl rfl rfl (src_of rfl rfl rfl rfl) (by simp; omega) rfl) rfl ?_) | (refine isLp rfl ?_; refine lex_R rfl (by kernel_rfl) rfl (ap_l (t := rwT) (xs := out) (ys := [x]) rfl rfl rfl rfl (src_of rfl rfl rfl rfl) (by simp; omega) rfl) rfl ?_) | refine aops_nil ?_ | refine lex_done _ rfl (by kernel_rfl) ?_ | refine aw_ct rfl ?_ | refine aw_cf rfl ?_ | refine aw_block ?_ | with_reducible refine then_n ?_ | refine aw_skip ?_ | refine aw_exit ?_ | (with_reducible first | refine then_x ?_ | refine then_r ?_ | refine block_x ?_ | refine block_n ?_ | refine block_r ?_) | refine aw_ret ?_
        refine ⟨⟨(i + 1, k, out ++ [x]), by simp only; omega, by simp only; omega, by simp only [List.length_append, List.length_singleton]; omega, by simp only [List.append_assoc, List.singleton_append]; rw [← hq, mgA1 hx q2]⟩, by simp only; omega, ?_⟩
        exact sub0 [2] rfl rfl (by decide) (.cons rfl rfl rfl rfl (les_refl (flat_noH _ _)) .nil) (by
            repeat' first | exact les_nil | refine les_cons ?_ ?_ | exact le_any | exact le_refl rfl | exact le_sl rfl rfl | exact le_sl rfl (by simp) | exact le_i (n := a.length) (by omega) (by omega) | exact le_i (n := b.length) (by omega) (by omega))
      · have q2 : k < b.length := by have := of_decide_eq_false p2; simp only at this; omega
        obtain ⟨y, hy⟩ : ∃ z, b[k]? = some z := ⟨_, List.getElem?_eq_getElem q2⟩
        repeat' first | refine aw_seq ?_ | refine aw_region ?_ | refine aw_lex [] ?_ | (refine isA ?_; refine do_F rfl ?_) | (refine isL ?_; refine lex_F rfl (by kernel_rfl) rfl rfl ?_) | (refine isLg rfl ?_; refine lex_S rfl (by kernel_rfl) rfl rfl ?_) | refine aops_nil ?_ | refine lex_done _ rfl (by kernel_rfl) ?_ | refine aw_ct rfl ?_ | refine aw_cf rfl ?_ | refine aw_block ?_ | with_reducible refine then_n ?_ | refine aw_skip ?_ | refine aw_exit ?_ | (with_reducible first | refine then_x ?_ | refine then_r ?_ | refine block_x ?_ | refine block_n ?_ | refine block_r ?_) | refine aw_ret ?_
        refine lex_br rfl rfl rfl rfl (fun _ => ?_) (fun k => absurd (of_decide_eq_false k) (by simp only; omega))
        repeat' first | refine aw_seq ?_ | refine aw_region ?_ | refine aw_lex [] ?_ | (refine isA ?_; refine do_F rfl ?_) | (refine isL ?_; refine lex_F rfl (by kernel_rfl) rfl rfl ?_) | (refine isLg rfl ?_; refine lex_S rfl (by kernel_rfl) rfl rfl ?_) | (refine isAi (x := .tmp 29) ?_; refine do_R rfl (ia_l (t := rwT) (z := x) rfl rfl rfl rfl (Int.natCast_nonneg i) hx) rfl ?_) | (refine isLi (x := .tmp 29) rfl ?_; refine lex_R rfl (by kernel_rfl) rfl (ia_l (t := rwT) (z := x) rfl rfl rfl rfl (Int.natCast_nonneg i) hx) rfl ?_) | (refine isAi (x := .tmp 33) ?_; refine do_R rfl (ia_l (t := rwT) (z := y) rfl rfl rfl rfl (Int.natCast_nonneg k) hy) rfl ?_) | (refine isLi (x := .tmp 33) rfl ?_; refine lex_R rfl (by kernel_rfl) rfl (ia_l (t := rwT) (z := y) rfl rfl rfl rfl (Int.natCast_nonneg k) hy) rfl ?_) | (refine isAc 68 ?_; refine do_R rfl (st_call rfl (c_scmp x y) (.cons (.same rfl) (.cons (.same rfl) .nil)) rfl) rfl ?_) | (refine isLc 68 rfl ?_; refine lex_R rfl (by kernel_rfl) rfl (st_call rfl (c_scmp x y) (.cons (.same rfl) (.cons (.same rfl) .nil)) rfl) rfl ?_) | refine aops_nil ?_ | refine lex_done _ rfl (by kernel_rfl) ?_ | refine aw_ct rfl ?_ | refine aw_cf rfl ?_ | refine aw_block ?_ | with_reducible refine then_n ?_ | refine aw_skip ?_ | refine aw_exit ?_ | (with_reducible first | refine then_x ?_ | refine then_r ?_ | refine block_x ?_ | refine block_n ?_ | refine block_r ?_) | refine aw_ret ?_
        refine aw_cond rfl (fun p3 => ?_) (fun p3 => ?_)
        · skip
          repeat' first | refine aw_seq ?_ | refine aw_region ?_ | refine aw_lex [] ?_ | (refine isA ?_; refine do_F rfl ?_) | (refine isL ?_; refine lex_F rfl (by kernel_rfl) rfl rfl ?_) | (refine isLg rfl ?_; refine lex_S rfl (by kernel_rfl) rfl rfl ?_) | (refine isAi (x := .tmp 42) ?_; refine do_R rfl (ia_l (t := rwT) (z := x) rfl rfl rfl rfl (Int.natCast_nonneg i) hx) rfl ?_) | (refine isLi (x := .tmp 42) rfl ?_; refine lex_R rfl (by kernel_rfl) rfl (ia_l (t := rwT) (z := x) rfl rfl rfl rfl (Int.natCast_nonneg i) hx) rfl ?_) | (refine isAp ?_; refine do_R rfl (ap_l (t := rwT) (xs := out) (ys := [x]) rfl rfl rfl rfl (src_of rfl rfl rfl rfl) (by simp; omega) rfl) rfl ?_) | (refine isLp rfl ?_; refine lex_R rfl (by kernel_rfl) rfl (ap_l (t := rwT) (xs := out) (ys := [x]) rfl rfl rfl rfl (src_of rfl rfl rfl rfl) (by simp; omega) rfl) rfl ?_) | refine aops_nil ?_ | refine lex_done _ rfl (by kernel_rfl) ?_ | refine aw_ct rfl ?_ | refine aw_cf rfl ?_ | refine aw_block ?_ | with_reducible refine then_n ?_ | refine aw_skip ?_ | refine aw_exit ?_ | (with_reducible first | refine then_x ?_ | refine then_r ?_ | refine block_x ?_ | refine block_n ?_ | refine block_r ?_) | refine aw_ret ?_
          refine ⟨⟨(i + 1, k, out ++ [x]), by simp only; omega, by simp only; omega, by simp only [List.length_append, List.length_singleton]; omega, by simp only [List.append_assoc, List.singleton_append]; rw [← hq, mgA2 hx hy p3]⟩, by simp only; omega, ?_⟩
          exact sub0 [2] rfl rfl (by decide) (.cons rfl rfl rfl rfl (les_refl (flat_noH _ _)) .nil) (by
              repeat' first | exact les_nil | refine les_cons ?_ ?_ | exact le_any | exact le_refl rfl | exact le_sl rfl rfl | exact le_sl rfl (by simp) | exact le_i (n := a.length) (by omega) (by omega) | exact le_i (n := b.length) (by omega) (by omega))
        · skip
          repeat' first | refine aw_seq ?_ | refine aw_region ?_ | refine aw_lex [] ?_ | (refine isA ?_; refine do_F rfl ?_) | (refine isL ?_; refine lex_F rfl (by kernel_rfl) rfl rfl ?_) | (refine isLg rfl ?_; refine lex_S rfl (by kernel_rfl) rfl rfl ?_) | (refine isAi (x := .tmp 51) ?_; refine do_R rfl (ia_l (t := rwT) (z := y) rfl rfl rfl rfl (Int.natCast_nonneg k) hy) rfl ?_) | (refine isLi (x := .tmp 51) rfl ?_; refine lex_R rfl (by kernel_rfl) rfl (ia_l (t := rwT) (z := y) rfl rfl rfl rfl (Int.natCast_nonneg k) hy) rfl ?_) | (refine isAp ?_; refine do_R rfl (ap_l (t := rwT) (xs := out) (ys := [y]) rfl rfl rfl rfl (src_of rfl rfl rfl rfl) (by simp; omega) rfl) rfl ?_) | (refine isLp rfl ?_; refine lex_R rfl (by kernel_rfl) rfl (ap_l (t := rwT) (xs := out) (ys := [y]) rfl rfl rfl rfl (src_of rfl rfl rfl rfl) (by simp; omega) rfl) rfl ?_) | refine aops_nil ?_ | refine lex_done _ rfl (by kernel_rfl) ?_ | refine aw_ct rfl ?_ | refine aw_cf rfl ?_ | refine aw_block ?_ | with_reducible refine then_n ?_ | refine aw_skip ?_ | refine aw_exit ?_ | (with_reducible first | refine then_x ?_ | refine then_r ?_ | refine block_x ?_ | refine block_n ?_ | refine block_r ?_) | refine aw_ret ?_
          refine ⟨⟨(i, k + 1, out ++ [y]), by simp only; omega, by simp only; omega, by simp only [List.length_append, List.length_singleton]; omega, by simp only [List.append_assoc, List.singleton_append]; rw [← hq, mgB1 hx hy p3]⟩, by simp only; omega, ?_⟩
          exact sub0 [2] rfl rfl (by decide) (.cons rfl rfl rfl rfl (les_refl (flat_noH _ _)) .nil) (by
              repeat' first | exact les_nil | refine les_cons ?_ ?_ | exact le_any | exact le_refl rfl | exact le_sl rfl rfl | exact le_sl rfl (by simp) | exact le_i (n := a.length) (by omega) (by omega) | exact le_i (n := b.length) (by omega) (by omega))
    · have q1 : a.length ≤ i := by have := of_decide_eq_false p1; simp only at this; omega
      repeat' first | refine aw_seq ?_ | refine aw_region ?_ | refine aw_lex [] ?_ | (refine isA ?_; refine do_F rfl ?_) | (refine isL ?_; refine lex_F rfl (by kernel_rfl) rfl rfl ?_) | (refine isLg rfl ?_; refine lex_S rfl (by kernel_rfl) rfl rfl ?_) | refine aops_nil ?_ | refine lex_done _ rfl (by kernel_rfl) ?_ | refine aw_ct rfl ?_ | refine aw_cf rfl ?_ | refine aw_block ?_ | with_reducible refine then_n ?_ | refine aw_skip ?_ | refine aw_exit ?_ | (with_reducible first | refine then_x ?_ | refine then_r ?_ | refine block_x ?_ | refine block_n ?_ | refine block_r ?_) | refine aw_ret ?_
      refine aw_cond rfl (fun p2 => ?_) (fun p2 => ?_)
      · have q2 : k < b.length := by have := of_decide_eq_true p2; simp only at this; omega
        obtain ⟨y, hy⟩ : ∃ z, b[k]? = some z := ⟨_, List.getElem?_eq_getElem q2⟩
        repeat' first | refine aw_seq ?_ | refine aw_region ?_ | refine aw_lex [] ?_ | (refine isA ?_; refine do_F rfl ?_) | (refine isL ?_; refine lex_F rfl (by kernel_rfl) rfl rfl ?_) | (refine isLg rfl ?_; refine lex_S rfl (by kernel_rfl) rfl rfl ?_) | refine aops_nil ?_ | refine lex_done _ rfl (by kernel_rfl) ?_ | refine aw_ct rfl ?_ | refine aw_cf rfl ?_ | refine aw_block ?_ | with_reducible refine then_n ?_ | refine aw_skip ?_ | refine aw_exit ?_ | (with_reducible first | refine then_x ?_ | refine then_r ?_ | refine block_x ?_ | refine block_n ?_ | refine block_r ?_) | refine aw_ret ?_
        refine lex_br rfl rfl rfl rfl (fun k => absurd (of_decide_eq_true k) (by simp only; omega)) (fun _ => ?_)
        repeat' first | refine aw_seq ?_ | refine aw_region ?_ | refine aw_lex [] ?_ | (refine isA ?_; refine do_F rfl ?_) | (refine isL ?_; refine lex_F rfl (by kernel_rfl) rfl rfl ?_) | (refine isLg rfl ?_; refine lex_S rfl (by kernel_rfl) rfl rfl ?_) | refine aops_nil ?_ | refine lex_done _ rfl (by kernel_rfl) ?_ | refine aw_ct rfl ?_ | refine aw_cf rfl ?_ | refine aw_block ?_ | with_reducible refine then_n ?_ | refine aw_skip ?_ | refine aw_exit ?_ | (with_reducible first | refine then_x ?_ | refine then_r ?_ | refine block_x ?_ | refine block_n ?_ | refine block_r ?_) | refine aw_ret ?_
        refine lex_br rfl rfl rfl rfl (fun k => absurd (of_decide_eq_true k) (by simp only; omega)) (fun _ => ?_)
        repeat' first | refine aw_seq ?_ | refine aw_region ?_ | refine aw_lex [] ?_ | (refine isA ?_; refine do_F rfl ?_) | (refine isL ?_; refine lex_F rfl (by kernel_rfl) rfl rfl ?_) | (refine isLg rfl ?_; refine lex_S rfl (by kernel_rfl) rfl rfl ?_) | (refine isAi (x := .tmp 51) ?_; refine do_R rfl (ia_l (t := rwT) (z := y) rfl rfl rfl rfl (Int.natCast_nonneg k) hy) rfl ?_) | (refine isLi (x := .tmp 51) rfl ?_; refine lex_R rfl (by kernel_rfl) rfl (ia_l (t := rwT) (z := y) rfl rfl rfl rfl (Int.natCast_nonneg k) hy) rfl ?_) | (refine isAp ?_; refine do_R rfl (ap_l (t := rwT) (xs := out) (ys := [y]) rfl rfl rfl rfl (src_of rfl rfl rfl rfl) (by simp; omega) rfl) rfl ?_) | (refine isLp rfl ?_; refine lex_R rfl (by kernel_rfl) rfl (ap_l (t := rwT) (xs := out) (ys := [y]) rfl rfl rfl rfl (src_of rfl rfl rfl rfl) (by simp; omega) rfl) rfl ?_) | refine aops_nil ?_ | refine lex_done _ rfl (by kernel_rfl) ?_ | refine aw_ct rfl ?_ | refine aw_cf rfl ?_ | refine aw_block ?_ | with_reducible refine then_n ?_ | refine aw_skip ?_ | refine aw_exit ?_ | (with_reducible first | refine then_x ?_ | refine then_r ?_ | refine block_x ?_ | refine block_n ?_ | refine block_r ?_) | refine aw_ret ?_
        refine ⟨⟨(i, k + 1, out ++ [y]), by simp only; omega, by simp only; omega, by simp only [List.length_append, List.length_singleton]; omega, by simp only [List.append_assoc, List.singleton_append]; rw [← hq, mgB2 hy q1]⟩, by simp only; omega, ?_⟩
        exact sub0 [2] rfl rfl (by decide) (.cons rfl rfl rfl rfl (les_refl (flat_noH _ _)) .nil) (by
            repeat' first | exact les_nil | refine les_cons ?_ ?_ | exact le_any | exact le_refl rfl | exact le_sl rfl rfl | exact le_sl rfl (by simp) | exact le_i (n := a.length) (by omega) (by omega) | exact le_i (n := b.length) (by omega) (by omega))
      · have q2 : b.length ≤ k := by have := of_decide_eq_false p2; simp only at this; omega
        rw [List.drop_of_length_le q1, List.drop_of_length_le q2, mg_nil, List.append_nil] at hq
        subst hq
        repeat' first | refine aw_seq ?_ | refine aw_region ?_ | refine aw_lex [] ?_ | (refine isA ?_; refine do_F rfl ?_) | (refine isL ?_; refine lex_F rfl (by kernel_rfl) rfl rfl ?_) | (refine isLg rfl ?_; refine lex_S rfl (by kernel_rfl) rfl rfl ?_) | exact finL (ty := rwT) rfl rfl rfl rfl rfl rfl (flat_rw _) | refine aops_nil ?_ | refine lex_done _ rfl (by kernel_rfl) ?_ | refine aw_ct rfl ?_ | refine aw_cf rfl ?_ | refine aw_block ?_ | with_reducible refine then_n ?_ | refine aw_skip ?_ | refine aw_exit ?_ | (with_reducible first | refine then_x ?_ | refine then_r ?_ | refine block_x ?_ | refine block_n ?_ | refine block_r ?_) | refine aw_ret ?_
theorem take_l (xs : List Rw) (k : Nat) : ((rwT.flat xs).drop (0 * 3)).take ((k - 0) * 3) = rwT.flat (xs.take k) := by
  rw [Nat.zero_mul, List.drop_zero, Nat.sub_zero, show k * 3 = k * rwT.n from rfl, flat_take]
theorem drop_l (xs : List Rw) (k : Nat) : ((rwT.flat xs).drop (k * 3)).take ((xs.length - k) * 3) = rwT.flat (xs.drop k) := by
  rw [show k * 3 = k * rwT.n from rfl, flat_drop, show (xs.length - k) * 3 = (xs.length - k) * rwT.n from rfl, flat_take, List.take_of_length_le (by simp)]
theorem st_takeL {o : Oper} {ρ : Operand → V} {H : List Reg} {x y : Operand} {xs : List Rw} {k : Nat} {kk : IntKind} (ho : o.op = .slice 24 x none (some y) none) (hx : ρ x = rwL xs) (hy : ρ y = .k (.int kk k)) (hk : k ≤ xs.length) : Step Go.Proofs.Try.prog o ρ H (rwL (xs.take k)) H := by
  have := step_slice_lst (P := Go.Proofs.Try.prog) (o := o) (ρ := ρ) (H := H) (l := 0) (h := k) ho hx (.no 0) (.yes _ hy) (flat_length rwT xs) (by omega) (by omega) (by omega)
  rw [Int.toNat_natCast, show Int.toNat 0 = 0 from rfl] at this
  rw [show rwL (xs.take k) = .lst (k - 0) (((rwT.flat xs).drop (0 * 3)).take ((k - 0) * 3)) by rw [take_l]; simp [lstOf]; omega]
  exact this
theorem st_dropL {o : Oper} {ρ : Operand → V} {H : List Reg} {x y : Operand} {xs : List Rw} {k : Nat} {j : Int} {kk : IntKind} (ho : o.op = .slice 24 x (some y) none none) (hx : ρ x = rwL xs) (hy : ρ y = .k (.int kk j)) (hj : j = (k : Int)) (hk : k ≤ xs.length) : Step Go.Proofs.Try.prog o ρ H (rwL (xs.drop k)) H := by
  subst hj
  have := step_slice_lst (P := Go.Proofs.Try.prog) (o := o) (ρ := ρ) (H := H) (l := k) (h := xs.length) ho hx (.yes _ hy) (.no _) (flat_length rwT xs) (by omega) (by omega) (by omega)
  rw [Int.toNat_natCast, Int.toNat_natCast] at this
  rw [show rwL (xs.drop k) = .lst (xs.length - k) (((rwT.flat xs).drop (k * 3)).take ((xs.length - k) * 3)) by rw [drop_l]; simp [lstOf]]
  exact this

theorem src_of2 {K : List Reg} {h : Nat} {e : TypeId} {c : List V} {xs : List Rw} (hr : K[h]? = some ⟨e, 3, c, 0⟩) (hc : c = rwT.flat xs) : Src K (.sl h 0 xs.length) xs.length (rwT.flat xs) := by
  subst hc
  have := Src.sl (H := K) (h := h) (off := 0) (m := xs.length) (r := ⟨e, 3, rwT.flat xs, 0⟩) hr (Nat.zero_le _) (by show (0 + xs.length) * 3 ≤ _; rw [flat_length]; show _ ≤ xs.length * 3; omega)
  have e2 : ((rwT.flat xs).drop (0 * 3)).take (xs.length * 3) = rwT.flat xs := by rw [Nat.zero_mul, List.drop_zero, List.take_of_length_le]; rw [flat_length]; exact Nat.le_refl _
  rw [show (((⟨e, 3, rwT.flat xs, 0⟩ : Reg).cells.drop (0 * (⟨e, 3, rwT.flat xs, 0⟩ : Reg).esz)).take (xs.length * (⟨e, 3, rwT.flat xs, 0⟩ : Reg).esz)) = rwT.flat xs from e2] at this
  exact this
theorem c_img (a b : List Rw) (h1 : a.length ≤ 100000000) (h2 : b.length ≤ 100000000) : Meets Go.Proofs.Try.prog 82 [rwL a, rwL b] [] (.sl 0 0 (mgV a b).length) [rwR (mgV a b)] false := by
  refine meets_of [4] Go.Proofs.Try.func82 rfl rfl ?_
  simp only [Go.Proofs.Try.ntmps82, List.length_cons, List.length_nil, Nat.reduceAdd, Nat.reduceSub, List.replicate_succ, List.replicate_zero, List.cons_append, List.nil_append]
  repeat' first | refine aw_seq ?_ | refine aw_region ?_ | refine aw_lex [] ?_ | (refine isA ?_; refine do_F rfl ?_) | (refine isL ?_; refine lex_F rfl (by kernel_rfl) rfl rfl ?_) | (refine isLg rfl ?_; refine lex_S rfl (by kernel_rfl) rfl rfl ?_) | refine aops_nil ?_ | refine lex_done _ rfl (by kernel_rfl) ?_ | refine aw_ct rfl ?_ | refine aw_cf rfl ?_ | refine aw_block ?_ | with_reducible refine then_n ?_ | refine aw_skip ?_ | refine aw_exit ?_ | (with_reducible first | refine then_x ?_ | refine then_r ?_ | refine block_x ?_ | refine block_n ?_ | refine block_r ?_) | refine aw_ret ?_
  refine aw_loop (α := { p : List Rw × List Rw × List Rw // p.2.2.length + p.1.length + p.2.1.length = a.length + b.length ∧ p.2.2 ++ mgV p.1 p.2.1 = mgV a b }) (fun p => ⟨[rwL p.1.1, rwL p.1.2.1, .any, .any, .any, .sl 0 0 p.1.2.2.length, .any, .any, .any, .any, .any, .any, .any, .any, .any, .any, .any, .any, .any, .any, .any, .any, .any, .any, .any, .any, .any, .any, .any, .any, .any, .any, .any, .any, .any, .any, .any, .any, .any, .any, .any, .any, .any, .any, .any, .any, .any, .any, .any, .any], [rwR p.1.2.2], 0⟩) (fun p => p.1.1.length + p.1.2.1.length) ⟨(a, b, []), by simp, rfl⟩ ?_ ?_
  · exact sub0 [0] rfl rfl (by decide) (.cons rfl rfl rfl rfl (les_refl (flat_noH _ _)) .nil) (by repeat' first | exact les_nil | refine les_cons ?_ ?_ | exact le_any | exact le_refl rfl | exact le_sl rfl rfl | exact le_ptr rfl)
  · rintro ⟨⟨c, d, out⟩, ho, hq⟩
    simp only at ho hq
    repeat' first | refine aw_seq ?_ | refine aw_region ?_ | refine aw_lex [] ?_ | (refine isA ?_; refine do_F rfl ?_) | (refine isL ?_; refine lex_F rfl (by kernel_rfl) rfl rfl ?_) | (refine isLg rfl ?_; refine lex_S rfl (by kernel_rfl) rfl rfl ?_) | refine aops_nil ?_ | refine lex_done _ rfl (by kernel_rfl) ?_ | refine aw_ct rfl ?_ | refine aw_cf rfl ?_ | refine aw_block ?_ | with_reducible refine then_n ?_ | refine aw_skip ?_ | refine aw_exit ?_ | (with_reducible first | refine then_x ?_ | refine then_r ?_ | refine block_x ?_ | refine block_n ?_ | refine block_r ?_) | refine aw_ret ?_
    refine do_br rfl rfl (fun p1 => ?_) (fun p1 => ?_)
    · have q1 : 1 ≤ c.length := by have := of_decide_eq_true p1; simp only at this; omega
      obtain ⟨x, hx⟩ : ∃ z, c[0]? = some z := ⟨_, List.getElem?_eq_getElem q1⟩
      repeat' first | refine aw_seq ?_ | refine aw_region ?_ | refine aw_lex [] ?_ | (refine isA ?_; refine do_F rfl ?_) | (refine isL ?_; refine lex_F rfl (by kernel_rfl) rfl rfl ?_) | (refine isLg rfl ?_; refine lex_S rfl (by kernel_rfl) rfl rfl ?_) | refine aops_nil ?_ | refine lex_done _ rfl (by kernel_rfl) ?_ | refine aw_ct rfl ?_ | refine aw_cf rfl ?_ | refine aw_block ?_ | with_reducible refine then_n ?_ | refine aw_skip ?_ | refine aw_exit ?_ | (with_reducible first | refine then_x ?_ | refine then_r ?_ | refine block_x ?_ | refine block_n ?_ | refine block_r ?_) | refine aw_ret ?_
      refine lex_br rfl rfl rfl rfl (fun p2 => ?_) (fun p2 => ?_)
      · have q2 : d.length ≤ 0 := by have := of_decide_eq_true p2; simp only at this; omega
        have e : mgV c d = x :: mgV (c.drop 1) d := mgA1 (i := 0) (k := 0) hx q2
        repeat' first | refine aw_seq ?_ | refine aw_region ?_ | refine aw_lex [] ?_ | (refine isA ?_; refine do_F rfl ?_) | (refine isL ?_; refine lex_F rfl (by kernel_rfl) rfl rfl ?_) | (refine isLg rfl ?_; refine lex_S rfl (by kernel_rfl) rfl rfl ?_) | (refine isAi (x := .tmp 34) ?_; refine do_R rfl (ia_l (t := rwT) (z := x) rfl rfl rfl rfl (Int.le_refl 0) hx) rfl ?_) | (refine isLi (x := .tmp 34) rfl ?_; refine lex_R rfl (by kernel_rfl) rfl (ia_l (t := rwT) (z := x) rfl rfl rfl rfl (Int.le_refl 0) hx) rfl ?_) | (refine isAp ?_; refine do_R rfl (ap_l (t := rwT) (xs := out) (ys := [x]) rfl rfl rfl rfl (src_of rfl rfl rfl rfl) (by simp; omega) rfl) rfl ?_) | (refine isLp rfl ?_; refine lex_R rfl (by kernel_rfl) rfl (ap_l (t := rwT) (xs := out) (ys := [x]) rfl rfl rfl rfl (src_of rfl rfl rfl rfl) (by simp; omega) rfl) rfl ?_) | (refine isAx ?_; refine do_R rfl (st_dropL (k := 1) rfl rfl rfl rfl q1) rfl ?_) | (refine isLx rfl ?_; refine lex_R rfl (by kernel_rfl) rfl (st_dropL (k := 1) rfl rfl rfl rfl q1) rfl ?_) | refine aops_nil ?_ | refine lex_done _ rfl (by kernel_rfl) ?_ | refine aw_ct rfl ?_ | refine aw_cf rfl ?_ | refine aw_block ?_ | with_reducible refine then_n ?_ | refine aw_skip ?_ | refine aw_exit ?_ | (with_reducible first | refine then_x ?_ | refine then_r ?_ | refine block_x ?_ | refine block_n ?_ | refine block_r ?_) | refine aw_ret ?_
        refine ⟨⟨(c.drop 1, d, out ++ [x]), by simp only [List.length_append, List.length_singleton, List.length_drop]; omega, by simp only [List.append_assoc, List.singleton_append]; rw [← hq, e]⟩, by simp only [List.length_drop]; omega, ?_⟩
        exact sub0 [2] rfl rfl (by decide) (.cons rfl rfl rfl rfl (les_refl (flat_noH _ _)) .nil) (by
            repeat' first | exact les_nil | refine les_cons ?_ ?_ | exact le_any | exact le_refl rfl | exact le_sl rfl rfl | exact le_sl rfl (by simp))
      · have q2 : 1 ≤ d.length := by have := of_decide_eq_false p2; simp only at this; omega
        obtain ⟨y, hy⟩ : ∃ z, d[0]? = some z := ⟨_, List.getElem?_eq_getElem q2⟩
        repeat' first | refine aw_seq ?_ | refine aw_region ?_ | refine aw_lex [] ?_ | (refine isA ?_; refine do_F rfl ?_) | (refine isL ?_; refine lex_F rfl (by kernel_rfl) rfl rfl ?_) | (refine isLg rfl ?_; refine lex_S rfl (by kernel_rfl) rfl rfl ?_) | refine aops_nil ?_ | refine lex_done _ rfl (by kernel_rfl) ?_ | refine aw_ct rfl ?_ | refine aw_cf rfl ?_ | refine aw_block ?_ | with_reducible refine then_n ?_ | refine aw_skip ?_ | refine aw_exit ?_ | (with_reducible first | refine then_x ?_ | refine then_r ?_ | refine block_x ?_ | refine block_n ?_ | refine block_r ?_) | refine aw_ret ?_
        refine lex_br rfl rfl rfl rfl (fun _ => ?_) (fun k => absurd (of_decide_eq_false k) (by simp only; omega))
        repeat' first | refine aw_seq ?_ | refine aw_region ?_ | refine aw_lex [] ?_ | (refine isA ?_; refine do_F rfl ?_) | (refine isL ?_; refine lex_F rfl (by kernel_rfl) rfl rfl ?_) | (refine isLg rfl ?_; refine lex_S rfl (by kernel_rfl) rfl rfl ?_) | (refine isAi (x := .tmp 23) ?_; refine do_R rfl (ia_l (t := rwT) (z := x) rfl rfl rfl rfl (Int.le_refl 0) hx) rfl ?_) | (refine isLi (x := .tmp 23) rfl ?_; refine lex_R rfl (by kernel_rfl) rfl (ia_l (t := rwT) (z := x) rfl rfl rfl rfl (Int.le_refl 0) hx) rfl ?_) | (refine isAi (x := .tmp 26) ?_; refine do_R rfl (ia_l (t := rwT) (z := y) rfl rfl rfl rfl (Int.le_refl 0) hy) rfl ?_) | (refine isLi (x := .tmp 26) rfl ?_; refine lex_R rfl (by kernel_rfl) rfl (ia_l (t := rwT) (z := y) rfl rfl rfl rfl (Int.le_refl 0) hy) rfl ?_) | (refine isAc 64 ?_; refine do_R rfl (st_call rfl (c_icmp x y) (.cons (.same rfl) (.cons (.same rfl) .nil)) rfl) rfl ?_) | (refine isLc 64 rfl ?_; refine lex_R rfl (by kernel_rfl) rfl (st_call rfl (c_icmp x y) (.cons (.same rfl) (.cons (.same rfl) .nil)) rfl) rfl ?_) | refine aops_nil ?_ | refine lex_done _ rfl (by kernel_rfl) ?_ | refine aw_ct rfl ?_ | refine aw_cf rfl ?_ | refine aw_block ?_ | with_reducible refine then_n ?_ | refine aw_skip ?_ | refine aw_exit ?_ | (with_reducible first | refine then_x ?_ | refine then_r ?_ | refine block_x ?_ | refine block_n ?_ | refine block_r ?_) | refine aw_ret ?_
        refine aw_cond rfl (fun p3 => ?_) (fun p3 => ?_)
        · skip
          have e : mgV c d = x :: mgV (c.drop 1) d := mgA2 (i := 0) (k := 0) hx hy p3
          repeat' first | refine aw_seq ?_ | refine aw_region ?_ | refine aw_lex [] ?_ | (refine isA ?_; refine do_F rfl ?_) | (refine isL ?_; refine lex_F rfl (by kernel_rfl) rfl rfl ?_) | (refine isLg rfl ?_; refine lex_S rfl (by kernel_rfl) rfl rfl ?_) | (refine isAi (x := .tmp 34) ?_; refine do_R rfl (ia_l (t := rwT) (z := x) rfl rfl rfl rfl (Int.le_refl 0) hx) rfl ?_) | (refine isLi (x := .tmp 34) rfl ?_; refine lex_R rfl (by kernel_rfl) rfl (ia_l (t := rwT) (z := x) rfl rfl rfl rfl (Int.le_refl 0) hx) rfl ?_) | (refine isAp ?_; refine do_R rfl (ap_l (t := rwT) (xs := out) (ys := [x]) rfl rfl rfl rfl (src_of rfl rfl rfl rfl) (by simp; omega) rfl) rfl ?_) | (refine isLp rfl ?_; refine lex_R rfl (by kernel_rfl) rfl (ap_l (t := rwT) (xs := out) (ys := [x]) rfl rfl rfl rfl (src_of rfl rfl rfl rfl) (by simp; omega) rfl) rfl ?_) | (refine isAx ?_; refine do_R rfl (st_dropL (k := 1) rfl rfl rfl rfl q1) rfl ?_) | (refine isLx rfl ?_; refine lex_R rfl (by kernel_rfl) rfl (st_dropL (k := 1) rfl rfl rfl rfl q1) rfl ?_) | refine aops_nil ?_ | refine lex_done _ rfl (by kernel_rfl) ?_ | refine aw_ct rfl ?_ | refine aw_cf rfl ?_ | refine aw_block ?_ | with_reducible refine then_n ?_ | refine aw_skip ?_ | refine aw_exit ?_ | (with_reducible first | refine then_x ?_ | refine then_r ?_ | refine block_x ?_ | refine block_n ?_ | refine block_r ?_) | refine aw_ret ?_
          refine ⟨⟨(c.drop 1, d, out ++ [x]), by simp only [List.length_append, List.length_singleton, List.length_drop]; omega, by simp only [List.append_assoc, List.singleton_append]; rw [← hq, e]⟩, by simp only [List.length_drop]; omega, ?_⟩
          exact sub0 [2] rfl rfl (by decide) (.cons rfl rfl rfl rfl (les_refl (flat_noH _ _)) .nil) (by
              repeat' first | exact les_nil | refine les_cons ?_ ?_ | exact le_any | exact le_refl rfl | exact le_sl rfl rfl | exact le_sl rfl (by simp))
        · skip
          have e : mgV c d = y :: mgV c (d.drop 1) := mgB1 (i := 0) (k := 0) hx hy p3
          repeat' first | refine aw_seq ?_ | refine aw_region ?_ | refine aw_lex [] ?_ | (refine isA ?_; refine do_F rfl ?_) | (refine isL ?_; refine lex_F rfl (by kernel_rfl) rfl rfl ?_) | (refine isLg rfl ?_; refine lex_S rfl (by kernel_rfl) rfl rfl ?_) | (refine isAi (x := .tmp 42) ?_; refine do_R rfl (ia_l (t := rwT) (z := y) rfl rfl rfl rfl (Int.le_refl 0) hy) rfl ?_) | (refine isLi (x := .tmp 42) rfl ?_; refine lex_R rfl (by kernel_rfl) rfl (ia_l (t := rwT) (z := y) rfl rfl rfl rfl (Int.le_refl 0) hy) rfl ?_) | (refine isAp ?_; refine do_R rfl (ap_l (t := rwT) (xs := out) (ys := [y]) rfl rfl rfl rfl (src_of rfl rfl rfl rfl) (by simp; omega) rfl) rfl ?_) | (refine isLp rfl ?_; refine lex_R rfl (by kernel_rfl) rfl (ap_l (t := rwT) (xs := out) (ys := [y]) rfl rfl rfl rfl (src_of rfl rfl rfl rfl) (by simp; omega) rfl) rfl ?_) | (refine isAx ?_; refine do_R rfl (st_dropL (k := 1) rfl rfl rfl rfl q2) rfl ?_) | (refine isLx rfl ?_; refine lex_R rfl (by kernel_rfl) rfl (st_dropL (k := 1) rfl rfl rfl rfl q2) rfl ?_) | refine aops_nil ?_ | refine lex_done _ rfl (by kernel_rfl) ?_ | refine aw_ct rfl ?_ | refine aw_cf rfl ?_ | refine aw_block ?_ | with_reducible refine then_n ?_ | refine aw_skip ?_ | refine aw_exit ?_ | (with_reducible first | refine then_x ?_ | refine then_r ?_ | refine block_x ?_ | refine block_n ?_ | refine block_r ?_) | refine aw_ret ?_
          refine ⟨⟨(c, d.drop 1, out ++ [y]), by simp only [List.length_append, List.length_singleton, List.length_drop]; omega, by simp only [List.append_assoc, List.singleton_append]; rw [← hq, e]⟩, by simp only [List.length_drop]; omega, ?_⟩
          exact sub0 [2] rfl rfl (by decide) (.cons rfl rfl rfl rfl (les_refl (flat_noH _ _)) .nil) (by
              repeat' first | exact les_nil | refine les_cons ?_ ?_ | exact le_any | exact le_refl rfl | exact le_sl rfl rfl | exact le_sl rfl (by simp))
    · have q1 : c.length ≤ 0 := by have := of_decide_eq_false p1; simp only at this; omega
      repeat' first | refine aw_seq ?_ | refine aw_region ?_ | refine aw_lex [] ?_ | (refine isA ?_; refine do_F rfl ?_) | (refine isL ?_; refine lex_F rfl (by kernel_rfl) rfl rfl ?_) | (refine isLg rfl ?_; refine lex_S rfl (by kernel_rfl) rfl rfl ?_) | refine aops_nil ?_ | refine lex_done _ rfl (by kernel_rfl) ?_ | refine aw_ct rfl ?_ | refine aw_cf rfl ?_ | refine aw_block ?_ | with_reducible refine then_n ?_ | refine aw_skip ?_ | refine aw_exit ?_ | (with_reducible first | refine then_x ?_ | refine then_r ?_ | refine block_x ?_ | refine block_n ?_ | refine block_r ?_) | refine aw_ret ?_
      refine aw_cond rfl (fun p2 => ?_) (fun p2 => ?_)
      · have q2 : 1 ≤ d.length := by have := of_decide_eq_true p2; simp only at this; omega
        obtain ⟨y, hy⟩ : ∃ z, d[0]? = some z := ⟨_, List.getElem?_eq_getElem q2⟩
        repeat' first | refine aw_seq ?_ | refine aw_region ?_ | refine aw_lex [] ?_ | (refine isA ?_; refine do_F rfl ?_) | (refine isL ?_; refine lex_F rfl (by kernel_rfl) rfl rfl ?_) | (refine isLg rfl ?_; refine lex_S rfl (by kernel_rfl) rfl rfl ?_) | refine aops_nil ?_ | refine lex_done _ rfl (by kernel_rfl) ?_ | refine aw_ct rfl ?_ | refine aw_cf rfl ?_ | refine aw_block ?_ | with_reducible refine then_n ?_ | refine aw_skip ?_ | refine aw_exit ?_ | (with_reducible first | refine then_x ?_ | refine then_r ?_ | refine block_x ?_ | refine block_n ?_ | refine block_r ?_) | refine aw_ret ?_
        refine lex_br rfl rfl rfl rfl (fun k => absurd (of_decide_eq_true k) (by simp only; omega)) (fun _ => ?_)
        repeat' first | refine aw_seq ?_ | refine aw_region ?_ | refine aw_lex [] ?_ | (refine isA ?_; refine do_F rfl ?_) | (refine isL ?_; refine lex_F rfl (by kernel_rfl) rfl rfl ?_) | (refine isLg rfl ?_; refine lex_S rfl (by kernel_rfl) rfl rfl ?_) | refine aops_nil ?_ | refine lex_done _ rfl (by kernel_rfl) ?_ | refine aw_ct rfl ?_ | refine aw_cf rfl ?_ | refine aw_block ?_ | with_reducible refine then_n ?_ | refine aw_skip ?_ | refine aw_exit ?_ | (with_reducible first | refine then_x ?_ | refine then_r ?_ | refine block_x ?_ | refine block_n ?_ | refine block_r ?_) | refine aw_ret ?_
        refine lex_br rfl rfl rfl rfl (fun k => absurd (of_decide_eq_true k) (by simp only; omega)) (fun _ => ?_)
        have e : mgV c d = y :: mgV c (d.drop 1) := mgB2 (i := 0) (k := 0) hy q1
        repeat' first | refine aw_seq ?_ | refine aw_region ?_ | refine aw_lex [] ?_ | (refine isA ?_; refine do_F rfl ?_) | (refine isL ?_; refine lex_F rfl (by kernel_rfl) rfl rfl ?_) | (refine isLg rfl ?_; refine lex_S rfl (by kernel_rfl) rfl rfl ?_) | (refine isAi (x := .tmp 42) ?_; refine do_R rfl (ia_l (t := rwT) (z := y) rfl rfl rfl rfl (Int.le_refl 0) hy) rfl ?_) | (refine isLi (x := .tmp 42) rfl ?_; refine lex_R rfl (by kernel_rfl) rfl (ia_l (t := rwT) (z := y) rfl rfl rfl rfl (Int.le_refl 0) hy) rfl ?_) | (refine isAp ?_; refine do_R rfl (ap_l (t := rwT) (xs := out) (ys := [y]) rfl rfl rfl rfl (src_of rfl rfl rfl rfl) (by simp; omega) rfl) rfl ?_) | (refine isLp rfl ?_; refine lex_R rfl (by kernel_rfl) rfl (ap_l (t := rwT) (xs := out) (ys := [y]) rfl rfl rfl rfl (src_of rfl rfl rfl rfl) (by simp; omega) rfl) rfl ?_) | (refine isAx ?_; refine do_R rfl (st_dropL (k := 1) rfl rfl rfl rfl q2) rfl ?_) | (refine isLx rfl ?_; refine lex_R rfl (by kernel_rfl) rfl (st_dropL (k := 1) rfl rfl rfl rfl q2) rfl ?_) | refine aops_nil ?_ | refine lex_done _ rfl (by kernel_rfl) ?_ | refine aw_ct rfl ?_ | refine aw_cf rfl ?_ | refine aw_block ?_ | with_reducible refine then_n ?_ | refine aw_skip ?_ | refine aw_exit ?_ | (with_reducible first | refine then_x ?_ | refine then_r ?_ | refine block_x ?_ | refine block_n ?_ | refine block_r ?_) | refine aw_ret ?_
        refine ⟨⟨(c, d.drop 1, out ++ [y]), by simp only [List.length_append, List.length_singleton, List.length_drop]; omega, by simp only [List.append_assoc, List.singleton_append]; rw [← hq, e]⟩, by simp only [List.length_drop]; omega, ?_⟩
        exact sub0 [2] rfl rfl (by decide) (.cons rfl rfl rfl rfl (les_refl (flat_noH _ _)) .nil) (by
            repeat' first | exact les_nil | refine les_cons ?_ ?_ | exact le_any | exact le_refl rfl | exact le_sl rfl rfl | exact le_sl rfl (by simp))
      · have q2 : d.length ≤ 0 := by have := of_decide_eq_false p2; simp only at this; omega
        have c0 : c = [] := List.eq_nil_of_length_eq_zero (by omega)
        have d0 : d = [] := List.eq_nil_of_length_eq_zero (by omega)
        subst c0 d0
        rw [mg_nil, List.append_nil] at hq
        subst hq
        repeat' first | refine aw_seq ?_ | refine aw_region ?_ | refine aw_lex [] ?_ | (refine isA ?_; refine do_F rfl ?_) | (refine isL ?_; refine lex_F rfl (by kernel_rfl) rfl rfl ?_) | (refine isLg rfl ?_; refine lex_S rfl (by kernel_rfl) rfl rfl ?_) | exact finL (ty := rwT) rfl rfl rfl rfl rfl rfl (flat_rw _) | refine aops_nil ?_ | refine lex_done _ rfl (by kernel_rfl) ?_ | refine aw_ct rfl ?_ | refine aw_cf rfl ?_ | refine aw_block ?_ | with_reducible refine then_n ?_ | refine aw_skip ?_ | refine aw_exit ?_ | (with_reducible first | refine then_x ?_ | refine then_r ?_ | refine block_x ?_ | refine block_n ?_ | refine block_r ?_) | refine aw_ret ?_
end Go.Proofs.Ytojcojanokhnaaa.Ab

/- StA -/
namespace Go.Proofs.Ytojcojanokhnaaa.Ab
open Go.RowKit

theorem cmp_le {x y : Rw} : cmpV x y ≤ 0 ↔ x.a < y.a ∨ (x.a = y.a ∧ (x.b < y.b ∨ (x.b = y.b ∧ x.c ≤ y.c))) := by
  unfold cmpV rwN
  simp only [cmpL]
  rcases Int.lt_trichotomy x.a y.a with h | h | h
  · rw [decide_eq_true h]; simp only [cond_true]; constructor
    · intro _; exact Or.inl h
    · intro _; omega
  · rw [decide_eq_false (show ¬ x.a < y.a by omega), decide_eq_false (show ¬ y.a < x.a by omega)]
    simp only [cond_false]
    rcases Int.lt_trichotomy x.b y.b with k | k | k
    · rw [decide_eq_true k]; simp only [cond_true]; omega
    · rw [decide_eq_false (show ¬ x.b < y.b by omega), decide_eq_false (show ¬ y.b < x.b by omega)]
      simp only [cond_false]
      rcases Int.lt_trichotomy x.c y.c with m | m | m
      · rw [decide_eq_true m]; simp only [cond_true]; omega
      · rw [decide_eq_false (show ¬ x.c < y.c by omega), decide_eq_false (show ¬ y.c < x.c by omega)]
        simp only [cond_false]; omega
      · rw [decide_eq_false (show ¬ x.c < y.c by omega), decide_eq_true m]
        simp only [cond_false, cond_true]; omega
    · rw [decide_eq_false (show ¬ x.b < y.b by omega), decide_eq_true k]
      simp only [cond_false, cond_true]; omega
  · rw [decide_eq_false (show ¬ x.a < y.a by omega), decide_eq_true h]
    simp only [cond_false, cond_true]; omega
/-- x stands not behind y. -/
def leW (x y : Rw) : Prop := cmpV x y ≤ 0
theorem leW_refl (x : Rw) : leW x x := cmp_le.2 (by omega)
theorem leW_trans {x y z : Rw} (h : leW x y) (k : leW y z) : leW x z := cmp_le.2 (by have := cmp_le.1 h; have := cmp_le.1 k; omega)
theorem leW_total (x y : Rw) : leW x y ∨ leW y x := by
  rcases Int.lt_or_le 0 (cmpV x y) with h | h
  · right
    have : ¬ cmpV x y ≤ 0 := by omega
    rw [cmp_le] at this
    exact cmp_le.2 (by omega)
  · exact Or.inl h
theorem leW_anti {x y : Rw} (h : leW x y) (k : leW y x) : x = y := by
  have h1 := cmp_le.1 h
  have h2 := cmp_le.1 k
  cases x; cases y
  simp only at h1 h2
  congr <;> omega
theorem leW_not {x y : Rw} (h : ¬ leW x y) : leW y x := (leW_total x y).resolve_left h
theorem leW_gt {x y : Rw} (h : 0 < cmpV x y) : leW y x := leW_not (fun k => by have : cmpV x y ≤ 0 := k; omega)
theorem cmp_neg {x y : Rw} : cmpV x y < 0 ↔ ¬ leW y x := by
  have a1 := @cmp_le x y
  have a2 := @cmp_le y x
  constructor
  · intro h k
    have e := leW_anti (show leW x y from by show cmpV x y ≤ 0; omega) k
    subst e
    have : cmpV x x = 0 := by unfold cmpV rwN; simp [cmpL]
    omega
  · intro h
    have h1 : ¬ cmpV y x ≤ 0 := h
    rcases Int.lt_or_le (cmpV x y) 0 with q | q
    · exact q
    · exfalso
      have hx : leW x y := leW_not h
      have e : cmpV x y = 0 := by have : cmpV x y ≤ 0 := hx; omega
      unfold cmpV rwN at e
      simp only [cmpL] at e
      have h2 := mt a2.2 h1
      have h3 := a1.1 hx
      rcases Int.lt_trichotomy x.a y.a with m | m | m
      · rw [decide_eq_true m] at e; cases e
      · rw [decide_eq_false (show ¬ x.a < y.a by omega), decide_eq_false (show ¬ y.a < x.a by omega)] at e
        simp only [cond_false] at e
        rcases Int.lt_trichotomy x.b y.b with m2 | m2 | m2
        · rw [decide_eq_true m2] at e; cases e
        · rw [decide_eq_false (show ¬ x.b < y.b by omega), decide_eq_false (show ¬ y.b < x.b by omega)] at e
          simp only [cond_false] at e
          have m3 : x.c < y.c := by omega
          rw [decide_eq_true m3] at e; cases e
        · omega
      · omega

/-- Lists in order. -/
def Srt (xs : List Rw) : Prop := xs.Pairwise leW
/-- What lies in order and bears the same is the same. -/
theorem srt_unique : ∀ {xs ys : List Rw}, Srt xs → Srt ys → xs.Perm ys → xs = ys
  | [], ys, _, _, hp => by rw [List.Perm.nil_eq hp]
  | x :: xs, [], _, _, hp => by cases hp.length_eq
  | x :: xs, y :: ys, hx, hy, hp => by
    have hx' := List.pairwise_cons.1 hx
    have hy' := List.pairwise_cons.1 hy
    have e : x = y := by
      have m1 : y ∈ x :: xs := hp.symm.mem_iff.1 (List.mem_cons_self ..)
      have m2 : x ∈ y :: ys := hp.mem_iff.1 (List.mem_cons_self ..)
      rcases List.mem_cons.1 m1 with h | h
      · exact h.symm
      · rcases List.mem_cons.1 m2 with k | k
        · exact k
        · exact leW_anti (hx'.1 y h) (hy'.1 x k)
    subst e
    rw [srt_unique hx'.2 hy'.2 (List.Perm.cons_inv hp)]

/-! ### Sorted by insertion -/
def insV (x : Rw) : List Rw → List Rw
  | [] => [x]
  | y :: ys => cond (decide (cmpV y x ≤ 0)) (y :: insV x ys) (x :: y :: ys)
def srtV (xs : List Rw) : List Rw := xs.foldl (fun o x => insV x o) []
theorem ins_perm (x : Rw) : ∀ ys : List Rw, (insV x ys).Perm (x :: ys)
  | [] => .refl _
  | y :: ys => by
    rw [insV]
    cases decide (cmpV y x ≤ 0) with
    | true => exact ((ins_perm x ys).cons y).trans (.swap _ _ _)
    | false => exact .refl _
theorem ins_srt (x : Rw) : ∀ {ys : List Rw}, Srt ys → Srt (insV x ys)
  | [], _ => List.pairwise_singleton _ _
  | y :: ys, h => by
    have h' := List.pairwise_cons.1 h
    rw [insV]
    cases hd : decide (cmpV y x ≤ 0) with
    | true =>
      refine List.pairwise_cons.2 ⟨fun z hz => ?_, ins_srt x h'.2⟩
      rcases List.mem_cons.1 ((ins_perm x ys).mem_iff.1 hz) with rfl | hz
      · exact (show cmpV y _ ≤ 0 from of_decide_eq_true hd)
      · exact h'.1 z hz
    | false =>
      have hle : leW x y := leW_not (show ¬ cmpV y x ≤ 0 from of_decide_eq_false hd)
      refine List.pairwise_cons.2 ⟨fun z hz => ?_, h⟩
      rcases List.mem_cons.1 hz with rfl | hz
      · exact hle
      · exact leW_trans hle (h'.1 z hz)
theorem srtV_snoc (xs : List Rw) (x : Rw) : srtV (xs ++ [x]) = insV x (srtV xs) := by simp [srtV]
theorem fold_ok : ∀ (xs o : List Rw), Srt o → Srt (xs.foldl (fun o x => insV x o) o) ∧ (xs.foldl (fun o x => insV x o) o).Perm (o ++ xs)
  | [], o, h => ⟨h, by simp⟩
  | x :: xs, o, h => by
    obtain ⟨q1, q2⟩ := fold_ok xs (insV x o) (ins_srt x h)
    refine ⟨q1, q2.trans ?_⟩
    refine ((ins_perm x o).append_right xs).trans ?_
    exact List.perm_middle.symm
theorem srtV_srt (xs : List Rw) : Srt (srtV xs) := (fold_ok xs [] List.Pairwise.nil).1
theorem srtV_perm (xs : List Rw) : (srtV xs).Perm xs := by
  have h := (fold_ok xs [] List.Pairwise.nil).2
  rw [List.nil_append] at h
  exact h
theorem srtV_of {xs ys : List Rw} (h : Srt ys) (hp : ys.Perm xs) : ys = srtV xs := srt_unique h (srtV_srt xs) (hp.trans (srtV_perm xs).symm)
theorem srtV_len (xs : List Rw) : (srtV xs).length = xs.length := (srtV_perm xs).length_eq
end Go.Proofs.Ytojcojanokhnaaa.Ab

/- StB -/
namespace Go.Proofs.Ytojcojanokhnaaa.Ab
open Go.RowKit

theorem srt_le {xs : List Rw} (h : Srt xs) {i j : Nat} {x y : Rw} (hij : i ≤ j) (hx : xs[i]? = some x) (hy : xs[j]? = some y) : leW x y := by
  rcases Nat.lt_or_eq_of_le hij with hlt | rfl
  · obtain ⟨h1, rfl⟩ := List.getElem?_eq_some_iff.1 hx
    obtain ⟨h2, rfl⟩ := List.getElem?_eq_some_iff.1 hy
    exact List.pairwise_iff_getElem.1 h i j h1 h2 hlt
  · rw [hx] at hy
    cases hy
    exact leW_refl _
theorem ins_at {out : List Rw} {x : Rw} {k : Nat} (hs : Srt out) (hk : k ≤ out.length) (hB : ∀ j z, k ≤ j → out[j]? = some z → ¬ leW z x) (hA : ∀ z, 0 < k → out[k - 1]? = some z → leW z x) : out.take k ++ x :: out.drop k = insV x out := by
  have hA' : ∀ z ∈ out.take k, leW z x := fun z hz => by
    obtain ⟨j, hj⟩ := List.getElem?_of_mem hz
    have hlt : j < k := by
      have := (List.getElem?_eq_some_iff.1 hj).1
      simp at this
      omega
    rw [List.getElem?_take_of_lt hlt] at hj
    obtain ⟨y, hy⟩ : ∃ y, out[k - 1]? = some y := ⟨_, List.getElem?_eq_getElem (by omega)⟩
    exact leW_trans (srt_le hs (show j ≤ k - 1 by omega) hj hy) (hA y (by omega) hy)
  have hB' : ∀ z ∈ out.drop k, leW x z := fun z hz => by
    obtain ⟨j, hj⟩ := List.getElem?_of_mem hz
    rw [List.getElem?_drop] at hj
    exact leW_not (hB (k + j) z (by omega) hj)
  refine srt_unique ?_ (ins_srt x hs) ?_
  · have hs' : Srt (out.take k ++ out.drop k) := by rw [List.take_append_drop]; exact hs
    obtain ⟨q1, q2, q3⟩ := List.pairwise_append.1 hs'
    refine List.pairwise_append.2 ⟨q1, List.pairwise_cons.2 ⟨hB', q2⟩, fun a ha c hc => ?_⟩
    rcases List.mem_cons.1 hc with rfl | hc
    · exact hA' a ha
    · exact q3 a ha c hc
  · refine List.perm_middle.trans ?_
    rw [List.take_append_drop]
    exact (ins_perm x out).symm

theorem src_sub {H : List Reg} {h k off m : Nat} {xs : List Rw} (hH : H[h]? = some (rwR xs)) (hk : k ≤ xs.length) (ho : off = k) (hm : m = xs.length - k) : Src H (.sl h off m) (xs.drop k).length (rwT.flat (xs.drop k)) := by
  subst ho hm
  have q := Src.sl (H := H) (h := h) (off := off) (m := xs.length - off) hH (Nat.zero_le _) (by show (off + (xs.length - off)) * 3 ≤ (rwT.flat xs).length; rw [flat_length]; show _ ≤ xs.length * 3; omega)
  have e : ((rwR xs).cells.drop (off * (rwR xs).esz)).take ((xs.length - off) * (rwR xs).esz) = rwT.flat (xs.drop off) := drop_l xs off
  rw [e] at q
  rw [List.length_drop]
  exact q
theorem src_pre {H : List Reg} {h k off m : Nat} {xs : List Rw} (hH : H[h]? = some (rwR xs)) (hk : k ≤ xs.length) (ho : off = 0) (hm : m = k) : Src H (.sl h off m) (xs.take k).length (rwT.flat (xs.take k)) := by
  subst ho hm
  have q := Src.sl (H := H) (h := h) (off := 0) (m := m) hH (Nat.zero_le _) (by show (0 + m) * 3 ≤ (rwT.flat xs).length; rw [flat_length]; show _ ≤ xs.length * 3; omega)
  have e : ((rwR xs).cells.drop (0 * (rwR xs).esz)).take (m * (rwR xs).esz) = rwT.flat (xs.take m) := take_l xs m
  rw [e] at q
  rw [List.length_take, Nat.min_eq_left hk]
  exact q

theorem src_all {H : List Reg} {h : Nat} {xs : List Rw} (hH : H[h]? = some (rwR xs)) : Src H (.sl h 0 xs.length) xs.length (rwT.flat xs) := by
  have q := src_pre (k := xs.length) hH (Nat.le_refl _) rfl rfl
  rw [List.take_length] at q
  exact q

theorem c_ssort (xs : List Rw) (hl : xs.length ≤ 100000000) : Meets Go.Proofs.Try.prog 28 [rwL xs] [] (.sl 0 0 (srtV xs).length) [rwR (srtV xs)] false := by
  refine meets_of [2] Go.Proofs.Try.func28 rfl rfl ?_
  simp only [Go.Proofs.Try.ntmps28, List.length_cons, List.length_nil, Nat.reduceAdd, Nat.reduceSub, List.replicate_succ, List.replicate_zero, List.cons_append, List.nil_append]
  repeat' first | refine aw_seq ?_ | refine aw_region ?_ | refine aw_lex [] ?_ | (refine isA ?_; refine do_F rfl ?_) | (refine isL ?_; refine lex_F rfl (by kernel_rfl) rfl rfl ?_) | (refine isLg rfl ?_; refine lex_S rfl (by kernel_rfl) rfl rfl ?_) | refine aops_nil ?_ | refine lex_done _ rfl (by kernel_rfl) ?_ | refine aw_ct rfl ?_ | refine aw_cf rfl ?_ | refine aw_block ?_ | with_reducible refine then_n ?_ | refine aw_skip ?_ | refine aw_exit ?_ | (with_reducible first | refine then_x ?_ | refine then_r ?_ | refine block_x ?_ | refine block_n ?_ | refine block_r ?_) | refine aw_ret ?_
  refine aw_loop (α := { i : Nat // i ≤ xs.length }) (fun i => ⟨[rwL xs, .any, .any, .sl 0 0 (srtV (xs.take i.1)).length, I i.1, .any, .any, .any, .any, .any, .any, .any, .any, .any, .any, .any, .any, .any, .any, .any, .any, .any, .any, .any, .any, .any, .any, .any, .any, .any, .any, .any, .any, .any, .any, .any, .any, .any, .any, .any, .any, .any, .any, .any, .any, .any, .any, .any, .any, .any], [rwR (srtV (xs.take i.1))], 0⟩) (fun i => xs.length - i.1) ⟨0, Nat.zero_le _⟩ ?_ ?_
  · exact sub0 [0] rfl rfl (by decide) (.cons rfl rfl rfl rfl (les_refl (flat_noH _ _)) .nil) (by repeat' first | exact les_nil | refine les_cons ?_ ?_ | exact le_any | exact le_refl rfl | exact le_sl rfl rfl | exact le_ptr rfl)
  · rintro ⟨i, hi⟩
    repeat' first | refine aw_seq ?_ | refine aw_region ?_ | refine aw_lex [] ?_ | (refine isA ?_; refine do_F rfl ?_) | (refine isL ?_; refine lex_F rfl (by kernel_rfl) rfl rfl ?_) | (refine isLg rfl ?_; refine lex_S rfl (by kernel_rfl) rfl rfl ?_) | refine aops_nil ?_ | refine lex_done _ rfl (by kernel_rfl) ?_ | refine aw_ct rfl ?_ | refine aw_cf rfl ?_ | refine aw_block ?_ | with_reducible refine then_n ?_ | refine aw_skip ?_ | refine aw_exit ?_ | (with_reducible first | refine then_x ?_ | refine then_r ?_ | refine block_x ?_ | refine block_n ?_ | refine block_r ?_) | refine aw_ret ?_
    refine aw_cond rfl (fun h => ?_) (fun h => ?_)
    · have hlt : i < xs.length := by simpa using h
      obtain ⟨x, hx⟩ : ∃ z, xs[i]? = some z := ⟨_, List.getElem?_eq_getElem hlt⟩
      have e1 : srtV (xs.take (i + 1)) = insV x (srtV (xs.take i)) := by rw [List.take_add_one, hx]; exact srtV_snoc _ _
      have hso := srtV_srt (xs.take i)
      have hol : (srtV (xs.take i)).length = i := by rw [srtV_len]; simp; omega
      generalize srtV (xs.take i) = out at e1 hso hol
      repeat' first | refine aw_seq ?_ | refine aw_region ?_ | refine aw_lex [] ?_ | (refine isA ?_; refine do_F rfl ?_) | (refine isL ?_; refine lex_F rfl (by kernel_rfl) rfl rfl ?_) | (refine isLg rfl ?_; refine lex_S rfl (by kernel_rfl) rfl rfl ?_) | refine aops_nil ?_ | refine lex_done _ rfl (by kernel_rfl) ?_ | refine aw_ct rfl ?_ | refine aw_cf rfl ?_ | refine aw_block ?_ | with_reducible refine then_n ?_ | refine aw_skip ?_ | refine aw_exit ?_ | (with_reducible first | refine then_x ?_ | refine then_r ?_ | refine block_x ?_ | refine block_n ?_ | refine block_r ?_) | refine aw_ret ?_
      refine aw_loop (α := { k : Nat // k ≤ out.length ∧ ∀ j z, k ≤ j → out[j]? = some z → ¬ leW z x }) (fun k => ⟨[rwL xs, .any, .any, .sl 0 0 out.length, I i, I k.1, .any, .any, .any, .any, .any, .any, .any, .any, .any, .any, .any, .any, .any, .any, .any, .any, .any, .any, .any, .any, .any, .any, .any, .any, .any, .any, .any, .any, .any, .any, .any, .any, .any, .any, .any, .any, .any, .any, .any, .any, .any, .any, .any, .any], [rwR out], 0⟩) (fun k => k.1) ⟨out.length, Nat.le_refl _, fun j z hj hz => absurd (List.getElem?_eq_some_iff.1 hz).1 (by omega)⟩ ?_ ?_
      · exact sub0 [0] rfl rfl (by decide) (.cons rfl rfl rfl rfl (les_refl (flat_noH _ _)) .nil) (by repeat' first | exact les_nil | refine les_cons ?_ ?_ | exact le_any | exact le_refl rfl | exact le_sl rfl rfl | exact le_ptr rfl)
      · rintro ⟨k, hk, hB⟩
        repeat' first | refine aw_seq ?_ | refine aw_region ?_ | refine aw_lex [] ?_ | (refine isA ?_; refine do_F rfl ?_) | (refine isL ?_; refine lex_F rfl (by kernel_rfl) rfl rfl ?_) | (refine isLg rfl ?_; refine lex_S rfl (by kernel_rfl) rfl rfl ?_) | refine aops_nil ?_ | refine lex_done _ rfl (by kernel_rfl) ?_ | refine aw_ct rfl ?_ | refine aw_cf rfl ?_ | refine aw_block ?_ | with_reducible refine then_n ?_ | refine aw_skip ?_ | refine aw_exit ?_ | (with_reducible first | refine then_x ?_ | refine then_r ?_ | refine block_x ?_ | refine block_n ?_ | refine block_r ?_) | refine aw_ret ?_
        refine lex_br rfl rfl rfl rfl (fun p1 => ?_) (fun p1 => ?_)
        · have q1 : 0 < k := by have := of_decide_eq_true p1; simp only at this; omega
          obtain ⟨y, hy⟩ : ∃ z, out[k - 1]? = some z := ⟨_, List.getElem?_eq_getElem (by omega)⟩
          have ew : IntKind.i64.wrap ((k : Int) - 1) = ((k - 1 : Nat) : Int) := by rw [IntKind.wrap_i64]; omega
          repeat' first | refine aw_seq ?_ | refine aw_region ?_ | refine aw_lex [] ?_ | (refine isA ?_; refine do_F rfl ?_) | (refine isL ?_; refine lex_F rfl (by kernel_rfl) rfl rfl ?_) | (refine isLg rfl ?_; refine lex_S rfl (by kernel_rfl) rfl rfl ?_) | (refine isAi (x := .tmp 24) ?_; refine do_R rfl (ia_l (t := rwT) (z := x) rfl rfl rfl rfl (Int.natCast_nonneg i) hx) rfl ?_) | (refine isLi (x := .tmp 24) rfl ?_; refine lex_R rfl (by kernel_rfl) rfl (ia_l (t := rwT) (z := x) rfl rfl rfl rfl (Int.natCast_nonneg i) hx) rfl ?_) | (refine isAi (x := .tmp 19) ?_; refine do_R rfl (ia_s (t := rwT) (xs := out) rfl rfl rfl rfl rfl (by rw [ew]; exact Int.natCast_nonneg _) (by rw [ew]; omega)) rfl ?_) | (refine isLi (x := .tmp 19) rfl ?_; refine lex_R rfl (by kernel_rfl) rfl (ia_s (t := rwT) (xs := out) rfl rfl rfl rfl rfl (by rw [ew]; exact Int.natCast_nonneg _) (by rw [ew]; omega)) rfl ?_) | (refine isAl (x := .tmp 22) ?_; refine do_R rfl (ld_a (T := rwT) (i := k - 1) (xs := out) (z := y) rfl (by simp only [ew]; rfl) rfl hy) rfl ?_) | (refine isLl (x := .tmp 22) rfl ?_; refine lex_R rfl (by kernel_rfl) rfl (ld_a (T := rwT) (i := k - 1) (xs := out) (z := y) rfl (by simp only [ew]; rfl) rfl hy) rfl ?_) | (refine isAc 68 ?_; refine do_R rfl (st_call rfl (c_scmp y x) (.cons (.same rfl) (.cons (.same rfl) .nil)) rfl) rfl ?_) | (refine isLc 68 rfl ?_; refine lex_R rfl (by kernel_rfl) rfl (st_call rfl (c_scmp y x) (.cons (.same rfl) (.cons (.same rfl) .nil)) rfl) rfl ?_) | refine aops_nil ?_ | refine lex_done _ rfl (by kernel_rfl) ?_ | refine aw_ct rfl ?_ | refine aw_cf rfl ?_ | refine aw_block ?_ | with_reducible refine then_n ?_ | refine aw_skip ?_ | refine aw_exit ?_ | (with_reducible first | refine then_x ?_ | refine then_r ?_ | refine block_x ?_ | refine block_n ?_ | refine block_r ?_) | refine aw_ret ?_
          refine aw_cond rfl (fun p2 => ?_) (fun p2 => ?_)
          · have q2 := of_decide_eq_true p2
            repeat' first | refine aw_seq ?_ | refine aw_region ?_ | refine aw_lex [] ?_ | (refine isA ?_; refine do_F rfl ?_) | (refine isL ?_; refine lex_F rfl (by kernel_rfl) rfl rfl ?_) | (refine isLg rfl ?_; refine lex_S rfl (by kernel_rfl) rfl rfl ?_) | refine aops_nil ?_ | refine lex_done _ rfl (by kernel_rfl) ?_ | refine aw_ct rfl ?_ | refine aw_cf rfl ?_ | refine aw_block ?_ | with_reducible refine then_n ?_ | refine aw_skip ?_ | refine aw_exit ?_ | (with_reducible first | refine then_x ?_ | refine then_r ?_ | refine block_x ?_ | refine block_n ?_ | refine block_r ?_) | refine aw_ret ?_
            refine ⟨⟨k - 1, by omega, fun j z hj hz => ?_⟩, by simp only; omega, ?_⟩
            · rcases Nat.lt_or_ge j k with hjk | hjk
              · obtain rfl : j = k - 1 := by omega
                rw [hy] at hz
                cases hz
                intro hle
                have : cmpV y x ≤ 0 := hle
                omega
              · exact hB j z hjk hz
            · exact sub0 [0] rfl rfl (by decide) (.cons rfl rfl rfl rfl (les_refl (flat_noH _ _)) .nil) (by
                repeat' first | exact les_nil | refine les_cons ?_ ?_ | exact le_any | exact le_refl rfl | exact le_sl rfl rfl | exact le_k (congrArg _ ew.symm))
          · have q2 := of_decide_eq_false p2
            have hfin := ins_at hso hk hB (fun z _ hz => by rw [hy] at hz; cases hz; show cmpV y x ≤ 0; omega)
            have hkl : k ≤ i := by omega
            repeat' first | refine aw_seq ?_ | refine aw_region ?_ | (refine isA ?_; refine do_F rfl ?_) | (refine isL ?_; refine lex_F rfl (by kernel_rfl) rfl rfl ?_) | (refine isLg rfl ?_; refine lex_S rfl (by kernel_rfl) rfl rfl ?_) | refine aops_nil ?_ | refine lex_done _ rfl (by kernel_rfl) ?_ | refine aw_ct rfl ?_ | refine aw_cf rfl ?_ | refine aw_block ?_ | with_reducible refine then_n ?_ | refine aw_skip ?_ | refine aw_exit ?_ | (with_reducible first | refine then_x ?_ | refine then_r ?_ | refine block_x ?_ | refine block_n ?_ | refine block_r ?_) | refine aw_ret ?_
            refine aw_perG (fun H => H[0]? = some (rwR out)) 10 rfl ?_
            refine perG_P 5 rfl rfl (by kernel_rfl) rfl (fun _ => rfl) rfl ?_
            refine perG_P 6 rfl rfl (by kernel_rfl) rfl (fun _ => rfl) rfl ?_
            refine perG_R 7 rfl rfl (by kernel_rfl) rfl (fun H hG => step_slice_sl (l := (k : Int)) (h := (out.length : Int)) rfl rfl hG (Nat.zero_le _) rfl (.yes _ rfl) (.no _) (by omega) (by omega) (by omega)) rfl ?_
            refine perG_P 0 rfl rfl (by kernel_rfl) rfl (fun _ => rfl) rfl ?_
            refine perG_P 1 rfl rfl (by kernel_rfl) rfl (fun _ => rfl) rfl ?_
            refine perG_R 2 rfl rfl (by kernel_rfl) rfl (fun _ _ => ia_l (t := rwT) (z := x) rfl rfl rfl rfl (Int.natCast_nonneg i) hx) rfl ?_
            refine perG_P 3 rfl rfl (by kernel_rfl) rfl (fun _ => rfl) rfl ?_
            refine perG_1 4 (by kernel_rfl) ?_
            refine br_WF rfl rfl rfl rfl rfl ?_
            refine perG_1 8 (by kernel_rfl) ?_
            refine br_W rfl rfl (ap_l (t := rwT) (xs := [x]) (ys := out.drop k) rfl rfl rfl rfl (src_sub rfl hk (by simp) (by simp)) (by simp; omega) rfl) rfl rfl ?_
            refine perG_P 9 rfl rfl (by kernel_rfl) rfl (fun _ => rfl) rfl ?_
            refine perG_done (by kernel_rfl) ?_
            repeat' first | refine aw_seq ?_ | refine aw_region ?_ | refine aw_lex [] ?_ | (refine isA ?_; refine do_F rfl ?_) | (refine isL ?_; refine lex_F rfl (by kernel_rfl) rfl rfl ?_) | (refine isLg rfl ?_; refine lex_S rfl (by kernel_rfl) rfl rfl ?_) | (refine isAx ?_; refine do_R rfl (step_slice_sl (l := (0 : Int)) (h := (k : Int)) rfl rfl rfl (Nat.zero_le _) rfl (.no 0) (.yes _ rfl) (Int.le_refl 0) (Int.natCast_nonneg k) (by omega)) rfl ?_) | (refine isLx rfl ?_; refine lex_R rfl (by kernel_rfl) rfl (step_slice_sl (l := (0 : Int)) (h := (k : Int)) rfl rfl rfl (Nat.zero_le _) rfl (.no 0) (.yes _ rfl) (Int.le_refl 0) (Int.natCast_nonneg k) (by omega)) rfl ?_) | (refine isAp ?_; refine do_R rfl (ap_l (t := rwT) (xs := []) (ys := out.take k) rfl rfl rfl rfl (src_pre rfl hk (by simp) (by simp)) (by simp; omega) rfl) rfl ?_) | (refine isLp rfl ?_; refine lex_R rfl (by kernel_rfl) rfl (ap_l (t := rwT) (xs := []) (ys := out.take k) rfl rfl rfl rfl (src_pre rfl hk (by simp) (by simp)) (by simp; omega) rfl) rfl ?_) | (refine isAp ?_; refine do_R rfl (ap_l (t := rwT) (xs := [] ++ out.take k) (ys := [x] ++ out.drop k) rfl rfl rfl rfl (src_all rfl) (by simp; omega) rfl) rfl ?_) | (refine isLp rfl ?_; refine lex_R rfl (by kernel_rfl) rfl (ap_l (t := rwT) (xs := [] ++ out.take k) (ys := [x] ++ out.drop k) rfl rfl rfl rfl (src_all rfl) (by simp; omega) rfl) rfl ?_) | refine aops_nil ?_ | refine lex_done _ rfl (by kernel_rfl) ?_ | refine aw_ct rfl ?_ | refine aw_cf rfl ?_ | refine aw_block ?_ | with_reducible refine then_n ?_ | refine aw_skip ?_ | refine aw_exit ?_ | (with_reducible first | refine then_x ?_ | refine then_r ?_ | refine block_x ?_ | refine block_n ?_ | refine block_r ?_) | refine aw_ret ?_
            refine ⟨⟨i + 1, hlt⟩, by simp only; omega, ?_⟩
            exact sub0 [5] rfl rfl (by decide) (.cons rfl rfl rfl rfl (les_eq (show rwT.flat ([] ++ out.take k ++ ([x] ++ out.drop k)) = rwT.flat (srtV (xs.take (i + 1))) by rw [e1, ← hfin]; rfl) (flat_noH _ _)) .nil) (by
              repeat' first | exact les_nil | refine les_cons ?_ ?_ | exact le_any | exact le_refl rfl | exact le_sl rfl (show ([] ++ out.take k ++ ([x] ++ out.drop k)).length = (srtV (xs.take (i + 1))).length by rw [e1, ← hfin]; rfl) | exact le_sl rfl (show (srtV (xs.take (i + 1))).length = ([] ++ out.take k ++ ([x] ++ out.drop k)).length by rw [e1, ← hfin]; rfl) | exact le_i hlt (by omega))
        · have q1 : k = 0 := by have := of_decide_eq_false p1; simp only at this; omega
          have hfin := ins_at hso hk hB (fun z h0 hz => by omega)
          have hkl : k ≤ i := by omega
          repeat' first | refine aw_seq ?_ | refine aw_region ?_ | (refine isA ?_; refine do_F rfl ?_) | (refine isL ?_; refine lex_F rfl (by kernel_rfl) rfl rfl ?_) | (refine isLg rfl ?_; refine lex_S rfl (by kernel_rfl) rfl rfl ?_) | refine aops_nil ?_ | refine lex_done _ rfl (by kernel_rfl) ?_ | refine aw_ct rfl ?_ | refine aw_cf rfl ?_ | refine aw_block ?_ | with_reducible refine then_n ?_ | refine aw_skip ?_ | refine aw_exit ?_ | (with_reducible first | refine then_x ?_ | refine then_r ?_ | refine block_x ?_ | refine block_n ?_ | refine block_r ?_) | refine aw_ret ?_
          refine aw_perG (fun H => H[0]? = some (rwR out)) 10 rfl ?_
          refine perG_P 5 rfl rfl (by kernel_rfl) rfl (fun _ => rfl) rfl ?_
          refine perG_P 6 rfl rfl (by kernel_rfl) rfl (fun _ => rfl) rfl ?_
          refine perG_R 7 rfl rfl (by kernel_rfl) rfl (fun H hG => step_slice_sl (l := (k : Int)) (h := (out.length : Int)) rfl rfl hG (Nat.zero_le _) rfl (.yes _ rfl) (.no _) (by omega) (by omega) (by omega)) rfl ?_
          refine perG_P 0 rfl rfl (by kernel_rfl) rfl (fun _ => rfl) rfl ?_
          refine perG_P 1 rfl rfl (by kernel_rfl) rfl (fun _ => rfl) rfl ?_
          refine perG_R 2 rfl rfl (by kernel_rfl) rfl (fun _ _ => ia_l (t := rwT) (z := x) rfl rfl rfl rfl (Int.natCast_nonneg i) hx) rfl ?_
          refine perG_P 3 rfl rfl (by kernel_rfl) rfl (fun _ => rfl) rfl ?_
          refine perG_1 4 (by kernel_rfl) ?_
          refine br_WF rfl rfl rfl rfl rfl ?_
          refine perG_1 8 (by kernel_rfl) ?_
          refine br_W rfl rfl (ap_l (t := rwT) (xs := [x]) (ys := out.drop k) rfl rfl rfl rfl (src_sub rfl hk (by simp) (by simp)) (by simp; omega) rfl) rfl rfl ?_
          refine perG_P 9 rfl rfl (by kernel_rfl) rfl (fun _ => rfl) rfl ?_
          refine perG_done (by kernel_rfl) ?_
          repeat' first | refine aw_seq ?_ | refine aw_region ?_ | refine aw_lex [] ?_ | (refine isA ?_; refine do_F rfl ?_) | (refine isL ?_; refine lex_F rfl (by kernel_rfl) rfl rfl ?_) | (refine isLg rfl ?_; refine lex_S rfl (by kernel_rfl) rfl rfl ?_) | (refine isAx ?_; refine do_R rfl (step_slice_sl (l := (0 : Int)) (h := (k : Int)) rfl rfl rfl (Nat.zero_le _) rfl (.no 0) (.yes _ rfl) (Int.le_refl 0) (Int.natCast_nonneg k) (by omega)) rfl ?_) | (refine isLx rfl ?_; refine lex_R rfl (by kernel_rfl) rfl (step_slice_sl (l := (0 : Int)) (h := (k : Int)) rfl rfl rfl (Nat.zero_le _) rfl (.no 0) (.yes _ rfl) (Int.le_refl 0) (Int.natCast_nonneg k) (by omega)) rfl ?_) | (refine isAp ?_; refine do_R rfl (ap_l (t := rwT) (xs := []) (ys := out.take k) rfl rfl rfl rfl (src_pre rfl hk (by simp) (by simp)) (by simp; omega) rfl) rfl ?_) | (refine isLp rfl ?_; refine lex_R rfl (by kernel_rfl) rfl (ap_l (t := rwT) (xs := []) (ys := out.take k) rfl rfl rfl rfl (src_pre rfl hk (by simp) (by simp)) (by simp; omega) rfl) rfl ?_) | (refine isAp ?_; refine do_R rfl (ap_l (t := rwT) (xs := [] ++ out.take k) (ys := [x] ++ out.drop k) rfl rfl rfl rfl (src_all rfl) (by simp; omega) rfl) rfl ?_) | (refine isLp rfl ?_; refine lex_R rfl (by kernel_rfl) rfl (ap_l (t := rwT) (xs := [] ++ out.take k) (ys := [x] ++ out.drop k) rfl rfl rfl rfl (src_all rfl) (by simp; omega) rfl) rfl ?_) | refine aops_nil ?_ | refine lex_done _ rfl (by kernel_rfl) ?_ | refine aw_ct rfl ?_ | refine aw_cf rfl ?_ | refine aw_block ?_ | with_reducible refine then_n ?_ | refine aw_skip ?_ | refine aw_exit ?_ | (with_reducible first | refine then_x ?_ | refine then_r ?_ | refine block_x ?_ | refine block_n ?_ | refine block_r ?_) | refine aw_ret ?_
          refine ⟨⟨i + 1, hlt⟩, by simp only; omega, ?_⟩
          exact sub0 [5] rfl rfl (by decide) (.cons rfl rfl rfl rfl (les_eq (show rwT.flat ([] ++ out.take k ++ ([x] ++ out.drop k)) = rwT.flat (srtV (xs.take (i + 1))) by rw [e1, ← hfin]; rfl) (flat_noH _ _)) .nil) (by
            repeat' first | exact les_nil | refine les_cons ?_ ?_ | exact le_any | exact le_refl rfl | exact le_sl rfl (show ([] ++ out.take k ++ ([x] ++ out.drop k)).length = (srtV (xs.take (i + 1))).length by rw [e1, ← hfin]; rfl) | exact le_sl rfl (show (srtV (xs.take (i + 1))).length = ([] ++ out.take k ++ ([x] ++ out.drop k)).length by rw [e1, ← hfin]; rfl) | exact le_i hlt (by omega))
    · have hge : i = xs.length := by
        have : ¬ ((i : Int) < xs.length) := by simpa using h
        omega
      subst hge
      have e2 : srtV (xs.take xs.length) = srtV xs := by rw [List.take_length]
      repeat' first | refine aw_seq ?_ | refine aw_region ?_ | refine aw_lex [] ?_ | (refine isA ?_; refine do_F rfl ?_) | (refine isL ?_; refine lex_F rfl (by kernel_rfl) rfl rfl ?_) | (refine isLg rfl ?_; refine lex_S rfl (by kernel_rfl) rfl rfl ?_) | exact finL (ty := rwT) rfl rfl rfl rfl (by simp only [e2]) e2 (flat_rw _) | refine aops_nil ?_ | refine lex_done _ rfl (by kernel_rfl) ?_ | refine aw_ct rfl ?_ | refine aw_cf rfl ?_ | refine aw_block ?_ | with_reducible refine then_n ?_ | refine aw_skip ?_ | refine aw_exit ?_ | (with_reducible first | refine then_x ?_ | refine then_r ?_ | refine block_x ?_ | refine block_n ?_ | refine block_r ?_) | refine aw_ret ?_
end Go.Proofs.Ytojcojanokhnaaa.Ab

/- SpA0 -/
namespace Go.Proofs.Ytojcojanokhnaaa.Ab
open Go.RowKit

/-! ### Costs -/
def costV (x : Rw) : Int := cond (vRw x) (1 + x.c) 0
def totV : List Rw → Int
  | [] => 0
  | x :: xs => costV x + totV xs
theorem inV_iff {x lo hi : Int} : inV x lo hi = true ↔ lo ≤ x ∧ x ≤ hi := by simp [inV]
theorem vRw_iff {x : Rw} : vRw x = true ↔ (0 ≤ x.a ∧ x.a ≤ 9) ∧ (0 ≤ x.b ∧ x.b ≤ 99) ∧ (0 ≤ x.c ∧ x.c ≤ 3) := by
  simp only [vRw, Bool.and_eq_true, inV_iff]
theorem cost_b (x : Rw) : 0 ≤ costV x ∧ costV x ≤ 4 := by
  unfold costV
  cases h : vRw x with
  | false => simp
  | true => have := (vRw_iff.1 h).2.2; simp only [cond_true]; omega
theorem cost_pos {x : Rw} (h : vRw x = true) : 1 ≤ costV x := by
  have := (vRw_iff.1 h).2.2
  simp only [costV, h, cond_true]; omega
theorem tot_b : ∀ xs : List Rw, 0 ≤ totV xs ∧ totV xs ≤ 4 * xs.length
  | [] => by simp [totV]
  | x :: xs => by
    have h1 := tot_b xs
    have h2 := cost_b x
    simp only [totV, List.length_cons]; omega
theorem totV_app : ∀ xs ys : List Rw, totV (xs ++ ys) = totV xs + totV ys
  | [], ys => by simp [totV]
  | x :: xs, ys => by simp only [List.cons_append, totV, totV_app xs ys]; omega
theorem totV_snoc {xs : List Rw} {i : Nat} {z : Rw} (hz : xs[i]? = some z) : totV (xs.take (i + 1)) = totV (xs.take i) + costV z := by
  rw [take_snoc hz, totV_app]; simp [totV]
theorem totV_perm {xs ys : List Rw} (h : xs.Perm ys) : totV xs = totV ys := by
  induction h with
  | nil => rfl
  | cons x _ ih => simp only [totV, ih]
  | swap x y l => simp only [totV]; omega
  | trans _ _ h1 h2 => exact h1.trans h2
theorem totV_pos : ∀ {xs : List Rw}, (∀ x ∈ xs, vRw x = true) → (xs.length : Int) ≤ totV xs
  | [], _ => by simp [totV]
  | x :: xs, h => by
    have h1 := totV_pos fun y hy => h y (List.mem_cons_of_mem _ hy)
    have h2 := cost_pos (h x (List.mem_cons_self ..))
    simp only [totV, List.length_cons]; omega

/-! ### Order -/
instance (x y : Rw) : Decidable (leW x y) := inferInstanceAs (Decidable (cmpV x y ≤ 0))
instance (xs : List Rw) : Decidable (Srt xs) := inferInstanceAs (Decidable (xs.Pairwise leW))
def isoV (xs : List Rw) : Bool := decide (Srt xs)
def belL (x : Rw) : Option Rw → Bool
  | none => false
  | some y => decide (cmpV x y < 0)
/-- x stands before the last of a list. -/
def bel (x : Rw) (out : List Rw) : Bool := belL x out[out.length - 1]?
theorem bel_nil (x : Rw) : bel x [] = false := rfl
theorem bel_snoc (x y : Rw) (out : List Rw) : bel x (out ++ [y]) = decide (cmpV x y < 0) := by
  unfold bel
  rw [show (out ++ [y]).length - 1 = out.length by simp, List.getElem?_append_right (Nat.le_refl _), Nat.sub_self]
  rfl
theorem srt_snoc {xs : List Rw} {y : Rw} (h : Srt xs) (hb : bel y xs = false) : Srt (xs ++ [y]) := by
  refine List.pairwise_append.2 ⟨h, List.pairwise_singleton _ _, fun a ha c hc => ?_⟩
  have hc' : c = y := by simpa using hc
  subst hc'
  obtain ⟨i, hi⟩ := List.getElem?_of_mem ha
  have hlt := (List.getElem?_eq_some_iff.1 hi).1
  obtain ⟨z, hz⟩ : ∃ z, xs[xs.length - 1]? = some z := ⟨_, List.getElem?_eq_getElem (by omega)⟩
  have hzc : leW z c := by
    unfold bel at hb
    rw [hz] at hb
    exact Classical.byContradiction fun hn => absurd (cmp_neg.2 hn) (of_decide_eq_false hb)
  exact leW_trans (srt_le h (show i ≤ xs.length - 1 by omega) hi hz) hzc

/-! ### The least -/
def minF (xs : List Rw) : Nat → Int
  | 0 => -1
  | n + 1 => cond (decide (minF xs n < 0)) n (match xs[n]?, xs[(minF xs n).toNat]? with
    | some x, some y => cond (decide (cmpV x y < 0)) n (minF xs n)
    | _, _ => minF xs n)
def minV (xs : List Rw) : Int := minF xs xs.length
theorem minF_ok {xs : List Rw} : ∀ {n : Nat}, n ≤ xs.length → 0 < n → ∃ k y, minF xs n = ((k : Nat) : Int) ∧ k < n ∧ xs[k]? = some y ∧ ∀ j z, j < n → xs[j]? = some z → leW y z
  | 0, _, h => absurd h (Nat.lt_irrefl 0)
  | n + 1, hn, _ => by
    obtain ⟨x, hx⟩ : ∃ z, xs[n]? = some z := ⟨_, List.getElem?_eq_getElem (by omega)⟩
    rcases Nat.eq_zero_or_pos n with rfl | hpos
    · refine ⟨0, x, rfl, by omega, hx, fun j z hj hz => ?_⟩
      obtain rfl : j = 0 := by omega
      rw [hx] at hz
      cases hz
      exact leW_refl _
    · obtain ⟨k, y, h1, h2, h3, h4⟩ := minF_ok (xs := xs) (n := n) (by omega) hpos
      rw [minF, h1, decide_eq_false (show ¬ ((k : Nat) : Int) < 0 from by have := Int.natCast_nonneg k; omega), cond_false, Int.toNat_natCast, hx, h3]
      simp only
      cases hc : decide (cmpV x y < 0) with
      | true =>
        have hle := leW_not (cmp_neg.1 (of_decide_eq_true hc))
        refine ⟨n, x, rfl, by omega, hx, fun j z hj hz => ?_⟩
        rcases Nat.lt_or_ge j n with hjn | hjn
        · exact leW_trans hle (h4 j z hjn hz)
        · obtain rfl : j = n := by omega
          rw [hx] at hz
          cases hz
          exact leW_refl _
      | false =>
        refine ⟨k, y, rfl, by omega, h3, fun j z hj hz => ?_⟩
        rcases Nat.lt_or_ge j n with hjn | hjn
        · exact h4 j z hjn hz
        · obtain rfl : j = n := by omega
          rw [hx] at hz
          cases hz
          exact Classical.byContradiction fun hn => absurd (cmp_neg.2 hn) (of_decide_eq_false hc)
theorem minV_ok {xs : List Rw} (h : 0 < xs.length) : ∃ k y, minV xs = ((k : Nat) : Int) ∧ xs[k]? = some y ∧ ∀ z ∈ xs, leW y z := by
  obtain ⟨k, y, h1, h2, h3, h4⟩ := minF_ok (Nat.le_refl xs.length) h
  refine ⟨k, y, h1, h3, fun z hz => ?_⟩
  obtain ⟨j, hj⟩ := List.getElem?_of_mem hz
  exact h4 j z (List.getElem?_eq_some_iff.1 hj).1 hj
theorem take_perm {xs : List Rw} {k : Nat} {y : Rw} (h : xs[k]? = some y) : (xs.take k ++ xs.drop (k + 1) ++ [y]).Perm xs := by
  have e : xs = xs.take k ++ y :: xs.drop (k + 1) := by rw [← take_drop1 h, List.take_append_drop]
  have : (xs.take k ++ y :: xs.drop (k + 1)).Perm (y :: (xs.take k ++ xs.drop (k + 1))) := List.perm_middle
  rw [← e] at this
  exact List.perm_append_comm.trans this.symm


def avS (rs : List Rn) : Bool := rs.all fun r => !decide (r.length = 0) && (isoV r && avR r)
end Go.Proofs.Ytojcojanokhnaaa.Ab

/- SqA -/
namespace Go.Proofs.Ytojcojanokhnaaa.Ab
open Go.RowKit

theorem c_irc (x : Rw) : Meets Go.Proofs.Try.prog 58 [.agg (rwE x)] [] (I (costV x)) [] false := by
  refine meets_of [2] Go.Proofs.Try.func58 rfl rfl ?_
  simp only [Go.Proofs.Try.ntmps58, List.length_cons, List.length_nil, Nat.reduceAdd, Nat.reduceSub, List.replicate_succ, List.replicate_zero, List.cons_append, List.nil_append]
  repeat' first | refine aw_seq ?_ | refine aw_region ?_ | refine aw_lex [] ?_ | (refine isA ?_; refine do_F rfl ?_) | (refine isL ?_; refine lex_F rfl (by kernel_rfl) rfl rfl ?_) | (refine isLg rfl ?_; refine lex_S rfl (by kernel_rfl) rfl rfl ?_) | (refine isAc 116 ?_; refine do_R rfl (st_call rfl (c_ivRow x) (.cons (.same rfl) .nil) rfl) rfl ?_) | (refine isLc 116 rfl ?_; refine lex_R rfl (by kernel_rfl) rfl (st_call rfl (c_ivRow x) (.cons (.same rfl) .nil) rfl) rfl ?_) | refine aops_nil ?_ | refine lex_done _ rfl (by kernel_rfl) ?_ | refine aw_ct rfl ?_ | refine aw_cf rfl ?_ | refine aw_block ?_ | with_reducible refine then_n ?_ | refine aw_skip ?_ | refine aw_exit ?_ | (with_reducible first | refine then_x ?_ | refine then_r ?_ | refine block_x ?_ | refine block_n ?_ | refine block_r ?_) | refine aw_ret ?_
  refine aw_cond rfl (fun h => ?_) (fun h => ?_)
  · have h : vRw x = false := by simpa using h
    repeat' first | refine aw_seq ?_ | refine aw_region ?_ | refine aw_lex [] ?_ | (refine isA ?_; refine do_F rfl ?_) | (refine isL ?_; refine lex_F rfl (by kernel_rfl) rfl rfl ?_) | (refine isLg rfl ?_; refine lex_S rfl (by kernel_rfl) rfl rfl ?_) | exact fin1 rfl rfl (by simp only [costV, h, cond_false]) | refine aops_nil ?_ | refine lex_done _ rfl (by kernel_rfl) ?_ | refine aw_ct rfl ?_ | refine aw_cf rfl ?_ | refine aw_block ?_ | with_reducible refine then_n ?_ | refine aw_skip ?_ | refine aw_exit ?_ | (with_reducible first | refine then_x ?_ | refine then_r ?_ | refine block_x ?_ | refine block_n ?_ | refine block_r ?_) | refine aw_ret ?_
  · have h : vRw x = true := by simpa using h
    have := (vRw_iff.1 h).2.2
    repeat' first | refine aw_seq ?_ | refine aw_region ?_ | refine aw_lex [] ?_ | (refine isA ?_; refine do_F rfl ?_) | (refine isL ?_; refine lex_F rfl (by kernel_rfl) rfl rfl ?_) | (refine isLg rfl ?_; refine lex_S rfl (by kernel_rfl) rfl rfl ?_) | exact fin1 rfl rfl (by simp only [costV, h, cond_true]; refine congrArg I ?_; rw [IntKind.wrap_i64]; omega) | refine aops_nil ?_ | refine lex_done _ rfl (by kernel_rfl) ?_ | refine aw_ct rfl ?_ | refine aw_cf rfl ?_ | refine aw_block ?_ | with_reducible refine then_n ?_ | refine aw_skip ?_ | refine aw_exit ?_ | (with_reducible first | refine then_x ?_ | refine then_r ?_ | refine block_x ?_ | refine block_n ?_ | refine block_r ?_) | refine aw_ret ?_
theorem c_src (x : Rw) : Meets Go.Proofs.Try.prog 67 [.agg (rwE x)] [] (I (costV x)) [] false := by
  refine meets_of [2] Go.Proofs.Try.func67 rfl rfl ?_
  simp only [Go.Proofs.Try.ntmps67, List.length_cons, List.length_nil, Nat.reduceAdd, Nat.reduceSub, List.replicate_succ, List.replicate_zero, List.cons_append, List.nil_append]
  repeat' first | refine aw_seq ?_ | refine aw_region ?_ | refine aw_lex [] ?_ | (refine isA ?_; refine do_F rfl ?_) | (refine isL ?_; refine lex_F rfl (by kernel_rfl) rfl rfl ?_) | (refine isLg rfl ?_; refine lex_S rfl (by kernel_rfl) rfl rfl ?_) | (refine isAc 99 ?_; refine do_R rfl (st_call rfl (c_svRow x) (.cons (.same rfl) .nil) rfl) rfl ?_) | (refine isLc 99 rfl ?_; refine lex_R rfl (by kernel_rfl) rfl (st_call rfl (c_svRow x) (.cons (.same rfl) .nil) rfl) rfl ?_) | refine aops_nil ?_ | refine lex_done _ rfl (by kernel_rfl) ?_ | refine aw_ct rfl ?_ | refine aw_cf rfl ?_ | refine aw_block ?_ | with_reducible refine then_n ?_ | refine aw_skip ?_ | refine aw_exit ?_ | (with_reducible first | refine then_x ?_ | refine then_r ?_ | refine block_x ?_ | refine block_n ?_ | refine block_r ?_) | refine aw_ret ?_
  refine aw_cond rfl (fun h => ?_) (fun h => ?_)
  · have h : vRw x = false := by simpa using h
    repeat' first | refine aw_seq ?_ | refine aw_region ?_ | refine aw_lex [] ?_ | (refine isA ?_; refine do_F rfl ?_) | (refine isL ?_; refine lex_F rfl (by kernel_rfl) rfl rfl ?_) | (refine isLg rfl ?_; refine lex_S rfl (by kernel_rfl) rfl rfl ?_) | exact fin1 rfl rfl (by simp only [costV, h, cond_false]) | refine aops_nil ?_ | refine lex_done _ rfl (by kernel_rfl) ?_ | refine aw_ct rfl ?_ | refine aw_cf rfl ?_ | refine aw_block ?_ | with_reducible refine then_n ?_ | refine aw_skip ?_ | refine aw_exit ?_ | (with_reducible first | refine then_x ?_ | refine then_r ?_ | refine block_x ?_ | refine block_n ?_ | refine block_r ?_) | refine aw_ret ?_
  · have h : vRw x = true := by simpa using h
    have := (vRw_iff.1 h).2.2
    repeat' first | refine aw_seq ?_ | refine aw_region ?_ | refine aw_lex [] ?_ | (refine isA ?_; refine do_F rfl ?_) | (refine isL ?_; refine lex_F rfl (by kernel_rfl) rfl rfl ?_) | (refine isLg rfl ?_; refine lex_S rfl (by kernel_rfl) rfl rfl ?_) | exact fin1 rfl rfl (by simp only [costV, h, cond_true]; refine congrArg I ?_; rw [IntKind.wrap_i64]; omega) | refine aops_nil ?_ | refine lex_done _ rfl (by kernel_rfl) ?_ | refine aw_ct rfl ?_ | refine aw_cf rfl ?_ | refine aw_block ?_ | with_reducible refine then_n ?_ | refine aw_skip ?_ | refine aw_exit ?_ | (with_reducible first | refine then_x ?_ | refine then_r ?_ | refine block_x ?_ | refine block_n ?_ | refine block_r ?_) | refine aw_ret ?_
theorem tot_wrap {xs : List Rw} {i : Nat} {z : Rw} (hz : xs[i]? = some z) (hl : xs.length ≤ 1000000000) : I (totV (xs.take (i + 1))) = I (IntKind.i64.wrap (totV (xs.take i) + costV z)) := by
  have h1 := tot_b (xs.take i)
  have h2 := cost_b z
  have h3 := (List.getElem?_eq_some_iff.1 hz).1
  have h4 : (xs.take i).length ≤ xs.length := by simp; omega
  rw [totV_snoc hz]
  refine congrArg I ?_
  rw [IntKind.wrap_i64]
  omega
theorem c_itot (xs : List Rw) (hl : xs.length ≤ 1000000000) : Meets Go.Proofs.Try.prog 88 [rwL xs] [] (I (totV xs)) [] false := by
  refine meets_of [2] Go.Proofs.Try.func88 rfl rfl ?_
  simp only [Go.Proofs.Try.ntmps88, List.length_cons, List.length_nil, Nat.reduceAdd, Nat.reduceSub, List.replicate_succ, List.replicate_zero, List.cons_append, List.nil_append]
  repeat' first | refine aw_seq ?_ | refine aw_region ?_ | refine aw_lex [] ?_ | (refine isA ?_; refine do_F rfl ?_) | (refine isL ?_; refine lex_F rfl (by kernel_rfl) rfl rfl ?_) | (refine isLg rfl ?_; refine lex_S rfl (by kernel_rfl) rfl rfl ?_) | refine aops_nil ?_ | refine lex_done _ rfl (by kernel_rfl) ?_ | refine aw_ct rfl ?_ | refine aw_cf rfl ?_ | refine aw_block ?_ | with_reducible refine then_n ?_ | refine aw_skip ?_ | refine aw_exit ?_ | (with_reducible first | refine then_x ?_ | refine then_r ?_ | refine block_x ?_ | refine block_n ?_ | refine block_r ?_) | refine aw_ret ?_
  refine aw_loop (α := { i : Nat // i ≤ xs.length }) (fun i => ⟨[.any, .any, .any, I (totV (xs.take i.1)), .any, .any, rwL xs, I xs.length, I i.1, .any, .any, .any, .any, .any, .any, .any, .any, .any], [], 0⟩) (fun i => xs.length - i.1) ⟨0, Nat.zero_le _⟩ ?_ ?_
  · exact sub0 [] rfl rfl (by decide) .nil (by repeat' first | exact les_nil | refine les_cons ?_ ?_ | exact le_any | exact le_refl rfl | exact le_sl rfl rfl | exact le_ptr rfl)
  · rintro ⟨i, hi⟩
    repeat' first | refine aw_seq ?_ | refine aw_region ?_ | refine aw_lex [] ?_ | (refine isA ?_; refine do_F rfl ?_) | (refine isL ?_; refine lex_F rfl (by kernel_rfl) rfl rfl ?_) | (refine isLg rfl ?_; refine lex_S rfl (by kernel_rfl) rfl rfl ?_) | refine aops_nil ?_ | refine lex_done _ rfl (by kernel_rfl) ?_ | refine aw_ct rfl ?_ | refine aw_cf rfl ?_ | refine aw_block ?_ | with_reducible refine then_n ?_ | refine aw_skip ?_ | refine aw_exit ?_ | (with_reducible first | refine then_x ?_ | refine then_r ?_ | refine block_x ?_ | refine block_n ?_ | refine block_r ?_) | refine aw_ret ?_
    refine aw_cond rfl (fun h => ?_) (fun h => ?_)
    · have hlt : i < xs.length := by simpa using h
      obtain ⟨z, hz⟩ : ∃ z, xs[i]? = some z := ⟨_, List.getElem?_eq_getElem hlt⟩
      repeat' first | refine aw_seq ?_ | refine aw_region ?_ | refine aw_lex [] ?_ | (refine isA ?_; refine do_F rfl ?_) | (refine isL ?_; refine lex_F rfl (by kernel_rfl) rfl rfl ?_) | (refine isLg rfl ?_; refine lex_S rfl (by kernel_rfl) rfl rfl ?_) | refine do_R rfl (ia_l (z := z) rfl rfl rfl rfl (Int.natCast_nonneg _) hz) rfl ?_ | refine lex_R rfl (by kernel_rfl) rfl (ia_l (z := z) rfl rfl rfl rfl (Int.natCast_nonneg _) hz) rfl ?_ | (refine isAc 58 ?_; refine do_R rfl (st_call rfl (c_irc z) (.cons (.same rfl) .nil) rfl) rfl ?_) | (refine isLc 58 rfl ?_; refine lex_R rfl (by kernel_rfl) rfl (st_call rfl (c_irc z) (.cons (.same rfl) .nil) rfl) rfl ?_) | refine aops_nil ?_ | refine lex_done _ rfl (by kernel_rfl) ?_ | refine aw_ct rfl ?_ | refine aw_cf rfl ?_ | refine aw_block ?_ | with_reducible refine then_n ?_ | refine aw_skip ?_ | refine aw_exit ?_ | (with_reducible first | refine then_x ?_ | refine then_r ?_ | refine block_x ?_ | refine block_n ?_ | refine block_r ?_) | refine aw_ret ?_
      refine ⟨⟨i + 1, hlt⟩, by simp only; omega, ?_⟩
      exact sub0 [] rfl rfl (by decide) .nil (by
        repeat' first | exact les_nil | refine les_cons ?_ ?_ | exact le_any | exact le_refl rfl | exact le_eq (tot_wrap hz hl).symm rfl | exact le_i (by assumption) (by omega))
    · have hge : i = xs.length := by
        have : ¬ ((i : Int) < xs.length) := by simpa using h
        omega
      subst hge
      repeat' first | refine aw_seq ?_ | refine aw_region ?_ | refine aw_lex [] ?_ | (refine isA ?_; refine do_F rfl ?_) | (refine isL ?_; refine lex_F rfl (by kernel_rfl) rfl rfl ?_) | (refine isLg rfl ?_; refine lex_S rfl (by kernel_rfl) rfl rfl ?_) | exact fin1 rfl rfl (by simp only [List.take_length]) | refine aops_nil ?_ | refine lex_done _ rfl (by kernel_rfl) ?_ | refine aw_ct rfl ?_ | refine aw_cf rfl ?_ | refine aw_block ?_ | with_reducible refine then_n ?_ | refine aw_skip ?_ | refine aw_exit ?_ | (with_reducible first | refine then_x ?_ | refine then_r ?_ | refine block_x ?_ | refine block_n ?_ | refine block_r ?_) | refine aw_ret ?_
theorem c_stot (xs : List Rw) (hl : xs.length ≤ 1000000000) : Meets Go.Proofs.Try.prog 90 [rwL xs] [] (I (totV xs)) [] false := by
  refine meets_of [2] Go.Proofs.Try.func90 rfl rfl ?_
  simp only [Go.Proofs.Try.ntmps90, List.length_cons, List.length_nil, Nat.reduceAdd, Nat.reduceSub, List.replicate_succ, List.replicate_zero, List.cons_append, List.nil_append]
  repeat' first | refine aw_seq ?_ | refine aw_region ?_ | refine aw_lex [] ?_ | (refine isA ?_; refine do_F rfl ?_) | (refine isL ?_; refine lex_F rfl (by kernel_rfl) rfl rfl ?_) | (refine isLg rfl ?_; refine lex_S rfl (by kernel_rfl) rfl rfl ?_) | refine aops_nil ?_ | refine lex_done _ rfl (by kernel_rfl) ?_ | refine aw_ct rfl ?_ | refine aw_cf rfl ?_ | refine aw_block ?_ | with_reducible refine then_n ?_ | refine aw_skip ?_ | refine aw_exit ?_ | (with_reducible first | refine then_x ?_ | refine then_r ?_ | refine block_x ?_ | refine block_n ?_ | refine block_r ?_) | refine aw_ret ?_
  refine aw_loop (α := { i : Nat // i ≤ xs.length }) (fun i => ⟨[rwL xs, .any, .any, I (totV (xs.take i.1)), I i.1, .any, .any, .any, .any, .any, .any, .any, .any, .any, .any, .any, .any, .any, .any], [], 0⟩) (fun i => xs.length - i.1) ⟨0, Nat.zero_le _⟩ ?_ ?_
  · exact sub0 [] rfl rfl (by decide) .nil (by repeat' first | exact les_nil | refine les_cons ?_ ?_ | exact le_any | exact le_refl rfl | exact le_sl rfl rfl | exact le_ptr rfl)
  · rintro ⟨i, hi⟩
    repeat' first | refine aw_seq ?_ | refine aw_region ?_ | refine aw_lex [] ?_ | (refine isA ?_; refine do_F rfl ?_) | (refine isL ?_; refine lex_F rfl (by kernel_rfl) rfl rfl ?_) | (refine isLg rfl ?_; refine lex_S rfl (by kernel_rfl) rfl rfl ?_) | refine aops_nil ?_ | refine lex_done _ rfl (by kernel_rfl) ?_ | refine aw_ct rfl ?_ | refine aw_cf rfl ?_ | refine aw_block ?_ | with_reducible refine then_n ?_ | refine aw_skip ?_ | refine aw_exit ?_ | (with_reducible first | refine then_x ?_ | refine then_r ?_ | refine block_x ?_ | refine block_n ?_ | refine block_r ?_) | refine aw_ret ?_
    refine aw_cond rfl (fun h => ?_) (fun h => ?_)
    · have hlt : i < xs.length := by simpa using h
      obtain ⟨z, hz⟩ : ∃ z, xs[i]? = some z := ⟨_, List.getElem?_eq_getElem hlt⟩
      repeat' first | refine aw_seq ?_ | refine aw_region ?_ | refine aw_lex [] ?_ | (refine isA ?_; refine do_F rfl ?_) | (refine isL ?_; refine lex_F rfl (by kernel_rfl) rfl rfl ?_) | (refine isLg rfl ?_; refine lex_S rfl (by kernel_rfl) rfl rfl ?_) | refine do_R rfl (ia_l (z := z) rfl rfl rfl rfl (Int.natCast_nonneg _) hz) rfl ?_ | refine lex_R rfl (by kernel_rfl) rfl (ia_l (z := z) rfl rfl rfl rfl (Int.natCast_nonneg _) hz) rfl ?_ | (refine isAc 67 ?_; refine do_R rfl (st_call rfl (c_src z) (.cons (.same rfl) .nil) rfl) rfl ?_) | (refine isLc 67 rfl ?_; refine lex_R rfl (by kernel_rfl) rfl (st_call rfl (c_src z) (.cons (.same rfl) .nil) rfl) rfl ?_) | refine aops_nil ?_ | refine lex_done _ rfl (by kernel_rfl) ?_ | refine aw_ct rfl ?_ | refine aw_cf rfl ?_ | refine aw_block ?_ | with_reducible refine then_n ?_ | refine aw_skip ?_ | refine aw_exit ?_ | (with_reducible first | refine then_x ?_ | refine then_r ?_ | refine block_x ?_ | refine block_n ?_ | refine block_r ?_) | refine aw_ret ?_
      refine ⟨⟨i + 1, hlt⟩, by simp only; omega, ?_⟩
      exact sub0 [] rfl rfl (by decide) .nil (by
        repeat' first | exact les_nil | refine les_cons ?_ ?_ | exact le_any | exact le_refl rfl | exact le_eq (tot_wrap hz hl).symm rfl | exact le_i (by assumption) (by omega))
    · have hge : i = xs.length := by
        have : ¬ ((i : Int) < xs.length) := by simpa using h
        omega
      subst hge
      repeat' first | refine aw_seq ?_ | refine aw_region ?_ | refine aw_lex [] ?_ | (refine isA ?_; refine do_F rfl ?_) | (refine isL ?_; refine lex_F rfl (by kernel_rfl) rfl rfl ?_) | (refine isLg rfl ?_; refine lex_S rfl (by kernel_rfl) rfl rfl ?_) | exact fin1 rfl rfl (by simp only [List.take_length]) | refine aops_nil ?_ | refine lex_done _ rfl (by kernel_rfl) ?_ | refine aw_ct rfl ?_ | refine aw_cf rfl ?_ | refine aw_block ?_ | with_reducible refine then_n ?_ | refine aw_skip ?_ | refine aw_exit ?_ | (with_reducible first | refine then_x ?_ | refine then_r ?_ | refine block_x ?_ | refine block_n ?_ | refine block_r ?_) | refine aw_ret ?_

/-! ### In order -/
theorem iso_take {xs : List Rw} {i : Nat} {z y : Rw} (h : Srt (xs.take (i + 1))) (hz : xs[i + 1]? = some z) (hy : xs[i]? = some y) (hle : leW y z) : Srt (xs.take (i + 2)) := by
  rw [take_snoc hz]
  refine List.pairwise_append.2 ⟨h, List.pairwise_singleton _ _, fun a ha c hc => ?_⟩
  have hc' : c = z := by simpa using hc
  subst hc'
  obtain ⟨j, hj⟩ := List.getElem?_of_mem ha
  have hlt := (List.getElem?_eq_some_iff.1 hj).1
  simp only [List.length_take] at hlt
  have hy' : (xs.take (i + 1))[i]? = some y := by rw [List.getElem?_take_of_lt (by omega)]; exact hy
  exact leW_trans (srt_le h (show j ≤ i by omega) hj hy') hle
theorem iso_no {xs : List Rw} {i : Nat} {z y : Rw} (hz : xs[i + 1]? = some z) (hy : xs[i]? = some y) (hle : ¬ leW y z) : isoV xs = false := by
  refine decide_eq_false fun h => hle ?_
  exact srt_le h (Nat.le_succ i) hy hz
theorem iso_yes {xs : List Rw} {i : Nat} (h : Srt (xs.take i)) (hi : xs.length ≤ i) : isoV xs = true := by
  rw [List.take_of_length_le hi] at h
  exact decide_eq_true h
theorem srt_one (xs : List Rw) : Srt (xs.take 1) := by
  cases xs with
  | nil => exact List.Pairwise.nil
  | cons x xs => exact List.pairwise_singleton _ _
theorem c_iiso (xs : List Rw) (hl : xs.length ≤ 1000000000) : Meets Go.Proofs.Try.prog 77 [rwL xs] [] (B (isoV xs)) [] false := by
  refine meets_of [2] Go.Proofs.Try.func77 rfl rfl ?_
  simp only [Go.Proofs.Try.ntmps77, List.length_cons, List.length_nil, Nat.reduceAdd, Nat.reduceSub, List.replicate_succ, List.replicate_zero, List.cons_append, List.nil_append]
  repeat' first | refine aw_seq ?_ | refine aw_region ?_ | refine aw_lex [] ?_ | (refine isA ?_; refine do_F rfl ?_) | (refine isL ?_; refine lex_F rfl (by kernel_rfl) rfl rfl ?_) | (refine isLg rfl ?_; refine lex_S rfl (by kernel_rfl) rfl rfl ?_) | refine aops_nil ?_ | refine lex_done _ rfl (by kernel_rfl) ?_ | refine aw_ct rfl ?_ | refine aw_cf rfl ?_ | refine aw_block ?_ | with_reducible refine then_n ?_ | refine aw_skip ?_ | refine aw_exit ?_ | (with_reducible first | refine then_x ?_ | refine then_r ?_ | refine block_x ?_ | refine block_n ?_ | refine block_r ?_) | refine aw_ret ?_
  refine aw_loop (α := { i : Nat // Srt (xs.take (i + 1)) }) (fun i => ⟨[rwL xs, .any, .any, I ((i.1 + 1 : Nat) : Int), .any, .any, .any, .any, .any, .any, .any, .any, .any, .any, .any, .any, .any, .any, .any, .any, .any], [], 0⟩) (fun i => xs.length - i.1) ⟨0, srt_one xs⟩ ?_ ?_
  · exact sub0 [] rfl rfl (by decide) .nil (by repeat' first | exact les_nil | refine les_cons ?_ ?_ | exact le_any | exact le_refl rfl | exact le_sl rfl rfl | exact le_ptr rfl)
  · rintro ⟨i, hi⟩
    repeat' first | refine aw_seq ?_ | refine aw_region ?_ | refine aw_lex [] ?_ | (refine isA ?_; refine do_F rfl ?_) | (refine isL ?_; refine lex_F rfl (by kernel_rfl) rfl rfl ?_) | (refine isLg rfl ?_; refine lex_S rfl (by kernel_rfl) rfl rfl ?_) | refine aops_nil ?_ | refine lex_done _ rfl (by kernel_rfl) ?_ | refine aw_ct rfl ?_ | refine aw_cf rfl ?_ | refine aw_block ?_ | with_reducible refine then_n ?_ | refine aw_skip ?_ | refine aw_exit ?_ | (with_reducible first | refine then_x ?_ | refine then_r ?_ | refine block_x ?_ | refine block_n ?_ | refine block_r ?_) | refine aw_ret ?_
    refine aw_cond rfl (fun h => ?_) (fun h => ?_)
    · have hlt : i + 1 < xs.length := by have := of_decide_eq_true h; simp only at this; omega
      obtain ⟨z, hz⟩ : ∃ z, xs[i + 1]? = some z := ⟨_, List.getElem?_eq_getElem hlt⟩
      obtain ⟨y, hy⟩ : ∃ z, xs[i]? = some z := ⟨_, List.getElem?_eq_getElem (by omega)⟩
      have ew : IntKind.i64.wrap (((i + 1 : Nat) : Int) - 1) = ((i : Nat) : Int) := by rw [IntKind.wrap_i64]; omega
      repeat' first | refine aw_seq ?_ | refine aw_region ?_ | refine aw_lex [] ?_ | (refine isA ?_; refine do_F rfl ?_) | (refine isL ?_; refine lex_F rfl (by kernel_rfl) rfl rfl ?_) | (refine isLg rfl ?_; refine lex_S rfl (by kernel_rfl) rfl rfl ?_) | (refine isAi (x := .tmp 10) ?_; refine do_R rfl (ia_l (t := rwT) (z := z) rfl rfl rfl rfl (Int.natCast_nonneg _) hz) rfl ?_) | (refine isLi (x := .tmp 10) rfl ?_; refine lex_R rfl (by kernel_rfl) rfl (ia_l (t := rwT) (z := z) rfl rfl rfl rfl (Int.natCast_nonneg _) hz) rfl ?_) | (refine isAi (x := .tmp 14) ?_; refine do_R rfl (ia_l (t := rwT) (j := ((i : Nat) : Int)) (z := y) rfl rfl rfl (congrArg I ew) (Int.natCast_nonneg _) hy) rfl ?_) | (refine isLi (x := .tmp 14) rfl ?_; refine lex_R rfl (by kernel_rfl) rfl (ia_l (t := rwT) (j := ((i : Nat) : Int)) (z := y) rfl rfl rfl (congrArg I ew) (Int.natCast_nonneg _) hy) rfl ?_) | (refine isAc 64 ?_; refine do_R rfl (st_call rfl (c_icmp z y) (.cons (.same rfl) (.cons (.same rfl) .nil)) rfl) rfl ?_) | (refine isLc 64 rfl ?_; refine lex_R rfl (by kernel_rfl) rfl (st_call rfl (c_icmp z y) (.cons (.same rfl) (.cons (.same rfl) .nil)) rfl) rfl ?_) | refine aops_nil ?_ | refine lex_done _ rfl (by kernel_rfl) ?_ | refine aw_ct rfl ?_ | refine aw_cf rfl ?_ | refine aw_block ?_ | with_reducible refine then_n ?_ | refine aw_skip ?_ | refine aw_exit ?_ | (with_reducible first | refine then_x ?_ | refine then_r ?_ | refine block_x ?_ | refine block_n ?_ | refine block_r ?_) | refine aw_ret ?_
      refine aw_cond rfl (fun p => ?_) (fun p => ?_)
      · have e := iso_no hz hy (cmp_neg.1 (of_decide_eq_true p))
        repeat' first | refine aw_seq ?_ | refine aw_region ?_ | refine aw_lex [] ?_ | (refine isA ?_; refine do_F rfl ?_) | (refine isL ?_; refine lex_F rfl (by kernel_rfl) rfl rfl ?_) | (refine isLg rfl ?_; refine lex_S rfl (by kernel_rfl) rfl rfl ?_) | exact fin1 rfl rfl (by rw [e]) | refine aops_nil ?_ | refine lex_done _ rfl (by kernel_rfl) ?_ | refine aw_ct rfl ?_ | refine aw_cf rfl ?_ | refine aw_block ?_ | with_reducible refine then_n ?_ | refine aw_skip ?_ | refine aw_exit ?_ | (with_reducible first | refine then_x ?_ | refine then_r ?_ | refine block_x ?_ | refine block_n ?_ | refine block_r ?_) | refine aw_ret ?_
      · have q : leW y z := Classical.byContradiction fun hn => absurd (cmp_neg.2 hn) (of_decide_eq_false p)
        repeat' first | refine aw_seq ?_ | refine aw_region ?_ | refine aw_lex [] ?_ | (refine isA ?_; refine do_F rfl ?_) | (refine isL ?_; refine lex_F rfl (by kernel_rfl) rfl rfl ?_) | (refine isLg rfl ?_; refine lex_S rfl (by kernel_rfl) rfl rfl ?_) | refine aops_nil ?_ | refine lex_done _ rfl (by kernel_rfl) ?_ | refine aw_ct rfl ?_ | refine aw_cf rfl ?_ | refine aw_block ?_ | with_reducible refine then_n ?_ | refine aw_skip ?_ | refine aw_exit ?_ | (with_reducible first | refine then_x ?_ | refine then_r ?_ | refine block_x ?_ | refine block_n ?_ | refine block_r ?_) | refine aw_ret ?_
        refine ⟨⟨i + 1, iso_take hi hz hy q⟩, by simp only; omega, ?_⟩
        exact sub0 [] rfl rfl (by decide) .nil (by
          repeat' first | exact les_nil | refine les_cons ?_ ?_ | exact le_any | exact le_refl rfl | exact le_k (congrArg _ (show ((i + 1 + 1 : Nat) : Int) = IntKind.i64.wrap (((i + 1 : Nat) : Int) + 1) by rw [IntKind.wrap_i64]; omega)))
    · have e := iso_yes hi (by have := of_decide_eq_false h; simp only at this; omega)
      repeat' first | refine aw_seq ?_ | refine aw_region ?_ | refine aw_lex [] ?_ | (refine isA ?_; refine do_F rfl ?_) | (refine isL ?_; refine lex_F rfl (by kernel_rfl) rfl rfl ?_) | (refine isLg rfl ?_; refine lex_S rfl (by kernel_rfl) rfl rfl ?_) | exact fin1 rfl rfl (by rw [e]) | refine aops_nil ?_ | refine lex_done _ rfl (by kernel_rfl) ?_ | refine aw_ct rfl ?_ | refine aw_cf rfl ?_ | refine aw_block ?_ | with_reducible refine then_n ?_ | refine aw_skip ?_ | refine aw_exit ?_ | (with_reducible first | refine then_x ?_ | refine then_r ?_ | refine block_x ?_ | refine block_n ?_ | refine block_r ?_) | refine aw_ret ?_
theorem c_siso (xs : List Rw) (hl : xs.length ≤ 1000000000) : Meets Go.Proofs.Try.prog 84 [rwL xs] [] (B (isoV xs)) [] false := by
  refine meets_of [2] Go.Proofs.Try.func84 rfl rfl ?_
  simp only [Go.Proofs.Try.ntmps84, List.length_cons, List.length_nil, Nat.reduceAdd, Nat.reduceSub, List.replicate_succ, List.replicate_zero, List.cons_append, List.nil_append]
  repeat' first | refine aw_seq ?_ | refine aw_region ?_ | refine aw_lex [] ?_ | (refine isA ?_; refine do_F rfl ?_) | (refine isL ?_; refine lex_F rfl (by kernel_rfl) rfl rfl ?_) | (refine isLg rfl ?_; refine lex_S rfl (by kernel_rfl) rfl rfl ?_) | refine aops_nil ?_ | refine lex_done _ rfl (by kernel_rfl) ?_ | refine aw_ct rfl ?_ | refine aw_cf rfl ?_ | refine aw_block ?_ | with_reducible refine then_n ?_ | refine aw_skip ?_ | refine aw_exit ?_ | (with_reducible first | refine then_x ?_ | refine then_r ?_ | refine block_x ?_ | refine block_n ?_ | refine block_r ?_) | refine aw_ret ?_
  refine aw_loop (α := { i : Nat // Srt (xs.take (i + 1)) }) (fun i => ⟨[rwL xs, .any, .any, I ((i.1 + 1 : Nat) : Int), .any, .any, .any, .any, .any, .any, .any, .any, .any, .any, .any, .any, .any, .any, .any, .any, .any], [], 0⟩) (fun i => xs.length - i.1) ⟨0, srt_one xs⟩ ?_ ?_
  · exact sub0 [] rfl rfl (by decide) .nil (by repeat' first | exact les_nil | refine les_cons ?_ ?_ | exact le_any | exact le_refl rfl | exact le_sl rfl rfl | exact le_ptr rfl)
  · rintro ⟨i, hi⟩
    repeat' first | refine aw_seq ?_ | refine aw_region ?_ | refine aw_lex [] ?_ | (refine isA ?_; refine do_F rfl ?_) | (refine isL ?_; refine lex_F rfl (by kernel_rfl) rfl rfl ?_) | (refine isLg rfl ?_; refine lex_S rfl (by kernel_rfl) rfl rfl ?_) | refine aops_nil ?_ | refine lex_done _ rfl (by kernel_rfl) ?_ | refine aw_ct rfl ?_ | refine aw_cf rfl ?_ | refine aw_block ?_ | with_reducible refine then_n ?_ | refine aw_skip ?_ | refine aw_exit ?_ | (with_reducible first | refine then_x ?_ | refine then_r ?_ | refine block_x ?_ | refine block_n ?_ | refine block_r ?_) | refine aw_ret ?_
    refine aw_cond rfl (fun h => ?_) (fun h => ?_)
    · have hlt : i + 1 < xs.length := by have := of_decide_eq_true h; simp only at this; omega
      obtain ⟨z, hz⟩ : ∃ z, xs[i + 1]? = some z := ⟨_, List.getElem?_eq_getElem hlt⟩
      obtain ⟨y, hy⟩ : ∃ z, xs[i]? = some z := ⟨_, List.getElem?_eq_getElem (by omega)⟩
      have ew : IntKind.i64.wrap (((i + 1 : Nat) : Int) - 1) = ((i : Nat) : Int) := by rw [IntKind.wrap_i64]; omega
      repeat' first | refine aw_seq ?_ | refine aw_region ?_ | refine aw_lex [] ?_ | (refine isA ?_; refine do_F rfl ?_) | (refine isL ?_; refine lex_F rfl (by kernel_rfl) rfl rfl ?_) | (refine isLg rfl ?_; refine lex_S rfl (by kernel_rfl) rfl rfl ?_) | (refine isAi (x := .tmp 15) ?_; refine do_R rfl (ia_l (t := rwT) (z := z) rfl rfl rfl rfl (Int.natCast_nonneg _) hz) rfl ?_) | (refine isLi (x := .tmp 15) rfl ?_; refine lex_R rfl (by kernel_rfl) rfl (ia_l (t := rwT) (z := z) rfl rfl rfl rfl (Int.natCast_nonneg _) hz) rfl ?_) | (refine isAi (x := .tmp 10) ?_; refine do_R rfl (ia_l (t := rwT) (j := ((i : Nat) : Int)) (z := y) rfl rfl rfl (congrArg I ew) (Int.natCast_nonneg _) hy) rfl ?_) | (refine isLi (x := .tmp 10) rfl ?_; refine lex_R rfl (by kernel_rfl) rfl (ia_l (t := rwT) (j := ((i : Nat) : Int)) (z := y) rfl rfl rfl (congrArg I ew) (Int.natCast_nonneg _) hy) rfl ?_) | (refine isAc 68 ?_; refine do_R rfl (st_call rfl (c_scmp y z) (.cons (.same rfl) (.cons (.same rfl) .nil)) rfl) rfl ?_) | (refine isLc 68 rfl ?_; refine lex_R rfl (by kernel_rfl) rfl (st_call rfl (c_scmp y z) (.cons (.same rfl) (.cons (.same rfl) .nil)) rfl) rfl ?_) | refine aops_nil ?_ | refine lex_done _ rfl (by kernel_rfl) ?_ | refine aw_ct rfl ?_ | refine aw_cf rfl ?_ | refine aw_block ?_ | with_reducible refine then_n ?_ | refine aw_skip ?_ | refine aw_exit ?_ | (with_reducible first | refine then_x ?_ | refine then_r ?_ | refine block_x ?_ | refine block_n ?_ | refine block_r ?_) | refine aw_ret ?_
      refine aw_cond rfl (fun p => ?_) (fun p => ?_)
      · have e := iso_no hz hy (fun h => by have h : cmpV y z ≤ 0 := h; have := of_decide_eq_true p; omega)
        repeat' first | refine aw_seq ?_ | refine aw_region ?_ | refine aw_lex [] ?_ | (refine isA ?_; refine do_F rfl ?_) | (refine isL ?_; refine lex_F rfl (by kernel_rfl) rfl rfl ?_) | (refine isLg rfl ?_; refine lex_S rfl (by kernel_rfl) rfl rfl ?_) | exact fin1 rfl rfl (by rw [e]) | refine aops_nil ?_ | refine lex_done _ rfl (by kernel_rfl) ?_ | refine aw_ct rfl ?_ | refine aw_cf rfl ?_ | refine aw_block ?_ | with_reducible refine then_n ?_ | refine aw_skip ?_ | refine aw_exit ?_ | (with_reducible first | refine then_x ?_ | refine then_r ?_ | refine block_x ?_ | refine block_n ?_ | refine block_r ?_) | refine aw_ret ?_
      · have q : leW y z := by show cmpV y z ≤ 0; have := of_decide_eq_false p; omega
        repeat' first | refine aw_seq ?_ | refine aw_region ?_ | refine aw_lex [] ?_ | (refine isA ?_; refine do_F rfl ?_) | (refine isL ?_; refine lex_F rfl (by kernel_rfl) rfl rfl ?_) | (refine isLg rfl ?_; refine lex_S rfl (by kernel_rfl) rfl rfl ?_) | refine aops_nil ?_ | refine lex_done _ rfl (by kernel_rfl) ?_ | refine aw_ct rfl ?_ | refine aw_cf rfl ?_ | refine aw_block ?_ | with_reducible refine then_n ?_ | refine aw_skip ?_ | refine aw_exit ?_ | (with_reducible first | refine then_x ?_ | refine then_r ?_ | refine block_x ?_ | refine block_n ?_ | refine block_r ?_) | refine aw_ret ?_
        refine ⟨⟨i + 1, iso_take hi hz hy q⟩, by simp only; omega, ?_⟩
        exact sub0 [] rfl rfl (by decide) .nil (by
          repeat' first | exact les_nil | refine les_cons ?_ ?_ | exact le_any | exact le_refl rfl | exact le_k (congrArg _ (show ((i + 1 + 1 : Nat) : Int) = IntKind.i64.wrap (((i + 1 : Nat) : Int) + 1) by rw [IntKind.wrap_i64]; omega)))
    · have e := iso_yes hi (by have := of_decide_eq_false h; simp only at this; omega)
      repeat' first | refine aw_seq ?_ | refine aw_region ?_ | refine aw_lex [] ?_ | (refine isA ?_; refine do_F rfl ?_) | (refine isL ?_; refine lex_F rfl (by kernel_rfl) rfl rfl ?_) | (refine isLg rfl ?_; refine lex_S rfl (by kernel_rfl) rfl rfl ?_) | exact fin1 rfl rfl (by rw [e]) | refine aops_nil ?_ | refine lex_done _ rfl (by kernel_rfl) ?_ | refine aw_ct rfl ?_ | refine aw_cf rfl ?_ | refine aw_block ?_ | with_reducible refine then_n ?_ | refine aw_skip ?_ | refine aw_exit ?_ | (with_reducible first | refine then_x ?_ | refine then_r ?_ | refine block_x ?_ | refine block_n ?_ | refine block_r ?_) | refine aw_ret ?_

/-! ### Before the last -/
theorem c_below (x : Rw) (out : List Rw) (hl : out.length ≤ 1000000000) : Meets Go.Proofs.Try.prog 59 [.agg (rwE x), rwL out] [] (B (bel x out)) [] false := by
  rcases Nat.eq_zero_or_pos out.length with h0 | h0
  · rw [List.eq_nil_of_length_eq_zero h0]
    refine meets_of [4] Go.Proofs.Try.func59 rfl rfl ?_
    simp only [Go.Proofs.Try.ntmps59, List.length_cons, List.length_nil, Nat.reduceAdd, Nat.reduceSub, List.replicate_succ, List.replicate_zero, List.cons_append, List.nil_append]
    repeat' first | refine aw_seq ?_ | refine aw_region ?_ | refine aw_lex [] ?_ | (refine isA ?_; refine do_F rfl ?_) | (refine isL ?_; refine lex_F rfl (by kernel_rfl) rfl rfl ?_) | (refine isLg rfl ?_; refine lex_S rfl (by kernel_rfl) rfl rfl ?_) | exact fin1 rfl rfl rfl | refine aops_nil ?_ | refine lex_done _ rfl (by kernel_rfl) ?_ | refine aw_ct rfl ?_ | refine aw_cf rfl ?_ | refine aw_block ?_ | with_reducible refine then_n ?_ | refine aw_skip ?_ | refine aw_exit ?_ | (with_reducible first | refine then_x ?_ | refine then_r ?_ | refine block_x ?_ | refine block_n ?_ | refine block_r ?_) | refine aw_ret ?_
  · obtain ⟨y, hy⟩ : ∃ z, out[out.length - 1]? = some z := ⟨_, List.getElem?_eq_getElem (by omega)⟩
    have ew : IntKind.i64.wrap ((out.length : Int) - 1) = ((out.length - 1 : Nat) : Int) := by rw [IntKind.wrap_i64]; omega
    have e : bel x out = decide (cmpV x y < 0) := by unfold bel; rw [hy]; rfl
    refine meets_of [4] Go.Proofs.Try.func59 rfl rfl ?_
    simp only [Go.Proofs.Try.ntmps59, List.length_cons, List.length_nil, Nat.reduceAdd, Nat.reduceSub, List.replicate_succ, List.replicate_zero, List.cons_append, List.nil_append]
    repeat' first | refine aw_seq ?_ | refine aw_region ?_ | refine aw_lex [] ?_ | (refine isA ?_; refine do_F rfl ?_) | (refine isL ?_; refine lex_F rfl (by kernel_rfl) rfl rfl ?_) | (refine isLg rfl ?_; refine lex_S rfl (by kernel_rfl) rfl rfl ?_) | refine aops_nil ?_ | refine lex_done _ rfl (by kernel_rfl) ?_ | refine aw_ct rfl ?_ | refine aw_cf rfl ?_ | refine aw_block ?_ | with_reducible refine then_n ?_ | refine aw_skip ?_ | refine aw_exit ?_ | (with_reducible first | refine then_x ?_ | refine then_r ?_ | refine block_x ?_ | refine block_n ?_ | refine block_r ?_) | refine aw_ret ?_
    refine lex_br rfl rfl rfl rfl (fun p1 => ?_) (fun p1 => absurd (of_decide_eq_false p1) (by omega))
    repeat' first | refine aw_seq ?_ | refine aw_region ?_ | refine aw_lex [] ?_ | (refine isA ?_; refine do_F rfl ?_) | (refine isL ?_; refine lex_F rfl (by kernel_rfl) rfl rfl ?_) | (refine isLg rfl ?_; refine lex_S rfl (by kernel_rfl) rfl rfl ?_) | (refine isAi ?_; refine do_R rfl (ia_l (t := rwT) (j := ((out.length - 1 : Nat) : Int)) (z := y) rfl rfl rfl (congrArg I ew) (Int.natCast_nonneg _) hy) rfl ?_) | (refine isLi rfl ?_; refine lex_R rfl (by kernel_rfl) rfl (ia_l (t := rwT) (j := ((out.length - 1 : Nat) : Int)) (z := y) rfl rfl rfl (congrArg I ew) (Int.natCast_nonneg _) hy) rfl ?_) | (refine isAc 64 ?_; refine do_R rfl (st_call rfl (c_icmp x y) (.cons (.same rfl) (.cons (.same rfl) .nil)) rfl) rfl ?_) | (refine isLc 64 rfl ?_; refine lex_R rfl (by kernel_rfl) rfl (st_call rfl (c_icmp x y) (.cons (.same rfl) (.cons (.same rfl) .nil)) rfl) rfl ?_) | exact fin1 rfl rfl (by rw [e]) | refine aops_nil ?_ | refine lex_done _ rfl (by kernel_rfl) ?_ | refine aw_ct rfl ?_ | refine aw_cf rfl ?_ | refine aw_block ?_ | with_reducible refine then_n ?_ | refine aw_skip ?_ | refine aw_exit ?_ | (with_reducible first | refine then_x ?_ | refine then_r ?_ | refine block_x ?_ | refine block_n ?_ | refine block_r ?_) | refine aw_ret ?_
end Go.Proofs.Ytojcojanokhnaaa.Ab
