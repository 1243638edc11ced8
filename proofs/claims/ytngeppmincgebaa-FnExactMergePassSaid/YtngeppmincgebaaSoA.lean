/-
  Sorters: copies, comparisons, sizes, marks held.
-/
import Derived.Test.YtngeppmincgebaaRnC
namespace Go.Proofs.Ytngeppmincgebaa.Ab
open Go.RowKit
set_option linter.unusedVariables false
set_option linter.unusedSimpArgs false
set_option maxRecDepth 20000
set_option maxHeartbeats 2000000

structure So where
  input : List Rw
  pos : Int
  heap : List Rw
  dfr : List Rw
  out : List Rw
  runs : List Rn
  lp : Int
  rp : Int
  ph : Int
  wr : Int
def soE (s : So) : List V := [rwL s.input, I s.pos, rwL s.heap, rwL s.dfr, rwL s.out, rnL s.runs, I s.lp, I s.rp, I s.ph, I s.wr]
structure okSo (s : So) : Prop where
  input : s.input.length ≤ 10000000
  heap : s.heap.length ≤ 10000000
  dfr : s.dfr.length ≤ 10000000
  out : s.out.length ≤ 10000000
  runs : s.runs.length ≤ 10000000
  tot : tot s.runs ≤ 10000000
theorem okSo.rn {s : So} (h : okSo s) : okRn s.runs := ⟨by have := h.runs; omega, fun x hx => by
  have : x.length ≤ Ab.tot s.runs := mem_sum (List.mem_map.2 ⟨x, hx, rfl⟩)
  have := h.tot
  omega⟩

theorem c_toSorter (s : So) (hok : okSo s) : Meets Go.Proofs.Try.prog 53 [.agg (soE s)] [] (.agg (soE s)) [] true := by
  have g1 := hok.input
  have g2 := hok.heap
  have g3 := hok.dfr
  have g4 := hok.out
  have g5 := hok.rn
  refine meets_ofC 2 59 Go.Proofs.Try.func53 rfl rfl ?_
  simp only [Go.Proofs.Try.ntmps53, List.length_cons, List.length_nil, Nat.reduceAdd, Nat.reduceSub, List.replicate_succ, List.replicate_zero, List.cons_append, List.nil_append]
  repeat' first
    | refine aw_seq ?_
    | refine aw_region ?_
    | refine aw_lex [] ?_
    | (refine isA ?_; refine do_F rfl ?_)
    | (refine isL ?_; refine lex_F rfl (by kernel_rfl) rfl rfl ?_)
    | (refine isLg rfl ?_; refine lex_S rfl (by kernel_rfl) rfl rfl ?_)
    | (refine isAc 17 (x := #[.tmp 5]) ?_; refine do_R rfl (st_call rfl (c_toRowS _ (by omega)) (.cons (.same rfl) .nil) rfl) rfl ?_)
    | (refine isLc 17 (x := #[.tmp 5]) rfl ?_; refine lex_R rfl (by kernel_rfl) rfl (st_call rfl (c_toRowS _ (by omega)) (.cons (.same rfl) .nil) rfl) rfl ?_)
    | (refine isAc 17 (x := #[.tmp 12]) ?_; refine do_R rfl (st_call rfl (c_toRowS _ (by omega)) (.cons (.same rfl) .nil) rfl) rfl ?_)
    | (refine isLc 17 (x := #[.tmp 12]) rfl ?_; refine lex_R rfl (by kernel_rfl) rfl (st_call rfl (c_toRowS _ (by omega)) (.cons (.same rfl) .nil) rfl) rfl ?_)
    | (refine isAc 17 (x := #[.tmp 16]) ?_; refine do_R rfl (st_call rfl (c_toRowS _ (by omega)) (.cons (.same rfl) .nil) rfl) rfl ?_)
    | (refine isLc 17 (x := #[.tmp 16]) rfl ?_; refine lex_R rfl (by kernel_rfl) rfl (st_call rfl (c_toRowS _ (by omega)) (.cons (.same rfl) .nil) rfl) rfl ?_)
    | (refine isAc 17 (x := #[.tmp 20]) ?_; refine do_R rfl (st_call rfl (c_toRowS _ (by omega)) (.cons (.same rfl) .nil) rfl) rfl ?_)
    | (refine isLc 17 (x := #[.tmp 20]) rfl ?_; refine lex_R rfl (by kernel_rfl) rfl (st_call rfl (c_toRowS _ (by omega)) (.cons (.same rfl) .nil) rfl) rfl ?_)
    | (refine isAc 31 ?_; refine do_R rfl (st_call rfl (c_toRunS _ g5) (.cons (.same rfl) .nil) rfl) rfl ?_)
    | (refine isLc 31 rfl ?_; refine lex_R rfl (by kernel_rfl) rfl (st_call rfl (c_toRunS _ g5) (.cons (.same rfl) .nil) rfl) rfl ?_)
    | exact finC (cell_is rfl rfl rfl rfl rfl) (.same rfl)
    | refine aops_nil ?_
    | refine lex_done _ rfl (by kernel_rfl) ?_
    | refine aw_ct rfl ?_
    | refine aw_cf rfl ?_
    | refine aw_block ?_
    | refine then_n ?_
    | refine aw_skip ?_
    | refine aw_exit ?_
    | refine then_x ?_
    | refine then_r ?_
    | refine block_x ?_
    | refine block_n ?_
    | refine block_r ?_
    | refine aw_ret ?_

theorem c_eqSorter (s : So) (hok : okSo s) : Meets Go.Proofs.Try.prog 48 [.agg (soE s), .agg (soE s)] [] (B true) [] false := by
  have g1 := hok.input
  have g2 := hok.heap
  have g3 := hok.dfr
  have g4 := hok.out
  have g5 := hok.rn
  refine meets_of [4] Go.Proofs.Try.func48 rfl rfl ?_
  simp only [Go.Proofs.Try.ntmps48, List.length_cons, List.length_nil, Nat.reduceAdd, Nat.reduceSub, List.replicate_succ, List.replicate_zero, List.cons_append, List.nil_append]
  repeat' first
    | (refine isA ?_; refine do_R rfl (neqI_same rfl rfl rfl) rfl ?_)
    | refine aw_seq ?_
    | refine aw_region ?_
    | refine aw_lex [] ?_
    | (refine isA ?_; refine do_F rfl ?_)
    | (refine isL ?_; refine lex_F rfl (by kernel_rfl) rfl rfl ?_)
    | (refine isLg rfl ?_; refine lex_S rfl (by kernel_rfl) rfl rfl ?_)
    | (refine isAc 19 (x := #[.tmp 6]) ?_; refine do_R rfl (st_call rfl (c_eqRowS _ (by omega)) (.cons (.same rfl) (.cons (.same rfl) .nil)) rfl) rfl ?_)
    | (refine isLc 19 (x := #[.tmp 6]) rfl ?_; refine lex_R rfl (by kernel_rfl) rfl (st_call rfl (c_eqRowS _ (by omega)) (.cons (.same rfl) (.cons (.same rfl) .nil)) rfl) rfl ?_)
    | (refine isAc 19 ?_; refine do_R rfl (st_call rfl (c_eqRowS _ (by omega)) (.cons (.same rfl) (.cons (.same rfl) .nil)) rfl) rfl ?_)
    | (refine isAc 33 ?_; refine do_R rfl (st_call rfl (c_eqRunS _ g5) (.cons (.same rfl) (.cons (.same rfl) .nil)) rfl) rfl ?_)
    | (refine isLc 33 rfl ?_; refine lex_R rfl (by kernel_rfl) rfl (st_call rfl (c_eqRunS _ g5) (.cons (.same rfl) (.cons (.same rfl) .nil)) rfl) rfl ?_)
    | exact fin1 rfl rfl rfl
    | refine aops_nil ?_
    | refine lex_done _ rfl (by kernel_rfl) ?_
    | refine aw_ct rfl ?_
    | refine aw_cf rfl ?_
    | refine aw_block ?_
    | refine then_n ?_
    | refine aw_skip ?_
    | refine aw_exit ?_
    | refine then_x ?_
    | refine then_r ?_
    | refine block_x ?_
    | refine block_n ?_
    | refine block_r ?_
    | refine aw_ret ?_

/-! ### Sizes -/
def szS (s : So) (l : Int) : Int :=
  let a := szL s.input.length l
  let b := szL s.heap.length a
  let c := szL s.dfr.length b
  let d := szL s.out.length c
  let e := szR s.runs d
  cond (decide (a < 0)) (-1) (cond (decide (b < 0)) (-1) (cond (decide (c < 0)) (-1) (cond (decide (d < 0)) (-1) (cond (decide (e < 0)) (-1) e))))
theorem c_szSorter (s : So) (l : Int) (hl : s.runs.length ≤ 9223372036854775807) : Meets Go.Proofs.Try.prog 51 [.agg (soE s), I l] [] (I (szS s l)) [] false := by
  refine meets_of [4] Go.Proofs.Try.func51 rfl rfl ?_
  simp only [Go.Proofs.Try.ntmps51, List.length_cons, List.length_nil, Nat.reduceAdd, Nat.reduceSub, List.replicate_succ, List.replicate_zero, List.cons_append, List.nil_append]
  repeat' first
    | refine aw_seq ?_
    | refine aw_region ?_
    | refine aw_lex [] ?_
    | (refine isA ?_; refine do_F rfl ?_)
    | (refine isL ?_; refine lex_F rfl (by kernel_rfl) rfl rfl ?_)
    | (refine isLg rfl ?_; refine lex_S rfl (by kernel_rfl) rfl rfl ?_)
    | (refine isAc 15 ?_; refine do_R rfl (st_call rfl (c_szRowS _ _) (.cons (.same rfl) (.cons (.same rfl) .nil)) rfl) rfl ?_)
    | (refine isLc 15 rfl ?_; refine lex_R rfl (by kernel_rfl) rfl (st_call rfl (c_szRowS _ _) (.cons (.same rfl) (.cons (.same rfl) .nil)) rfl) rfl ?_)
    | (refine isAc 29 ?_; refine do_R rfl (st_call rfl (c_szRunS _ _ hl) (.cons (.same rfl) (.cons (.same rfl) .nil)) rfl) rfl ?_)
    | (refine isLc 29 rfl ?_; refine lex_R rfl (by kernel_rfl) rfl (st_call rfl (c_szRunS _ _ hl) (.cons (.same rfl) (.cons (.same rfl) .nil)) rfl) rfl ?_)
    | refine aw_cond rfl (fun _ => ?_) (fun _ => ?_)
    | (refine fin1 rfl rfl ?_; simp only [szS, *, cond_true, cond_false]; done)
    | refine aops_nil ?_
    | refine lex_done _ rfl (by kernel_rfl) ?_
    | refine aw_ct rfl ?_
    | refine aw_cf rfl ?_
    | refine aw_block ?_
    | refine then_n ?_
    | refine aw_skip ?_
    | refine aw_exit ?_
    | refine then_x ?_
    | refine then_r ?_
    | refine block_x ?_
    | refine block_n ?_
    | refine block_r ?_
    | refine aw_ret ?_
theorem szL_ok {n : Nat} {l : Int} (hn : n ≤ 9223372036854775807) (h0 : 0 ≤ l) (h1 : l ≤ 1048576) (h : decide (szL n l < 0) = false) : (n : Int) ≤ l ∧ szL n l = l - n := by
  have e : IntKind.i64.wrap (l - n) = l - n := by rw [IntKind.wrap_i64]; omega
  unfold szL at h ⊢
  rw [e] at h ⊢
  by_cases hc : l - (n : Int) < 0
  · rw [decide_eq_true hc] at h; cases h
  · rw [show decide (l - (n : Int) < 0) = false from decide_eq_false hc, cond_false]
    exact ⟨by omega, rfl⟩
/-- What every sorter that can be read is. -/
structure rdSo (s : So) : Prop where
  input : s.input.length ≤ 9223372036854775807
  heap : s.heap.length ≤ 9223372036854775807
  dfr : s.dfr.length ≤ 9223372036854775807
  out : s.out.length ≤ 9223372036854775807
  runs : s.runs.length ≤ 9223372036854775807
  each : ∀ x ∈ s.runs, x.length ≤ 9223372036854775807
theorem szS_ok {s : So} {l : Int} (hr : rdSo s) (h0 : 0 ≤ l) (h1 : l ≤ 1048576) (h : decide (szS s l < 0) = false) : okSo s ∧ (s.input.length : Int) + s.heap.length + s.dfr.length + s.out.length + s.runs.length + tot s.runs ≤ l ∧ 0 ≤ szS s l ∧ szS s l ≤ l := by
  unfold szS at h ⊢
  simp only at h ⊢
  have neg : ∀ {b : Bool} {x : Int}, decide (cond b (-1) x < 0) = false → b = false := fun {b x} h => by cases b <;> first | rfl | cases h
  have e1 := neg h
  simp only [e1, cond_false] at h ⊢
  have e2 := neg h
  simp only [e2, cond_false] at h ⊢
  have e3 := neg h
  simp only [e3, cond_false] at h ⊢
  have e4 := neg h
  simp only [e4, cond_false] at h ⊢
  have e5 := neg h
  simp only [e5, cond_false] at h ⊢
  obtain ⟨a1, a2⟩ := szL_ok hr.input h0 h1 e1
  rw [a2] at e2 e3 e4 e5 ⊢
  obtain ⟨b1, b2⟩ := szL_ok hr.heap (by omega) (by omega) e2
  rw [b2] at e3 e4 e5 ⊢
  obtain ⟨c1, c2⟩ := szL_ok hr.dfr (by omega) (by omega) e3
  rw [c2] at e4 e5 ⊢
  obtain ⟨d1, d2⟩ := szL_ok hr.out (by omega) (by omega) e4
  rw [d2] at e5 ⊢
  obtain ⟨f1, f2⟩ := szR_ok hr.runs hr.each (by omega) (by omega) e5
  rw [f2]
  exact ⟨⟨by omega, by omega, by omega, by omega, by omega, by omega⟩, by omega, by omega, by omega⟩

/-! ### Marks held -/
def totS (s : So) : Nat := s.input.length + s.heap.length + s.dfr.length + s.out.length + tot s.runs
def mkSo (k : Int) (s : So) : So :=
  ⟨mkC k s.input s.input.length, s.pos, mkC (kk k (3 * s.input.length)) s.heap s.heap.length, mkC (kk k (3 * (s.input.length + s.heap.length))) s.dfr s.dfr.length, mkC (kk k (3 * (s.input.length + s.heap.length + s.dfr.length))) s.out s.out.length, mkRu (kk k (3 * (s.input.length + s.heap.length + s.dfr.length + s.out.length))) s.runs, s.lp, s.rp, s.ph, s.wr⟩
theorem c_heldSorter (s : So) (hok : okSo s) : Meets Go.Proofs.Try.prog 50 [.agg (soE (mkSo 1 s)), I 1] [] (I (kk 1 (3 * totS s))) [] false := by
  have g1 := hok.input
  have g2 := hok.heap
  have g3 := hok.dfr
  have g4 := hok.out
  have g5 := hok.rn
  have g6 := hok.tot
  have m1 := mkC_len 1 (xs := s.input) (Nat.le_refl _)
  have m2 := mkC_len (kk 1 (3 * s.input.length)) (xs := s.heap) (Nat.le_refl _)
  have m3 := mkC_len (kk 1 (3 * (s.input.length + s.heap.length))) (xs := s.dfr) (Nat.le_refl _)
  have m4 := mkC_len (kk 1 (3 * (s.input.length + s.heap.length + s.dfr.length))) (xs := s.out) (Nat.le_refl _)
  have n1 : decide (kk 1 (3 * s.input.length) < 0) = false := kk_neg (by omega) (by omega) (by omega)
  have n2 : decide (kk 1 (3 * (s.input.length + s.heap.length)) < 0) = false := kk_neg (by omega) (by omega) (by omega)
  have n3 : decide (kk 1 (3 * (s.input.length + s.heap.length + s.dfr.length)) < 0) = false := kk_neg (by omega) (by omega) (by omega)
  have n4 : decide (kk 1 (3 * (s.input.length + s.heap.length + s.dfr.length + s.out.length)) < 0) = false := kk_neg (by omega) (by omega) (by omega)
  have n5 : decide (kk 1 (3 * totS s) < 0) = false := kk_neg (by omega) (by omega) (by unfold totS; omega)
  have q1 := c_heldRowS (mkC 1 s.input s.input.length) 1 (by omega) mkC_at
  have q2 := c_heldRowS (mkC (kk 1 (3 * s.input.length)) s.heap s.heap.length) (kk 1 (3 * s.input.length)) (by omega) mkC_at
  have q3 := c_heldRowS (mkC (kk 1 (3 * (s.input.length + s.heap.length))) s.dfr s.dfr.length) (kk 1 (3 * (s.input.length + s.heap.length))) (by omega) mkC_at
  have q4 := c_heldRowS (mkC (kk 1 (3 * (s.input.length + s.heap.length + s.dfr.length))) s.out s.out.length) (kk 1 (3 * (s.input.length + s.heap.length + s.dfr.length))) (by omega) mkC_at
  rw [m1] at q1
  rw [m2, kk_add, ← Nat.mul_add] at q2
  rw [m3, kk_add, ← Nat.mul_add] at q3
  rw [m4, kk_add, ← Nat.mul_add] at q4
  have q5 := c_heldRunS s.runs (kk 1 (3 * (s.input.length + s.heap.length + s.dfr.length + s.out.length))) g5 (by have := of_decide_eq_false n4; omega) (by rw [kk_val (by omega) (by omega) (by omega)]; omega) (by omega)
  rw [kk_add, ← Nat.mul_add] at q5
  refine meets_of [4] Go.Proofs.Try.func50 rfl rfl ?_
  simp only [Go.Proofs.Try.ntmps50, List.length_cons, List.length_nil, Nat.reduceAdd, Nat.reduceSub, List.replicate_succ, List.replicate_zero, List.cons_append, List.nil_append]
  repeat' first
    | refine aw_seq ?_
    | refine aw_region ?_
    | refine aw_lex [] ?_
    | (refine isA ?_; refine do_F rfl ?_)
    | (refine isL ?_; refine lex_F rfl (by kernel_rfl) rfl rfl ?_)
    | (refine isLg rfl ?_; refine lex_S rfl (by kernel_rfl) rfl rfl ?_)
    | (refine isAc 28 ?_; refine do_R rfl (st_call rfl q1 (.cons (.same rfl) (.cons (.same rfl) .nil)) rfl) rfl ?_)
    | (refine isLc 28 rfl ?_; refine lex_R rfl (by kernel_rfl) rfl (st_call rfl q1 (.cons (.same rfl) (.cons (.same rfl) .nil)) rfl) rfl ?_)
    | refine aops_nil ?_
    | refine lex_done _ rfl (by kernel_rfl) ?_
    | refine aw_ct rfl ?_
    | refine aw_cf rfl ?_
    | refine aw_block ?_
    | refine then_n ?_
    | refine aw_skip ?_
    | refine aw_exit ?_
    | refine then_x ?_
    | refine then_r ?_
    | refine block_x ?_
    | refine block_n ?_
    | refine block_r ?_
    | refine aw_ret ?_
  refine aw_cond rfl (fun h => by rw [n1] at h; cases h) (fun _ => ?_)
  repeat' first
    | refine aw_seq ?_
    | refine aw_region ?_
    | refine aw_lex [] ?_
    | (refine isA ?_; refine do_F rfl ?_)
    | (refine isL ?_; refine lex_F rfl (by kernel_rfl) rfl rfl ?_)
    | (refine isLg rfl ?_; refine lex_S rfl (by kernel_rfl) rfl rfl ?_)
    | (refine isAc 28 ?_; refine do_R rfl (st_call rfl q2 (.cons (.same rfl) (.cons (.same rfl) .nil)) rfl) rfl ?_)
    | (refine isLc 28 rfl ?_; refine lex_R rfl (by kernel_rfl) rfl (st_call rfl q2 (.cons (.same rfl) (.cons (.same rfl) .nil)) rfl) rfl ?_)
    | refine aops_nil ?_
    | refine lex_done _ rfl (by kernel_rfl) ?_
    | refine aw_ct rfl ?_
    | refine aw_cf rfl ?_
    | refine aw_block ?_
    | refine then_n ?_
    | refine aw_skip ?_
    | refine aw_exit ?_
    | refine then_x ?_
    | refine then_r ?_
    | refine block_x ?_
    | refine block_n ?_
    | refine block_r ?_
    | refine aw_ret ?_
  refine aw_cond rfl (fun h => by rw [n2] at h; cases h) (fun _ => ?_)
  repeat' first
    | refine aw_seq ?_
    | refine aw_region ?_
    | refine aw_lex [] ?_
    | (refine isA ?_; refine do_F rfl ?_)
    | (refine isL ?_; refine lex_F rfl (by kernel_rfl) rfl rfl ?_)
    | (refine isLg rfl ?_; refine lex_S rfl (by kernel_rfl) rfl rfl ?_)
    | (refine isAc 28 ?_; refine do_R rfl (st_call rfl q3 (.cons (.same rfl) (.cons (.same rfl) .nil)) rfl) rfl ?_)
    | (refine isLc 28 rfl ?_; refine lex_R rfl (by kernel_rfl) rfl (st_call rfl q3 (.cons (.same rfl) (.cons (.same rfl) .nil)) rfl) rfl ?_)
    | refine aops_nil ?_
    | refine lex_done _ rfl (by kernel_rfl) ?_
    | refine aw_ct rfl ?_
    | refine aw_cf rfl ?_
    | refine aw_block ?_
    | refine then_n ?_
    | refine aw_skip ?_
    | refine aw_exit ?_
    | refine then_x ?_
    | refine then_r ?_
    | refine block_x ?_
    | refine block_n ?_
    | refine block_r ?_
    | refine aw_ret ?_
  refine aw_cond rfl (fun h => by rw [n3] at h; cases h) (fun _ => ?_)
  repeat' first
    | refine aw_seq ?_
    | refine aw_region ?_
    | refine aw_lex [] ?_
    | (refine isA ?_; refine do_F rfl ?_)
    | (refine isL ?_; refine lex_F rfl (by kernel_rfl) rfl rfl ?_)
    | (refine isLg rfl ?_; refine lex_S rfl (by kernel_rfl) rfl rfl ?_)
    | (refine isAc 28 ?_; refine do_R rfl (st_call rfl q4 (.cons (.same rfl) (.cons (.same rfl) .nil)) rfl) rfl ?_)
    | (refine isLc 28 rfl ?_; refine lex_R rfl (by kernel_rfl) rfl (st_call rfl q4 (.cons (.same rfl) (.cons (.same rfl) .nil)) rfl) rfl ?_)
    | refine aops_nil ?_
    | refine lex_done _ rfl (by kernel_rfl) ?_
    | refine aw_ct rfl ?_
    | refine aw_cf rfl ?_
    | refine aw_block ?_
    | refine then_n ?_
    | refine aw_skip ?_
    | refine aw_exit ?_
    | refine then_x ?_
    | refine then_r ?_
    | refine block_x ?_
    | refine block_n ?_
    | refine block_r ?_
    | refine aw_ret ?_
  refine aw_cond rfl (fun h => by rw [n4] at h; cases h) (fun _ => ?_)
  repeat' first
    | refine aw_seq ?_
    | refine aw_region ?_
    | refine aw_lex [] ?_
    | (refine isA ?_; refine do_F rfl ?_)
    | (refine isL ?_; refine lex_F rfl (by kernel_rfl) rfl rfl ?_)
    | (refine isLg rfl ?_; refine lex_S rfl (by kernel_rfl) rfl rfl ?_)
    | (refine isAc 59 ?_; refine do_R rfl (st_call rfl q5 (.cons (.same rfl) (.cons (.same rfl) .nil)) rfl) rfl ?_)
    | (refine isLc 59 rfl ?_; refine lex_R rfl (by kernel_rfl) rfl (st_call rfl q5 (.cons (.same rfl) (.cons (.same rfl) .nil)) rfl) rfl ?_)
    | refine aops_nil ?_
    | refine lex_done _ rfl (by kernel_rfl) ?_
    | refine aw_ct rfl ?_
    | refine aw_cf rfl ?_
    | refine aw_block ?_
    | refine then_n ?_
    | refine aw_skip ?_
    | refine aw_exit ?_
    | refine then_x ?_
    | refine then_r ?_
    | refine block_x ?_
    | refine block_n ?_
    | refine block_r ?_
    | refine aw_ret ?_
  refine aw_cond rfl (fun h => by rw [show (s.input.length + s.heap.length + s.dfr.length + s.out.length) + tot s.runs = totS s from rfl, n5] at h; cases h) (fun _ => ?_)
  repeat' first
    | refine aw_seq ?_
    | refine aw_region ?_
    | refine aw_lex [] ?_
    | (refine isA ?_; refine do_F rfl ?_)
    | (refine isL ?_; refine lex_F rfl (by kernel_rfl) rfl rfl ?_)
    | (refine isLg rfl ?_; refine lex_S rfl (by kernel_rfl) rfl rfl ?_)
    | exact fin1 rfl rfl rfl
    | refine aops_nil ?_
    | refine lex_done _ rfl (by kernel_rfl) ?_
    | refine aw_ct rfl ?_
    | refine aw_cf rfl ?_
    | refine aw_block ?_
    | refine then_n ?_
    | refine aw_skip ?_
    | refine aw_exit ?_
    | refine then_x ?_
    | refine then_r ?_
    | refine block_x ?_
    | refine block_n ?_
    | refine block_r ?_
    | refine aw_ret ?_
end Go.Proofs.Ytngeppmincgebaa.Ab
