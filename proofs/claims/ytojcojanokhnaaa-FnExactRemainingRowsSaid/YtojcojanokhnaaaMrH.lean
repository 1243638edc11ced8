/- Texts SrA, SrB in one. -/
import Derived.Test.YtojcojanokhnaaaMrG
set_option linter.unusedVariables false
set_option linter.unusedSimpArgs false
set_option maxRecDepth 20000
set_option maxHeartbeats 4000000
/- SrA -/
namespace Go.Proofs.Ytojcojanokhnaaa.Ab
open Go.RowKit

theorem vBase_e (s : So) : vBase s = (avR s.input && (inV s.pos 0 s.input.length && (avS s.runs && (!decide (s.wr < 0) && (isoV s.out && s.heap.all fun r => !bel r s.out))))) := by
  unfold vBase
  congr 4
  rw [Bool.eq_iff_iff]
  simp
theorem vS_no {s : So} (h : vBase s = false) : vS s = false := by unfold vS; rw [h, Bool.false_and]
theorem vS_rd {s : So} (h : vBase s = true) (k : decide (s.ph = 1) = true) : vS s = vRead s := by unfold vS; rw [h, Bool.true_and, k, cond_true]
theorem vS_rs {s : So} (h : vBase s = true) (k : decide (s.ph = 1) = false) : vS s = (vRest s && cond (decide (s.ph = 2)) (vMerge s) (cond (decide (s.ph = 3)) (vEmit s) (cond (decide (s.ph = 4)) (vDone s) false))) := by unfold vS; rw [h, Bool.true_and, k, cond_false]
theorem heap_no {s : So} {i : Nat} {z : Rw} (hz : s.heap[i]? = some z) (h : bel z s.out = true) : vBase s = false := by
  have e : (s.heap.all fun r => !bel r s.out) = false := by
    rw [List.all_eq_false]
    exact ⟨z, List.mem_of_getElem? hz, by simp [h]⟩
  rw [vBase_e, e]
  simp
theorem heap_yes {s : So} (hb : (avR s.input && (inV s.pos 0 s.input.length && (avS s.runs && (!decide (s.wr < 0) && isoV s.out)))) = true) (h : ∀ j z, j < s.heap.length → s.heap[j]? = some z → bel z s.out = false) : vBase s = true := by
  have e : (s.heap.all fun r => !bel r s.out) = true := List.all_eq_true.2 fun z hz => by
    obtain ⟨j, hj⟩ := List.getElem?_of_mem hz
    simp [h j z (List.getElem?_eq_some_iff.1 hj).1 hj]
  rw [vBase_e, e]
  simp only [Bool.and_eq_true] at hb ⊢
  obtain ⟨a, b, c, d, e⟩ := hb
  exact ⟨a, b, c, d, e, trivial⟩
theorem heap_step {xs out : List Rw} {i : Nat} {z : Rw} (hb : ∀ j z, j < i → xs[j]? = some z → bel z out = false) (hz : xs[i]? = some z) (h : bel z out = false) : ∀ j z, j < i + 1 → xs[j]? = some z → bel z out = false := fun j y hj hy => by
  rcases Nat.lt_or_ge j i with hlt | hge
  · exact hb j y hlt hy
  · obtain rfl : j = i := by omega
    rw [hz] at hy
    cases hy
    exact h
theorem vRead_e (s : So) : vRead s = (decide (s.lp = 0) && (decide (s.rp = 0) && ((decide ((0 : Int) < (s.out.length : Int)) || decide ((s.dfr.length : Int) = 0)) && (decide (memV s ≤ 60) && eqB (s.runs.flatten ++ s.out ++ s.heap ++ s.dfr) (s.input.take s.pos.toNat))))) := by
  unfold vRead
  rw [show decide (0 < s.out.length) = decide ((0 : Int) < (s.out.length : Int)) from decide_eq_decide.2 (by omega), show decide (s.dfr.length = 0) = decide ((s.dfr.length : Int) = 0) from decide_eq_decide.2 (by omega)]
theorem vRest_e (s : So) : vRest s = (decide (s.pos = s.input.length) && (decide ((s.heap.length : Int) = 0) && (decide ((s.dfr.length : Int) = 0) && eqB s.runs.flatten s.input))) := by
  unfold vRest
  rw [show decide (s.heap.length = 0) = decide ((s.heap.length : Int) = 0) from decide_eq_decide.2 (by omega), show decide (s.dfr.length = 0) = decide ((s.dfr.length : Int) = 0) from decide_eq_decide.2 (by omega)]

theorem vBase_c (s : So) : vBase s = (!(!avR s.input || (!inV s.pos 0 s.input.length || (!avS s.runs || (decide (s.wr < 0) || !isoV s.out)))) && s.heap.all fun r => !bel r s.out) := by
  rw [vBase_e]
  cases avR s.input <;> cases inV s.pos 0 s.input.length <;> cases avS s.runs <;> cases decide (s.wr < 0) <;> cases isoV s.out <;> rfl
theorem vRest_c (s : So) : vRest s = !(!decide (s.pos = s.input.length) || (decide ((0 : Int) < (s.heap.length : Int)) || (decide ((0 : Int) < (s.dfr.length : Int)) || !eqB s.runs.flatten s.input))) := by
  rw [vRest_e, show decide ((s.heap.length : Int) = 0) = !decide ((0 : Int) < (s.heap.length : Int)) from by rw [← decide_not]; exact decide_eq_decide.2 (by omega), show decide ((s.dfr.length : Int) = 0) = !decide ((0 : Int) < (s.dfr.length : Int)) from by rw [← decide_not]; exact decide_eq_decide.2 (by omega)]
  cases decide (s.pos = s.input.length) <;> cases decide ((0 : Int) < (s.heap.length : Int)) <;> cases decide ((0 : Int) < (s.dfr.length : Int)) <;> cases eqB s.runs.flatten s.input <;> rfl
theorem vEmit_c (s : So) (h : s.input.length ≤ 1000000000) : vEmit s = (decide ((s.runs.length : Int) = 1) && (inV s.lp 0 (IntKind.i64.wrap ((s.input.length : Int) - 1)) && (decide (s.rp = 0) && decide ((s.out.length : Int) = 0)))) := by
  unfold vEmit
  rw [show IntKind.i64.wrap ((s.input.length : Int) - 1) = (s.input.length : Int) - 1 by rw [IntKind.wrap_i64]; omega, show decide (s.runs.length = 1) = decide ((s.runs.length : Int) = 1) from decide_eq_decide.2 (by omega), show decide (s.out.length = 0) = decide ((s.out.length : Int) = 0) from decide_eq_decide.2 (by omega)]
theorem vDone_c (s : So) : vDone s = (decide ((s.runs.length : Int) ≤ 1) && (decide (s.lp = s.input.length) && (decide (s.rp = 0) && decide ((s.out.length : Int) = 0)))) := by
  unfold vDone
  rw [show decide (s.runs.length ≤ 1) = decide ((s.runs.length : Int) ≤ 1) from decide_eq_decide.2 (by omega), show decide (s.out.length = 0) = decide ((s.out.length : Int) = 0) from decide_eq_decide.2 (by omega)]
theorem vMerge_s {s : So} (h : decide ((s.runs.length : Int) < 2) = true) : vMerge s = false := by
  have := of_decide_eq_true h
  unfold vMerge
  match hr : s.runs with
  | [] => rfl
  | [x] => rfl
  | x :: y :: rest => rw [hr] at this; simp at this; omega
theorem two_runs {rs : List Rn} (h : decide ((rs.length : Int) < 2) = false) : ∃ a b rest, rs = a :: b :: rest := by
  have := of_decide_eq_false h
  match rs with
  | [] => simp at this
  | [x] => simp at this
  | x :: y :: rest => exact ⟨x, y, rest, rfl⟩
theorem vMerge_c {s : So} {a b : Rn} {rest : List Rn} (hr : s.runs = a :: b :: rest) : vMerge s = (!(!inV s.lp 0 a.length || !inV s.rp 0 b.length) && (eqLd s.out (mgV (a.take s.lp.toNat) (b.take s.rp.toNat)) && eqLd s.out ((mgV a b).take (s.lp.toNat + s.rp.toNat)))) := by
  unfold vMerge
  rw [hr, Bool.eq_iff_iff]
  simp only [Bool.and_eq_true, Bool.not_eq_true', Bool.or_eq_false_iff, Bool.not_eq_false', and_assoc]

theorem tog4 (s : So) : [s.runs.flatten, s.out, s.heap, s.dfr].flatten = s.runs.flatten ++ s.out ++ s.heap ++ s.dfr := by simp
theorem c_ivS (s : So) (hok : okSo s) : Meets Go.Proofs.Try.prog 17 [.agg (soE s)] [] (B (vS s)) [] false := by
  have g1 := hok.input
  have g2 := hok.heap
  have g3 := hok.dfr
  have g4 := hok.out
  have g5 := hok.rn
  have g6 := hok.tot
  have g7 := flat_len s.runs
  have a1 := c_iavR s.input (by omega)
  have a2 := c_iavS s.runs g5
  have a3 := c_iiso s.out (by omega)
  have a4 := c_imem s hok
  have a5 := (c_iflat s.runs g5 (by omega)).frozen (pur_row rfl)
  have a6 := c_ieqB s.runs.flatten s.input (by omega) (by omega)
  refine meets_of [2] Go.Proofs.Try.func17 rfl rfl ?_
  simp only [Go.Proofs.Try.ntmps17, List.length_cons, List.length_nil, Nat.reduceAdd, Nat.reduceSub, List.replicate_succ, List.replicate_zero, List.cons_append, List.nil_append]
  repeat' first
    | refine aw_seq ?_
    | refine aw_region ?_
    | refine aw_lex [] ?_
    | (refine isA ?_; refine do_F rfl ?_)
    | (refine isL ?_; refine lex_F rfl (by kernel_rfl) rfl rfl ?_)
    | (refine isLg rfl ?_; refine lex_S rfl (by kernel_rfl) rfl rfl ?_)
    | (refine isAc 74 ?_; refine do_R rfl (st_call rfl a1 (.cons (.same rfl) .nil) rfl) rfl ?_)
    | (refine isLc 74 rfl ?_; refine lex_R rfl (by kernel_rfl) rfl (st_call rfl a1 (.cons (.same rfl) .nil) rfl) rfl ?_)
    | (refine isAc 75 ?_; refine do_R rfl (st_call rfl (c_within _ _ _) (.cons (.same rfl) (.cons (.same rfl) (.cons (.same rfl) .nil))) rfl) rfl ?_)
    | (refine isLc 75 rfl ?_; refine lex_R rfl (by kernel_rfl) rfl (st_call rfl (c_within _ _ _) (.cons (.same rfl) (.cons (.same rfl) (.cons (.same rfl) .nil))) rfl) rfl ?_)
    | (refine isAc 76 ?_; refine do_R rfl (st_call rfl a2 (.cons (.same rfl) .nil) rfl) rfl ?_)
    | (refine isLc 76 rfl ?_; refine lex_R rfl (by kernel_rfl) rfl (st_call rfl a2 (.cons (.same rfl) .nil) rfl) rfl ?_)
    | (refine isAc 77 ?_; refine do_R rfl (st_call rfl a3 (.cons (.same rfl) .nil) rfl) rfl ?_)
    | (refine isLc 77 rfl ?_; refine lex_R rfl (by kernel_rfl) rfl (st_call rfl a3 (.cons (.same rfl) .nil) rfl) rfl ?_)
    | refine aops_nil ?_
    | refine lex_done _ rfl (by kernel_rfl) ?_
    | refine aw_ct rfl ?_
    | refine aw_cf rfl ?_
    | refine aw_block ?_
    | with_reducible refine then_n ?_
    | refine aw_skip ?_
    | refine aw_exit ?_
    | with_reducible refine then_x ?_
    | with_reducible refine then_r ?_
    | with_reducible refine block_x ?_
    | with_reducible refine block_n ?_
    | with_reducible refine block_r ?_
    | refine aw_ret ?_
    | refine aw_cond rfl (fun hbr => ?_) (fun hbr => ?_)
    | (refine isAg ?_; refine do_br rfl rfl (fun hbr => ?_) (fun hbr => ?_) <;> (fail_if_success (with_reducible (have hx : true = true := hbr))) <;> (fail_if_success (with_reducible (have hx : false = false := hbr))))
    | (refine isLg rfl ?_; refine lex_br rfl rfl rfl rfl (fun hbr => ?_) (fun hbr => ?_) <;> (fail_if_success (with_reducible (have hx : true = true := hbr))) <;> (fail_if_success (with_reducible (have hx : false = false := hbr))))
  all_goals first
    | exact fin1 rfl rfl (congrArg B (vS_no (by rw [vBase_c]; simp only [*, Bool.true_or, Bool.false_or, Bool.or_true, Bool.or_false, Bool.true_and, Bool.false_and, Bool.and_true, Bool.and_false, Bool.not_true, Bool.not_false, cond_true, cond_false])).symm)
    | skip
  have hq : (avR s.input && (inV s.pos 0 s.input.length && (avS s.runs && (!decide (s.wr < 0) && isoV s.out)))) = true := by
    simp only [Bool.not_eq_false'] at *
    simp only [*, Bool.true_and, Bool.not_false]
  refine aw_loop (α := { i : Nat // i ≤ s.heap.length ∧ ∀ j z, j < i → s.heap[j]? = some z → bel z s.out = false }) (fun i => ⟨(.any :: .any :: .any :: (.ptr 1 0) :: .any :: .any :: .any :: .any :: .any :: .any :: .any :: .any :: .any :: .any :: .any :: .any :: .any :: .any :: .any :: .any :: .any :: .any :: .any :: .any :: .any :: .any :: .any :: .any :: .any :: .any :: .any :: .any :: .any :: .any :: .any :: .any :: .any :: .any :: .any :: .any :: .any :: (rwL s.heap) :: (I s.heap.length) :: (I i.1) :: .any :: .any :: .any :: .any :: .any :: .any :: .any :: .any :: .any :: .any :: .any :: .any :: .any :: .any :: .any :: .any :: .any :: .any :: .any :: .any :: .any :: .any :: .any :: .any :: .any :: .any :: .any :: .any :: .any :: .any :: .any :: .any :: .any :: .any :: .any :: .any :: .any :: .any :: .any :: .any :: .any :: .any :: .any :: .any :: .any :: .any :: .any :: .any :: .any :: .any :: .any :: .any :: .any :: .any :: .any :: .any :: .any :: .any :: .any :: .any :: .any :: .any :: .any :: .any :: .any :: .any :: .any :: .any :: .any :: .any :: .any :: .any :: .any :: .any :: .any :: .any :: .any :: .any :: .any :: .any :: .any :: .any :: .any :: .any :: .any :: .any :: .any :: .any :: .any :: .any :: .any :: .any :: .any :: .any :: .any :: .any :: .any :: .any :: .any :: .any :: .any :: .any :: .any :: .any :: .any :: .any :: .any :: .any :: .any :: .any :: .any :: .any :: .any :: .any :: .any :: .any :: .any :: .any :: .any :: .any :: .any :: .any :: .any :: .any :: .any :: .any :: .any :: .any :: .any :: .any :: .any :: .any :: .any :: .any :: .any :: .any :: .any :: .any :: .any :: .any :: .any :: .any :: .any :: .any :: .any :: .any :: .any :: .any :: .any :: .any :: .any :: .any :: .any :: .any :: .any :: .any :: .any :: .any :: .any :: .any :: .any :: .any :: .any :: .any :: .any :: .any :: .any :: .any :: .any :: .any :: .any :: .any :: .any :: .any :: .any :: .any :: .any :: .any :: .any :: .any :: .any :: .any :: .any :: .any :: .any :: .any :: .any :: .any :: .any :: .any :: []), [⟨27, 10, soE s, 0⟩, ⟨27, 10, soE s, 0⟩], 0⟩) (fun i => s.heap.length - i.1) ⟨0, Nat.zero_le _, fun j z h => absurd h (Nat.not_lt_zero j)⟩ ?_ ?_
  · exact sub0 [0, 1] rfl rfl (by decide) (by repeat' first | exact HLes.nil | refine HLes.cons rfl rfl rfl rfl ?_ ?_ | exact les_nil | refine les_cons ?_ ?_ | exact le_any | exact le_refl rfl | exact le_sl rfl rfl | exact le_ptr rfl) (by repeat' first | exact les_nil | refine les_cons ?_ ?_ | exact le_any | exact le_refl rfl | exact le_sl rfl rfl | exact le_ptr rfl)
  · rintro ⟨i, hi, hb⟩
    repeat' first
      | refine aw_seq ?_
      | refine aw_region ?_
      | refine aw_lex [] ?_
      | (refine isA ?_; refine do_F rfl ?_)
      | (refine isL ?_; refine lex_F rfl (by kernel_rfl) rfl rfl ?_)
      | (refine isLg rfl ?_; refine lex_S rfl (by kernel_rfl) rfl rfl ?_)
      | refine aops_nil ?_
      | refine lex_done _ rfl (by kernel_rfl) ?_
      | refine aw_ct rfl ?_
      | refine aw_cf rfl ?_
      | refine aw_block ?_
      | with_reducible refine then_n ?_
      | refine aw_skip ?_
      | refine aw_exit ?_
      | with_reducible refine then_x ?_
      | with_reducible refine then_r ?_
      | with_reducible refine block_x ?_
      | with_reducible refine block_n ?_
      | with_reducible refine block_r ?_
      | refine aw_ret ?_
    refine aw_cond rfl (fun h => ?_) (fun h => ?_)
    · have hlt : i < s.heap.length := by simpa using h
      obtain ⟨z, hz⟩ : ∃ z, s.heap[i]? = some z := ⟨_, List.getElem?_eq_getElem hlt⟩
      repeat' first
        | refine aw_seq ?_
        | refine aw_region ?_
        | refine aw_lex [] ?_
        | (refine isA ?_; refine do_F rfl ?_)
        | (refine isL ?_; refine lex_F rfl (by kernel_rfl) rfl rfl ?_)
        | (refine isLg rfl ?_; refine lex_S rfl (by kernel_rfl) rfl rfl ?_)
        | (refine isAi ?_; refine do_R rfl (ia_l (t := rwT) (z := z) rfl rfl rfl rfl (Int.natCast_nonneg i) hz) rfl ?_)
        | (refine isLi rfl ?_; refine lex_R rfl (by kernel_rfl) rfl (ia_l (t := rwT) (z := z) rfl rfl rfl rfl (Int.natCast_nonneg i) hz) rfl ?_)
        | (refine isAc 59 ?_; refine do_R rfl (st_call rfl (c_below z s.out (by omega)) (.cons (.same rfl) (.cons (.same rfl) .nil)) rfl) rfl ?_)
        | (refine isLc 59 rfl ?_; refine lex_R rfl (by kernel_rfl) rfl (st_call rfl (c_below z s.out (by omega)) (.cons (.same rfl) (.cons (.same rfl) .nil)) rfl) rfl ?_)
        | refine aops_nil ?_
        | refine lex_done _ rfl (by kernel_rfl) ?_
        | refine aw_ct rfl ?_
        | refine aw_cf rfl ?_
        | refine aw_block ?_
        | with_reducible refine then_n ?_
        | refine aw_skip ?_
        | refine aw_exit ?_
        | with_reducible refine then_x ?_
        | with_reducible refine then_r ?_
        | with_reducible refine block_x ?_
        | with_reducible refine block_n ?_
        | with_reducible refine block_r ?_
        | refine aw_ret ?_
      refine aw_cond rfl (fun p => ?_) (fun p => ?_)
      · repeat' first
          | refine aw_seq ?_
          | refine aw_region ?_
          | refine aw_lex [] ?_
          | (refine isA ?_; refine do_F rfl ?_)
          | (refine isL ?_; refine lex_F rfl (by kernel_rfl) rfl rfl ?_)
          | (refine isLg rfl ?_; refine lex_S rfl (by kernel_rfl) rfl rfl ?_)
          | exact fin1 rfl rfl (congrArg B (vS_no (heap_no hz p)).symm)
          | refine aops_nil ?_
          | refine lex_done _ rfl (by kernel_rfl) ?_
          | refine aw_ct rfl ?_
          | refine aw_cf rfl ?_
          | refine aw_block ?_
          | with_reducible refine then_n ?_
          | refine aw_skip ?_
          | refine aw_exit ?_
          | with_reducible refine then_x ?_
          | with_reducible refine then_r ?_
          | with_reducible refine block_x ?_
          | with_reducible refine block_n ?_
          | with_reducible refine block_r ?_
          | refine aw_ret ?_
      · repeat' first
          | refine aw_seq ?_
          | refine aw_region ?_
          | refine aw_lex [] ?_
          | (refine isA ?_; refine do_F rfl ?_)
          | (refine isL ?_; refine lex_F rfl (by kernel_rfl) rfl rfl ?_)
          | (refine isLg rfl ?_; refine lex_S rfl (by kernel_rfl) rfl rfl ?_)
          | refine aops_nil ?_
          | refine lex_done _ rfl (by kernel_rfl) ?_
          | refine aw_ct rfl ?_
          | refine aw_cf rfl ?_
          | refine aw_block ?_
          | with_reducible refine then_n ?_
          | refine aw_skip ?_
          | refine aw_exit ?_
          | with_reducible refine then_x ?_
          | with_reducible refine then_r ?_
          | with_reducible refine block_x ?_
          | with_reducible refine block_n ?_
          | with_reducible refine block_r ?_
          | refine aw_ret ?_
        refine ⟨⟨i + 1, hlt, heap_step hb hz p⟩, by simp only; omega, ?_⟩
        exact sub0 [0, 1] rfl rfl (by decide) (by repeat' first | exact HLes.nil | refine HLes.cons rfl rfl rfl rfl ?_ ?_ | exact les_nil | refine les_cons ?_ ?_ | exact le_any | exact le_refl rfl | exact le_sl rfl rfl | exact le_ptr rfl) (by repeat' first | exact les_nil | refine les_cons ?_ ?_ | exact le_any | exact le_refl rfl | exact le_sl rfl rfl | exact le_ptr rfl | exact le_i (by assumption) (by omega))
    · have hge : i = s.heap.length := by
        have : ¬ ((i : Int) < s.heap.length) := by simpa using h
        omega
      subst hge
      have hB := heap_yes hq hb
      have e1 := vS_rd hB
      have e2 := vS_rs hB
      simp only [Bool.and_eq_true, inV_iff] at hq
      obtain ⟨hv0, ⟨hp0, hp1⟩, hv1, hv2, hv3⟩ := hq
      repeat' first
        | refine aw_seq ?_
        | refine aw_region ?_
        | refine aw_lex [] ?_
        | (refine isA ?_; refine do_F rfl ?_)
        | (refine isL ?_; refine lex_F rfl (by kernel_rfl) rfl rfl ?_)
        | (refine isLg rfl ?_; refine lex_S rfl (by kernel_rfl) rfl rfl ?_)
        | (refine isAc 78 ?_; refine do_R rfl (st_call rfl a5 (.cons (.same rfl) .nil) rfl) rfl ?_)
        | (refine isLc 78 rfl ?_; refine lex_R rfl (by kernel_rfl) rfl (st_call rfl a5 (.cons (.same rfl) .nil) rfl) rfl ?_)
        | refine aops_nil ?_
        | refine lex_done _ rfl (by kernel_rfl) ?_
        | refine aw_ct rfl ?_
        | refine aw_cf rfl ?_
        | refine aw_block ?_
        | with_reducible refine then_n ?_
        | refine aw_skip ?_
        | refine aw_exit ?_
        | with_reducible refine then_x ?_
        | with_reducible refine then_r ?_
        | with_reducible refine block_x ?_
        | with_reducible refine block_n ?_
        | with_reducible refine block_r ?_
        | refine aw_ret ?_
      refine aw_cond rfl (fun h => ?_) (fun h => ?_)
      · have e1 := e1 h
        rw [vRead_e] at e1
        have hp : s.pos = ((s.pos.toNat : Nat) : Int) := by omega
        have t4 := tog4 s
        have a7 := (c_together [s.runs.flatten, s.out, s.heap, s.dfr] ⟨by simp, fun x hx => by simp at hx; rcases hx with rfl | rfl | rfl | rfl <;> omega⟩ (by show ([s.runs.flatten, s.out, s.heap, s.dfr].map List.length).sum ≤ _; simp only [List.map_cons, List.map_nil, List.sum_cons, List.sum_nil]; omega)).frozen (pur_row rfl)
        rw [t4] at a7
        have a8 := c_ieqB (s.runs.flatten ++ s.out ++ s.heap ++ s.dfr) (s.input.take s.pos.toNat) (by rw [List.length_append, List.length_append, List.length_append]; omega) (by simp; omega)
        repeat' first
          | refine aw_seq ?_
          | refine aw_region ?_
          | refine aw_lex [] ?_
          | (refine isA ?_; refine do_F rfl ?_)
          | (refine isL ?_; refine lex_F rfl (by kernel_rfl) rfl rfl ?_)
          | (refine isLg rfl ?_; refine lex_S rfl (by kernel_rfl) rfl rfl ?_)
          | refine do_R rfl (lit_of rfl rfl rfl rfl rfl) rfl ?_
          | refine lex_R rfl (by kernel_rfl) rfl (lit_of rfl rfl rfl rfl rfl) rfl ?_
          | (refine isAc 19 ?_; refine do_R rfl (st_call rfl a4 (.cons (.same rfl) .nil) rfl) rfl ?_)
          | (refine isLc 19 rfl ?_; refine lex_R rfl (by kernel_rfl) rfl (st_call rfl a4 (.cons (.same rfl) .nil) rfl) rfl ?_)
          | (refine isAc 80 ?_; refine do_R rfl (st_call rfl a7 (.cons (.same rfl) .nil) rfl) rfl ?_)
          | (refine isLc 80 rfl ?_; refine lex_R rfl (by kernel_rfl) rfl (st_call rfl a7 (.cons (.same rfl) .nil) rfl) rfl ?_)
          | (refine isAc 79 ?_; refine do_R rfl (st_call rfl a8 (.cons (.same rfl) (.cons (.same rfl) .nil)) rfl) rfl ?_)
          | (refine isLc 79 rfl ?_; refine lex_R rfl (by kernel_rfl) rfl (st_call rfl a8 (.cons (.same rfl) (.cons (.same rfl) .nil)) rfl) rfl ?_)
          | (refine isAx (x := .tmp 94) ?_; refine do_R rfl (st_takeL rfl rfl (congrArg I hp) (by omega)) rfl ?_)
          | (refine isLx (x := .tmp 94) rfl ?_; refine lex_R rfl (by kernel_rfl) rfl (st_takeL rfl rfl (congrArg I hp) (by omega)) rfl ?_)
          | refine aops_nil ?_
          | refine lex_done _ rfl (by kernel_rfl) ?_
          | refine aw_ct rfl ?_
          | refine aw_cf rfl ?_
          | refine aw_block ?_
          | with_reducible refine then_n ?_
          | refine aw_skip ?_
          | refine aw_exit ?_
          | with_reducible refine then_x ?_
          | with_reducible refine then_r ?_
          | with_reducible refine block_x ?_
          | with_reducible refine block_n ?_
          | with_reducible refine block_r ?_
          | refine aw_ret ?_
          | refine aw_cond rfl (fun hbr => ?_) (fun hbr => ?_)
          | (refine isAg ?_; refine do_br rfl rfl (fun hbr => ?_) (fun hbr => ?_) <;> (fail_if_success (with_reducible (have hx : true = true := hbr))) <;> (fail_if_success (with_reducible (have hx : false = false := hbr))))
          | (refine isLg rfl ?_; refine lex_br rfl rfl rfl rfl (fun hbr => ?_) (fun hbr => ?_) <;> (fail_if_success (with_reducible (have hx : true = true := hbr))) <;> (fail_if_success (with_reducible (have hx : false = false := hbr))))
        all_goals exact fin1 rfl rfl (congrArg B (by rw [e1]; clear e1 e2 hp; simp only [*, Bool.true_or, Bool.false_or, Bool.or_true, Bool.or_false, Bool.true_and, Bool.false_and, Bool.and_true, Bool.and_false, Bool.not_true, Bool.not_false, cond_true, cond_false]))
      · have e2 := e2 h
        rw [vRest_c] at e2
        repeat' first
          | refine aw_seq ?_
          | refine aw_region ?_
          | refine aw_lex [] ?_
          | (refine isA ?_; refine do_F rfl ?_)
          | (refine isL ?_; refine lex_F rfl (by kernel_rfl) rfl rfl ?_)
          | (refine isLg rfl ?_; refine lex_S rfl (by kernel_rfl) rfl rfl ?_)
          | (refine isAc 79 ?_; refine do_R rfl (st_call rfl a6 (.cons (.same rfl) (.cons (.same rfl) .nil)) rfl) rfl ?_)
          | (refine isLc 79 rfl ?_; refine lex_R rfl (by kernel_rfl) rfl (st_call rfl a6 (.cons (.same rfl) (.cons (.same rfl) .nil)) rfl) rfl ?_)
          | refine aops_nil ?_
          | refine lex_done _ rfl (by kernel_rfl) ?_
          | refine aw_ct rfl ?_
          | refine aw_cf rfl ?_
          | refine aw_block ?_
          | with_reducible refine then_n ?_
          | refine aw_skip ?_
          | refine aw_exit ?_
          | with_reducible refine then_x ?_
          | with_reducible refine then_r ?_
          | with_reducible refine block_x ?_
          | with_reducible refine block_n ?_
          | with_reducible refine block_r ?_
          | refine aw_ret ?_
          | (refine isAg ?_; refine do_br rfl rfl (fun hbr => ?_) (fun hbr => ?_) <;> (fail_if_success (with_reducible (have hx : true = true := hbr))) <;> (fail_if_success (with_reducible (have hx : false = false := hbr))))
          | (refine isLg rfl ?_; refine lex_br rfl rfl rfl rfl (fun hbr => ?_) (fun hbr => ?_) <;> (fail_if_success (with_reducible (have hx : true = true := hbr))) <;> (fail_if_success (with_reducible (have hx : false = false := hbr))))
        all_goals first
          | exact fin1 rfl rfl (congrArg B (by rw [e2]; clear e1 e2; simp only [*, Bool.true_or, Bool.false_or, Bool.or_true, Bool.or_false, Bool.true_and, Bool.false_and, Bool.and_true, Bool.and_false, Bool.not_true, Bool.not_false, cond_true, cond_false]))
          | skip
        refine aw_cond rfl (fun q => ?_) (fun q => ?_)
        · repeat' first
            | refine aw_seq ?_
            | refine aw_region ?_
            | refine aw_lex [] ?_
            | (refine isA ?_; refine do_F rfl ?_)
            | (refine isL ?_; refine lex_F rfl (by kernel_rfl) rfl rfl ?_)
            | (refine isLg rfl ?_; refine lex_S rfl (by kernel_rfl) rfl rfl ?_)
            | exact fin1 rfl rfl (congrArg B (by rw [e2]; clear e1 e2; simp only [*, Bool.true_or, Bool.false_or, Bool.or_true, Bool.or_false, Bool.true_and, Bool.false_and, Bool.and_true, Bool.and_false, Bool.not_true, Bool.not_false, cond_true, cond_false]))
            | refine aops_nil ?_
            | refine lex_done _ rfl (by kernel_rfl) ?_
            | refine aw_ct rfl ?_
            | refine aw_cf rfl ?_
            | refine aw_block ?_
            | with_reducible refine then_n ?_
            | refine aw_skip ?_
            | refine aw_exit ?_
            | with_reducible refine then_x ?_
            | with_reducible refine then_r ?_
            | with_reducible refine block_x ?_
            | with_reducible refine block_n ?_
            | with_reducible refine block_r ?_
            | refine aw_ret ?_
        have e3 : vS s = cond (decide (s.ph = 2)) (vMerge s) (cond (decide (s.ph = 3)) (vEmit s) (cond (decide (s.ph = 4)) (vDone s) false)) := by
          rw [e2]
          clear e1 e2
          simp only [*, Bool.true_or, Bool.false_or, Bool.or_true, Bool.or_false, Bool.true_and, Bool.false_and, Bool.and_true, Bool.and_false, Bool.not_true, Bool.not_false, cond_true, cond_false]
        clear e1 e2
        repeat' first
          | refine aw_seq ?_
          | refine aw_region ?_
          | refine aw_lex [] ?_
          | (refine isA ?_; refine do_F rfl ?_)
          | (refine isL ?_; refine lex_F rfl (by kernel_rfl) rfl rfl ?_)
          | (refine isLg rfl ?_; refine lex_S rfl (by kernel_rfl) rfl rfl ?_)
          | refine aops_nil ?_
          | refine lex_done _ rfl (by kernel_rfl) ?_
          | refine aw_ct rfl ?_
          | refine aw_cf rfl ?_
          | refine aw_block ?_
          | with_reducible refine then_n ?_
          | refine aw_skip ?_
          | refine aw_exit ?_
          | with_reducible refine then_x ?_
          | with_reducible refine then_r ?_
          | with_reducible refine block_x ?_
          | with_reducible refine block_n ?_
          | with_reducible refine block_r ?_
          | refine aw_ret ?_
        refine aw_cond rfl (fun h2 => ?_) (fun h2 => ?_)
        · rw [h2, cond_true] at e3
          repeat' first
            | refine aw_seq ?_
            | refine aw_region ?_
            | refine aw_lex [] ?_
            | (refine isA ?_; refine do_F rfl ?_)
            | (refine isL ?_; refine lex_F rfl (by kernel_rfl) rfl rfl ?_)
            | (refine isLg rfl ?_; refine lex_S rfl (by kernel_rfl) rfl rfl ?_)
            | refine aops_nil ?_
            | refine lex_done _ rfl (by kernel_rfl) ?_
            | refine aw_ct rfl ?_
            | refine aw_cf rfl ?_
            | refine aw_block ?_
            | with_reducible refine then_n ?_
            | refine aw_skip ?_
            | refine aw_exit ?_
            | with_reducible refine then_x ?_
            | with_reducible refine then_r ?_
            | with_reducible refine block_x ?_
            | with_reducible refine block_n ?_
            | with_reducible refine block_r ?_
            | refine aw_ret ?_
          refine aw_cond rfl (fun h3 => ?_) (fun h3 => ?_)
          · repeat' first
              | refine aw_seq ?_
              | refine aw_region ?_
              | refine aw_lex [] ?_
              | (refine isA ?_; refine do_F rfl ?_)
              | (refine isL ?_; refine lex_F rfl (by kernel_rfl) rfl rfl ?_)
              | (refine isLg rfl ?_; refine lex_S rfl (by kernel_rfl) rfl rfl ?_)
              | exact fin1 rfl rfl (congrArg B (by rw [e3, vMerge_s h3]))
              | refine aops_nil ?_
              | refine lex_done _ rfl (by kernel_rfl) ?_
              | refine aw_ct rfl ?_
              | refine aw_cf rfl ?_
              | refine aw_block ?_
              | with_reducible refine then_n ?_
              | refine aw_skip ?_
              | refine aw_exit ?_
              | with_reducible refine then_x ?_
              | with_reducible refine then_r ?_
              | with_reducible refine block_x ?_
              | with_reducible refine block_n ?_
              | with_reducible refine block_r ?_
              | refine aw_ret ?_
          · obtain ⟨a, b, rest, hr⟩ := two_runs h3
            rw [vMerge_c hr] at e3
            have ra : s.runs[0]? = some a := by rw [hr]; rfl
            have rb : s.runs[1]? = some b := by rw [hr]; rfl
            have la := g5.at ra
            have lb := g5.at rb
            have lab : a.length + b.length ≤ 10000000 := by rw [hr] at g6; simp only [tot, List.map_cons, List.sum_cons] at g6; omega
            repeat' first
              | refine aw_seq ?_
              | refine aw_region ?_
              | refine aw_lex [] ?_
              | (refine isA ?_; refine do_F rfl ?_)
              | (refine isL ?_; refine lex_F rfl (by kernel_rfl) rfl rfl ?_)
              | (refine isLg rfl ?_; refine lex_S rfl (by kernel_rfl) rfl rfl ?_)
              | (refine isAc 75 ?_; refine do_R rfl (st_call rfl (c_within _ _ _) (.cons (.same rfl) (.cons (.same rfl) (.cons (.same rfl) .nil))) rfl) rfl ?_)
              | (refine isLc 75 rfl ?_; refine lex_R rfl (by kernel_rfl) rfl (st_call rfl (c_within _ _ _) (.cons (.same rfl) (.cons (.same rfl) (.cons (.same rfl) .nil))) rfl) rfl ?_)
              | (refine isAi (x := .tmp 134) ?_; refine do_R rfl (ia_l (t := rnT) (z := a) rfl rfl rfl rfl (Int.natCast_nonneg 0) ra) rfl ?_)
              | (refine isLi (x := .tmp 134) rfl ?_; refine lex_R rfl (by kernel_rfl) rfl (ia_l (t := rnT) (z := a) rfl rfl rfl rfl (Int.natCast_nonneg 0) ra) rfl ?_)
              | (refine isAi (x := .tmp 139) ?_; refine do_R rfl (ia_l (t := rnT) (z := b) rfl rfl rfl rfl (Int.natCast_nonneg 1) rb) rfl ?_)
              | (refine isLi (x := .tmp 139) rfl ?_; refine lex_R rfl (by kernel_rfl) rfl (ia_l (t := rnT) (z := b) rfl rfl rfl rfl (Int.natCast_nonneg 1) rb) rfl ?_)
              | refine aops_nil ?_
              | refine lex_done _ rfl (by kernel_rfl) ?_
              | refine aw_ct rfl ?_
              | refine aw_cf rfl ?_
              | refine aw_block ?_
              | with_reducible refine then_n ?_
              | refine aw_skip ?_
              | refine aw_exit ?_
              | with_reducible refine then_x ?_
              | with_reducible refine then_r ?_
              | with_reducible refine block_x ?_
              | with_reducible refine block_n ?_
              | with_reducible refine block_r ?_
              | refine aw_ret ?_
              | (refine isAg ?_; refine do_br rfl rfl (fun hbr => ?_) (fun hbr => ?_) <;> (fail_if_success (with_reducible (have hx : true = true := hbr))) <;> (fail_if_success (with_reducible (have hx : false = false := hbr))))
              | (refine isLg rfl ?_; refine lex_br rfl rfl rfl rfl (fun hbr => ?_) (fun hbr => ?_) <;> (fail_if_success (with_reducible (have hx : true = true := hbr))) <;> (fail_if_success (with_reducible (have hx : false = false := hbr))))
            all_goals first
              | exact fin1 rfl rfl (congrArg B (by rw [e3]; simp only [*, Bool.true_or, Bool.false_or, Bool.or_true, Bool.or_false, Bool.true_and, Bool.false_and, Bool.and_true, Bool.and_false, Bool.not_true, Bool.not_false, cond_true, cond_false]))
              | skip
            refine aw_cond rfl (fun p => ?_) (fun p => ?_)
            · repeat' first
                | refine aw_seq ?_
                | refine aw_region ?_
                | refine aw_lex [] ?_
                | (refine isA ?_; refine do_F rfl ?_)
                | (refine isL ?_; refine lex_F rfl (by kernel_rfl) rfl rfl ?_)
                | (refine isLg rfl ?_; refine lex_S rfl (by kernel_rfl) rfl rfl ?_)
                | exact fin1 rfl rfl (congrArg B (by rw [e3]; simp only [*, Bool.true_or, Bool.false_or, Bool.or_true, Bool.or_false, Bool.true_and, Bool.false_and, Bool.and_true, Bool.and_false, Bool.not_true, Bool.not_false, cond_true, cond_false]))
                | refine aops_nil ?_
                | refine lex_done _ rfl (by kernel_rfl) ?_
                | refine aw_ct rfl ?_
                | refine aw_cf rfl ?_
                | refine aw_block ?_
                | with_reducible refine then_n ?_
                | refine aw_skip ?_
                | refine aw_exit ?_
                | with_reducible refine then_x ?_
                | with_reducible refine then_r ?_
                | with_reducible refine block_x ?_
                | with_reducible refine block_n ?_
                | with_reducible refine block_r ?_
                | refine aw_ret ?_
            have p1 : (!inV s.lp 0 a.length) = false := by assumption
            have p1 : inV s.lp 0 a.length = true := by simpa using p1
            have p2 : inV s.rp 0 b.length = true := by simpa using p
            rw [p1, p2] at e3
            simp only [Bool.true_or, Bool.false_or, Bool.or_true, Bool.or_false, Bool.true_and, Bool.false_and, Bool.and_true, Bool.and_false, Bool.not_true, Bool.not_false, cond_true, cond_false] at e3
            obtain ⟨q1, q2⟩ := inV_iff.1 p1
            obtain ⟨q3, q4⟩ := inV_iff.1 p2
            obtain ⟨i, hi⟩ := Int.eq_ofNat_of_zero_le q1
            obtain ⟨j, hj⟩ := Int.eq_ofNat_of_zero_le q3
            have ei : s.lp.toNat = i := by omega
            have ej : s.rp.toNat = j := by omega
            rw [ei, ej] at e3
            have w1 : IntKind.i64.wrap (s.lp + s.rp) = ((i + j : Nat) : Int) := by rw [hi, hj, IntKind.wrap_i64]; omega
            have li : (a.take i).length ≤ 100000000 := by simp; omega
            have lj : (b.take j).length ≤ 100000000 := by simp; omega
            have m1 := (c_img (a.take i) (b.take j) li lj).frozen (pur_row rfl)
            have m2 := (c_img a b (by omega) (by omega)).frozen (pur_row rfl)
            have n2 := mg_len a b
            have x1 := c_iequal s.out (mgV (a.take i) (b.take j)) (by omega)
            have x2 := c_iequal s.out ((mgV a b).take (i + j)) (by omega)
            generalize mgV (a.take i) (b.take j) = M1 at m1 x1 e3
            generalize mgV a b = M2 at m2 x2 e3 n2
            repeat' first
              | refine aw_seq ?_
              | refine aw_region ?_
              | refine aw_lex [] ?_
              | (refine isA ?_; refine do_F rfl ?_)
              | (refine isL ?_; refine lex_F rfl (by kernel_rfl) rfl rfl ?_)
              | (refine isLg rfl ?_; refine lex_S rfl (by kernel_rfl) rfl rfl ?_)
              | (refine isAx (x := .tmp 159) ?_; refine do_R rfl (st_takeL rfl rfl (congrArg I hi) (by omega)) rfl ?_)
              | (refine isLx (x := .tmp 159) rfl ?_; refine lex_R rfl (by kernel_rfl) rfl (st_takeL rfl rfl (congrArg I hi) (by omega)) rfl ?_)
              | (refine isAx (x := .tmp 163) ?_; refine do_R rfl (st_takeL rfl rfl (congrArg I hj) (by omega)) rfl ?_)
              | (refine isLx (x := .tmp 163) rfl ?_; refine lex_R rfl (by kernel_rfl) rfl (st_takeL rfl rfl (congrArg I hj) (by omega)) rfl ?_)
              | (refine isAx (x := .tmp 174) ?_; refine do_R rfl (st_takeL rfl rfl (congrArg I w1) (by omega)) rfl ?_)
              | (refine isLx (x := .tmp 174) rfl ?_; refine lex_R rfl (by kernel_rfl) rfl (st_takeL rfl rfl (congrArg I w1) (by omega)) rfl ?_)
              | (refine isAc 82 (x := #[.tmp 162, .tmp 166]) ?_; refine do_R rfl (st_call rfl m1 (.cons (.same rfl) (.cons (.same rfl) .nil)) rfl) rfl ?_)
              | (refine isLc 82 (x := #[.tmp 162, .tmp 166]) rfl ?_; refine lex_R rfl (by kernel_rfl) rfl (st_call rfl m1 (.cons (.same rfl) (.cons (.same rfl) .nil)) rfl) rfl ?_)
              | (refine isAc 82 (x := #[.tmp 172, .tmp 173]) ?_; refine do_R rfl (st_call rfl m2 (.cons (.same rfl) (.cons (.same rfl) .nil)) rfl) rfl ?_)
              | (refine isLc 82 (x := #[.tmp 172, .tmp 173]) rfl ?_; refine lex_R rfl (by kernel_rfl) rfl (st_call rfl m2 (.cons (.same rfl) (.cons (.same rfl) .nil)) rfl) rfl ?_)
              | (refine isAc 81 (x := #[.tmp 158, .tmp 167]) ?_; refine do_R rfl (st_call rfl x1 (.cons (.same rfl) (.cons (.same rfl) .nil)) rfl) rfl ?_)
              | (refine isLc 81 (x := #[.tmp 158, .tmp 167]) rfl ?_; refine lex_R rfl (by kernel_rfl) rfl (st_call rfl x1 (.cons (.same rfl) (.cons (.same rfl) .nil)) rfl) rfl ?_)
              | (refine isAc 81 (x := #[.tmp 171, .tmp 180]) ?_; refine do_R rfl (st_call rfl x2 (.cons (.same rfl) (.cons (.same rfl) .nil)) rfl) rfl ?_)
              | (refine isLc 81 (x := #[.tmp 171, .tmp 180]) rfl ?_; refine lex_R rfl (by kernel_rfl) rfl (st_call rfl x2 (.cons (.same rfl) (.cons (.same rfl) .nil)) rfl) rfl ?_)
              | refine aops_nil ?_
              | refine lex_done _ rfl (by kernel_rfl) ?_
              | refine aw_ct rfl ?_
              | refine aw_cf rfl ?_
              | refine aw_block ?_
              | with_reducible refine then_n ?_
              | refine aw_skip ?_
              | refine aw_exit ?_
              | with_reducible refine then_x ?_
              | with_reducible refine then_r ?_
              | with_reducible refine block_x ?_
              | with_reducible refine block_n ?_
              | with_reducible refine block_r ?_
              | refine aw_ret ?_
              | (refine isAg ?_; refine do_br rfl rfl (fun hbr => ?_) (fun hbr => ?_) <;> (fail_if_success (with_reducible (have hx : true = true := hbr))) <;> (fail_if_success (with_reducible (have hx : false = false := hbr))))
              | (refine isLg rfl ?_; refine lex_br rfl rfl rfl rfl (fun hbr => ?_) (fun hbr => ?_) <;> (fail_if_success (with_reducible (have hx : true = true := hbr))) <;> (fail_if_success (with_reducible (have hx : false = false := hbr))))
            all_goals exact fin1 rfl rfl (congrArg B (by rw [e3]; clear hi hj q1 q2 q3 q4; simp only [*, Bool.true_or, Bool.false_or, Bool.or_true, Bool.or_false, Bool.true_and, Bool.false_and, Bool.and_true, Bool.and_false, Bool.not_true, Bool.not_false, cond_true, cond_false]))
        · rw [h2, cond_false] at e3
          repeat' first
            | refine aw_seq ?_
            | refine aw_region ?_
            | refine aw_lex [] ?_
            | (refine isA ?_; refine do_F rfl ?_)
            | (refine isL ?_; refine lex_F rfl (by kernel_rfl) rfl rfl ?_)
            | (refine isLg rfl ?_; refine lex_S rfl (by kernel_rfl) rfl rfl ?_)
            | refine aops_nil ?_
            | refine lex_done _ rfl (by kernel_rfl) ?_
            | refine aw_ct rfl ?_
            | refine aw_cf rfl ?_
            | refine aw_block ?_
            | with_reducible refine then_n ?_
            | refine aw_skip ?_
            | refine aw_exit ?_
            | with_reducible refine then_x ?_
            | with_reducible refine then_r ?_
            | with_reducible refine block_x ?_
            | with_reducible refine block_n ?_
            | with_reducible refine block_r ?_
            | refine aw_ret ?_
          refine aw_cond rfl (fun h3 => ?_) (fun h3 => ?_)
          · rw [h3, cond_true, vEmit_c s (by omega)] at e3
            repeat' first
              | refine aw_seq ?_
              | refine aw_region ?_
              | refine aw_lex [] ?_
              | (refine isA ?_; refine do_F rfl ?_)
              | (refine isL ?_; refine lex_F rfl (by kernel_rfl) rfl rfl ?_)
              | (refine isLg rfl ?_; refine lex_S rfl (by kernel_rfl) rfl rfl ?_)
              | (refine isAc 75 ?_; refine do_R rfl (st_call rfl (c_within _ _ _) (.cons (.same rfl) (.cons (.same rfl) (.cons (.same rfl) .nil))) rfl) rfl ?_)
              | (refine isLc 75 rfl ?_; refine lex_R rfl (by kernel_rfl) rfl (st_call rfl (c_within _ _ _) (.cons (.same rfl) (.cons (.same rfl) (.cons (.same rfl) .nil))) rfl) rfl ?_)
              | refine aops_nil ?_
              | refine lex_done _ rfl (by kernel_rfl) ?_
              | refine aw_ct rfl ?_
              | refine aw_cf rfl ?_
              | refine aw_block ?_
              | with_reducible refine then_n ?_
              | refine aw_skip ?_
              | refine aw_exit ?_
              | with_reducible refine then_x ?_
              | with_reducible refine then_r ?_
              | with_reducible refine block_x ?_
              | with_reducible refine block_n ?_
              | with_reducible refine block_r ?_
              | refine aw_ret ?_
              | (refine isAg ?_; refine do_br rfl rfl (fun hbr => ?_) (fun hbr => ?_) <;> (fail_if_success (with_reducible (have hx : true = true := hbr))) <;> (fail_if_success (with_reducible (have hx : false = false := hbr))))
              | (refine isLg rfl ?_; refine lex_br rfl rfl rfl rfl (fun hbr => ?_) (fun hbr => ?_) <;> (fail_if_success (with_reducible (have hx : true = true := hbr))) <;> (fail_if_success (with_reducible (have hx : false = false := hbr))))
            all_goals exact fin1 rfl rfl (congrArg B (by rw [e3]; simp only [*, Bool.true_or, Bool.false_or, Bool.or_true, Bool.or_false, Bool.true_and, Bool.false_and, Bool.and_true, Bool.and_false, Bool.not_true, Bool.not_false, cond_true, cond_false]))
          · rw [h3, cond_false] at e3
            repeat' first
              | refine aw_seq ?_
              | refine aw_region ?_
              | refine aw_lex [] ?_
              | (refine isA ?_; refine do_F rfl ?_)
              | (refine isL ?_; refine lex_F rfl (by kernel_rfl) rfl rfl ?_)
              | (refine isLg rfl ?_; refine lex_S rfl (by kernel_rfl) rfl rfl ?_)
              | refine aops_nil ?_
              | refine lex_done _ rfl (by kernel_rfl) ?_
              | refine aw_ct rfl ?_
              | refine aw_cf rfl ?_
              | refine aw_block ?_
              | with_reducible refine then_n ?_
              | refine aw_skip ?_
              | refine aw_exit ?_
              | with_reducible refine then_x ?_
              | with_reducible refine then_r ?_
              | with_reducible refine block_x ?_
              | with_reducible refine block_n ?_
              | with_reducible refine block_r ?_
              | refine aw_ret ?_
            refine aw_cond rfl (fun h4 => ?_) (fun h4 => ?_)
            · rw [h4, cond_true, vDone_c s] at e3
              repeat' first
                | refine aw_seq ?_
                | refine aw_region ?_
                | refine aw_lex [] ?_
                | (refine isA ?_; refine do_F rfl ?_)
                | (refine isL ?_; refine lex_F rfl (by kernel_rfl) rfl rfl ?_)
                | (refine isLg rfl ?_; refine lex_S rfl (by kernel_rfl) rfl rfl ?_)
                | refine aops_nil ?_
                | refine lex_done _ rfl (by kernel_rfl) ?_
                | refine aw_ct rfl ?_
                | refine aw_cf rfl ?_
                | refine aw_block ?_
                | with_reducible refine then_n ?_
                | refine aw_skip ?_
                | refine aw_exit ?_
                | with_reducible refine then_x ?_
                | with_reducible refine then_r ?_
                | with_reducible refine block_x ?_
                | with_reducible refine block_n ?_
                | with_reducible refine block_r ?_
                | refine aw_ret ?_
                | (refine isAg ?_; refine do_br rfl rfl (fun hbr => ?_) (fun hbr => ?_) <;> (fail_if_success (with_reducible (have hx : true = true := hbr))) <;> (fail_if_success (with_reducible (have hx : false = false := hbr))))
                | (refine isLg rfl ?_; refine lex_br rfl rfl rfl rfl (fun hbr => ?_) (fun hbr => ?_) <;> (fail_if_success (with_reducible (have hx : true = true := hbr))) <;> (fail_if_success (with_reducible (have hx : false = false := hbr))))
              all_goals exact fin1 rfl rfl (congrArg B (by rw [e3]; simp only [*, Bool.true_or, Bool.false_or, Bool.or_true, Bool.or_false, Bool.true_and, Bool.false_and, Bool.and_true, Bool.and_false, Bool.not_true, Bool.not_false, cond_true, cond_false]))
            · rw [h4, cond_false] at e3
              repeat' first
                | refine aw_seq ?_
                | refine aw_region ?_
                | refine aw_lex [] ?_
                | (refine isA ?_; refine do_F rfl ?_)
                | (refine isL ?_; refine lex_F rfl (by kernel_rfl) rfl rfl ?_)
                | (refine isLg rfl ?_; refine lex_S rfl (by kernel_rfl) rfl rfl ?_)
                | exact fin1 rfl rfl (congrArg B (by rw [e3]))
                | refine aops_nil ?_
                | refine lex_done _ rfl (by kernel_rfl) ?_
                | refine aw_ct rfl ?_
                | refine aw_cf rfl ?_
                | refine aw_block ?_
                | with_reducible refine then_n ?_
                | refine aw_skip ?_
                | refine aw_exit ?_
                | with_reducible refine then_x ?_
                | with_reducible refine then_r ?_
                | with_reducible refine block_x ?_
                | with_reducible refine block_n ?_
                | with_reducible refine block_r ?_
                | refine aw_ret ?_
end Go.Proofs.Ytojcojanokhnaaa.Ab

/- SrB -/
namespace Go.Proofs.Ytojcojanokhnaaa.Ab
open Go.RowKit

theorem vRead_d (s : So) (h : s.out.length ≤ 1000000000) : vRead s = (decide (s.lp = 0) && (decide (s.rp = 0) && ((decide ((s.dfr.length : Int) = 0) || decide ((0 : Int) ≤ IntKind.i64.wrap ((s.out.length : Int) - 1))) && (decide (memV s ≤ 60) && eqB (s.runs.flatten ++ s.out ++ s.heap ++ s.dfr) (s.input.take s.pos.toNat))))) := by
  rw [vRead_e, Bool.or_comm, show decide ((0 : Int) < (s.out.length : Int)) = decide ((0 : Int) ≤ IntKind.i64.wrap ((s.out.length : Int) - 1)) from decide_eq_decide.2 (by rw [IntKind.wrap_i64]; omega)]
theorem vRest_d (s : So) (h1 : s.heap.length ≤ 1000000000) (h2 : s.dfr.length ≤ 1000000000) : vRest s = (!(!decide (s.pos = s.input.length) || decide ((0 : Int) < IntKind.i64.wrap ((s.heap.length : Int) + (s.dfr.length : Int)))) && eqB s.runs.flatten s.input) := by
  rw [vRest_c, show decide ((0 : Int) < IntKind.i64.wrap ((s.heap.length : Int) + (s.dfr.length : Int))) = (decide ((0 : Int) < (s.heap.length : Int)) || decide ((0 : Int) < (s.dfr.length : Int))) from by rw [← Bool.decide_or]; exact decide_eq_decide.2 (by rw [IntKind.wrap_i64]; omega)]
  generalize decide (s.pos = s.input.length) = p
  generalize decide ((0 : Int) < (s.heap.length : Int)) = q
  generalize decide ((0 : Int) < (s.dfr.length : Int)) = r
  generalize eqB s.runs.flatten s.input = t
  cases p <;> cases q <;> cases r <;> cases t <;> rfl
/-- Behind the merge: what the specification asks first of a sorter that hands out or is done. -/
theorem vTail (s : So) : cond (decide (s.ph = 3)) (vEmit s) (cond (decide (s.ph = 4)) (vDone s) false) = (!(decide ((1 : Int) < (s.runs.length : Int)) || (!decide (s.rp = 0) || decide ((0 : Int) < (s.out.length : Int)))) && cond (decide (s.ph = 3)) (decide ((s.runs.length : Int) = 1) && inV s.lp 0 ((s.input.length : Int) - 1)) (decide (s.ph = 4) && decide (s.lp = s.input.length))) := by
  unfold vEmit vDone
  rw [show decide (s.out.length = 0) = !decide ((0 : Int) < (s.out.length : Int)) from by rw [← decide_not]; exact decide_eq_decide.2 (by omega), show decide (s.runs.length ≤ 1) = !decide ((1 : Int) < (s.runs.length : Int)) from by rw [← decide_not]; exact decide_eq_decide.2 (by omega), show decide (s.runs.length = 1) = decide ((s.runs.length : Int) = 1) from decide_eq_decide.2 (by omega)]
  rcases Classical.em ((s.runs.length : Int) = 1) with h | h
  · rw [decide_eq_true h, decide_eq_false (show ¬ (1 : Int) < (s.runs.length : Int) by omega)]
    generalize decide ((0 : Int) < (s.out.length : Int)) = q
    generalize decide (s.rp = 0) = r
    generalize inV s.lp 0 ((s.input.length : Int) - 1) = t
    generalize decide (s.lp = s.input.length) = u
    cases decide (s.ph = 3) <;> cases decide (s.ph = 4) <;> cases q <;> cases r <;> cases t <;> cases u <;> rfl
  · rw [decide_eq_false h]
    generalize decide ((1 : Int) < (s.runs.length : Int)) = p
    generalize decide ((0 : Int) < (s.out.length : Int)) = q
    generalize decide (s.rp = 0) = r
    generalize inV s.lp 0 ((s.input.length : Int) - 1) = t
    generalize decide (s.lp = s.input.length) = u
    cases decide (s.ph = 3) <;> cases decide (s.ph = 4) <;> cases p <;> cases q <;> cases r <;> cases t <;> cases u <;> rfl
theorem c_svS (s : So) (hok : okSo s) : Meets Go.Proofs.Try.prog 18 [.agg (soE s)] [] (B (vS s)) [] false := by
  have g1 := hok.input
  have g2 := hok.heap
  have g3 := hok.dfr
  have g4 := hok.out
  have g5 := hok.rn
  have g6 := hok.tot
  have g7 := flat_len s.runs
  have a1 := c_savR s.input (by omega)
  have a2 := c_savS s.runs g5
  have a3 := c_siso s.out (by omega)
  have a4 := c_smem s hok
  have a5 := (c_sflat s.runs g5 (by omega)).frozen (pur_row rfl)
  have a6 := c_seqB2 s.runs.flatten s.input (by omega) (by omega)
  refine meets_of [2] Go.Proofs.Try.func18 rfl rfl ?_
  simp only [Go.Proofs.Try.ntmps18, List.length_cons, List.length_nil, Nat.reduceAdd, Nat.reduceSub, List.replicate_succ, List.replicate_zero, List.cons_append, List.nil_append]
  repeat' first
    | refine aw_seq ?_
    | refine aw_region ?_
    | refine aw_lex [] ?_
    | (refine isA ?_; refine do_F rfl ?_)
    | (refine isL ?_; refine lex_F rfl (by kernel_rfl) rfl rfl ?_)
    | (refine isLg rfl ?_; refine lex_S rfl (by kernel_rfl) rfl rfl ?_)
    | (refine isAc 25 ?_; refine do_R rfl (st_call rfl a1 (.cons (.same rfl) .nil) rfl) rfl ?_)
    | (refine isLc 25 rfl ?_; refine lex_R rfl (by kernel_rfl) rfl (st_call rfl a1 (.cons (.same rfl) .nil) rfl) rfl ?_)
    | (refine isAc 66 ?_; refine do_R rfl (st_call rfl (c_in _ _ _) (.cons (.same rfl) (.cons (.same rfl) (.cons (.same rfl) .nil))) rfl) rfl ?_)
    | (refine isLc 66 rfl ?_; refine lex_R rfl (by kernel_rfl) rfl (st_call rfl (c_in _ _ _) (.cons (.same rfl) (.cons (.same rfl) (.cons (.same rfl) .nil))) rfl) rfl ?_)
    | (refine isAc 83 ?_; refine do_R rfl (st_call rfl a2 (.cons (.same rfl) .nil) rfl) rfl ?_)
    | (refine isLc 83 rfl ?_; refine lex_R rfl (by kernel_rfl) rfl (st_call rfl a2 (.cons (.same rfl) .nil) rfl) rfl ?_)
    | (refine isAc 84 ?_; refine do_R rfl (st_call rfl a3 (.cons (.same rfl) .nil) rfl) rfl ?_)
    | (refine isLc 84 rfl ?_; refine lex_R rfl (by kernel_rfl) rfl (st_call rfl a3 (.cons (.same rfl) .nil) rfl) rfl ?_)
    | refine aops_nil ?_
    | refine lex_done _ rfl (by kernel_rfl) ?_
    | refine aw_ct rfl ?_
    | refine aw_cf rfl ?_
    | refine aw_block ?_
    | with_reducible refine then_n ?_
    | refine aw_skip ?_
    | refine aw_exit ?_
    | with_reducible refine then_x ?_
    | with_reducible refine then_r ?_
    | with_reducible refine block_x ?_
    | with_reducible refine block_n ?_
    | with_reducible refine block_r ?_
    | refine aw_ret ?_
    | refine aw_cond rfl (fun hbr => ?_) (fun hbr => ?_)
    | (refine isAg ?_; refine do_br rfl rfl (fun hbr => ?_) (fun hbr => ?_) <;> (fail_if_success (with_reducible (have hx : true = true := hbr))) <;> (fail_if_success (with_reducible (have hx : false = false := hbr))))
    | (refine isLg rfl ?_; refine lex_br rfl rfl rfl rfl (fun hbr => ?_) (fun hbr => ?_) <;> (fail_if_success (with_reducible (have hx : true = true := hbr))) <;> (fail_if_success (with_reducible (have hx : false = false := hbr))))
  all_goals first
    | exact fin1 rfl rfl (congrArg B (vS_no (by rw [vBase_c]; simp only [*, Bool.true_or, Bool.false_or, Bool.or_true, Bool.or_false, Bool.true_and, Bool.false_and, Bool.and_true, Bool.and_false, Bool.not_true, Bool.not_false, cond_true, cond_false])).symm)
    | skip
  have hq : (avR s.input && (inV s.pos 0 s.input.length && (avS s.runs && (!decide (s.wr < 0) && isoV s.out)))) = true := by
    simp only [Bool.not_eq_false'] at *
    simp only [*, Bool.true_and, Bool.not_false]
  refine aw_loop (α := { i : Nat // i ≤ s.heap.length ∧ ∀ j z, j < i → s.heap[j]? = some z → bel z s.out = false }) (fun i => ⟨(.any :: (.ptr 0 0) :: .any :: (I (IntKind.i64.wrap ((s.out.length : Int) - 1))) :: (I i.1) :: .any :: .any :: .any :: .any :: .any :: .any :: .any :: .any :: .any :: .any :: .any :: .any :: .any :: .any :: .any :: .any :: .any :: .any :: .any :: .any :: .any :: .any :: .any :: .any :: .any :: .any :: .any :: .any :: .any :: .any :: .any :: .any :: .any :: .any :: .any :: .any :: .any :: .any :: .any :: .any :: .any :: .any :: .any :: .any :: .any :: .any :: .any :: .any :: .any :: .any :: .any :: .any :: .any :: .any :: .any :: .any :: .any :: .any :: .any :: .any :: .any :: .any :: .any :: .any :: .any :: .any :: .any :: .any :: .any :: .any :: .any :: .any :: .any :: .any :: .any :: .any :: .any :: .any :: .any :: .any :: .any :: .any :: .any :: .any :: .any :: .any :: .any :: .any :: .any :: .any :: .any :: .any :: .any :: .any :: .any :: .any :: .any :: .any :: .any :: .any :: .any :: .any :: .any :: .any :: .any :: .any :: .any :: .any :: .any :: .any :: .any :: .any :: .any :: .any :: .any :: .any :: .any :: .any :: .any :: .any :: .any :: .any :: .any :: .any :: .any :: .any :: .any :: .any :: .any :: .any :: .any :: .any :: .any :: .any :: .any :: .any :: .any :: .any :: .any :: .any :: .any :: .any :: .any :: .any :: .any :: .any :: .any :: .any :: .any :: .any :: .any :: .any :: .any :: .any :: .any :: .any :: .any :: .any :: .any :: .any :: .any :: .any :: .any :: .any :: .any :: .any :: .any :: .any :: .any :: .any :: .any :: .any :: .any :: .any :: .any :: .any :: .any :: .any :: .any :: .any :: .any :: .any :: .any :: .any :: .any :: .any :: .any :: .any :: .any :: .any :: .any :: .any :: .any :: .any :: .any :: .any :: .any :: .any :: .any :: .any :: .any :: .any :: .any :: .any :: .any :: .any :: .any :: .any :: .any :: .any :: .any :: .any :: .any :: .any :: .any :: .any :: .any :: .any :: .any :: .any :: .any :: .any :: .any :: .any :: .any :: .any :: .any :: .any :: .any :: .any :: .any :: .any :: .any :: .any :: .any :: .any :: .any :: .any :: .any :: .any :: .any :: .any :: .any :: .any :: .any :: .any :: .any :: .any :: .any :: .any :: .any :: .any :: .any :: .any :: .any :: []), [⟨27, 10, soE s, 0⟩], 0⟩) (fun i => s.heap.length - i.1) ⟨0, Nat.zero_le _, fun j z h => absurd h (Nat.not_lt_zero j)⟩ ?_ ?_
  · exact sub0 [0] rfl rfl (by decide) (by repeat' first | exact HLes.nil | refine HLes.cons rfl rfl rfl rfl ?_ ?_ | exact les_nil | refine les_cons ?_ ?_ | exact le_any | exact le_refl rfl | exact le_sl rfl rfl | exact le_ptr rfl) (by repeat' first | exact les_nil | refine les_cons ?_ ?_ | exact le_any | exact le_refl rfl | exact le_sl rfl rfl | exact le_ptr rfl)
  · rintro ⟨i, hi, hb⟩
    repeat' first
      | refine aw_seq ?_
      | refine aw_region ?_
      | refine aw_lex [] ?_
      | (refine isA ?_; refine do_F rfl ?_)
      | (refine isL ?_; refine lex_F rfl (by kernel_rfl) rfl rfl ?_)
      | (refine isLg rfl ?_; refine lex_S rfl (by kernel_rfl) rfl rfl ?_)
      | refine aops_nil ?_
      | refine lex_done _ rfl (by kernel_rfl) ?_
      | refine aw_ct rfl ?_
      | refine aw_cf rfl ?_
      | refine aw_block ?_
      | with_reducible refine then_n ?_
      | refine aw_skip ?_
      | refine aw_exit ?_
      | with_reducible refine then_x ?_
      | with_reducible refine then_r ?_
      | with_reducible refine block_x ?_
      | with_reducible refine block_n ?_
      | with_reducible refine block_r ?_
      | refine aw_ret ?_
    refine aw_cond rfl (fun h => ?_) (fun h => ?_)
    · have hlt : i < s.heap.length := by simpa using h
      obtain ⟨z, hz⟩ : ∃ z, s.heap[i]? = some z := ⟨_, List.getElem?_eq_getElem hlt⟩
      repeat' first
        | refine aw_seq ?_
        | refine aw_region ?_
        | refine aw_lex [] ?_
        | (refine isA ?_; refine do_F rfl ?_)
        | (refine isL ?_; refine lex_F rfl (by kernel_rfl) rfl rfl ?_)
        | (refine isLg rfl ?_; refine lex_S rfl (by kernel_rfl) rfl rfl ?_)
        | refine aops_nil ?_
        | refine lex_done _ rfl (by kernel_rfl) ?_
        | refine aw_ct rfl ?_
        | refine aw_cf rfl ?_
        | refine aw_block ?_
        | with_reducible refine then_n ?_
        | refine aw_skip ?_
        | refine aw_exit ?_
        | with_reducible refine then_x ?_
        | with_reducible refine then_r ?_
        | with_reducible refine block_x ?_
        | with_reducible refine block_n ?_
        | with_reducible refine block_r ?_
        | refine aw_ret ?_
      refine lex_br rfl rfl rfl rfl (fun p1 => ?_) (fun p1 => ?_)
      · have q1 : 0 < s.out.length := by have := of_decide_eq_true p1; rw [IntKind.wrap_i64] at this; omega
        obtain ⟨y, hy⟩ : ∃ z, s.out[s.out.length - 1]? = some z := ⟨_, List.getElem?_eq_getElem (by omega)⟩
        have ew : IntKind.i64.wrap ((s.out.length : Int) - 1) = ((s.out.length - 1 : Nat) : Int) := by rw [IntKind.wrap_i64]; omega
        have eb : bel z s.out = decide (cmpV z y < 0) := by unfold bel; rw [hy]; rfl
        repeat' first
          | refine aw_seq ?_
          | refine aw_region ?_
          | refine aw_lex [] ?_
          | (refine isA ?_; refine do_F rfl ?_)
          | (refine isL ?_; refine lex_F rfl (by kernel_rfl) rfl rfl ?_)
          | (refine isLg rfl ?_; refine lex_S rfl (by kernel_rfl) rfl rfl ?_)
          | (refine isAi (x := .tmp 52) ?_; refine do_R rfl (ia_l (t := rwT) (z := z) rfl rfl rfl rfl (Int.natCast_nonneg i) hz) rfl ?_)
          | (refine isLi (x := .tmp 52) rfl ?_; refine lex_R rfl (by kernel_rfl) rfl (ia_l (t := rwT) (z := z) rfl rfl rfl rfl (Int.natCast_nonneg i) hz) rfl ?_)
          | (refine isAi (x := .tmp 57) ?_; refine do_R rfl (ia_l (t := rwT) (j := ((s.out.length - 1 : Nat) : Int)) (z := y) rfl rfl rfl (congrArg I ew) (Int.natCast_nonneg _) hy) rfl ?_)
          | (refine isLi (x := .tmp 57) rfl ?_; refine lex_R rfl (by kernel_rfl) rfl (ia_l (t := rwT) (j := ((s.out.length - 1 : Nat) : Int)) (z := y) rfl rfl rfl (congrArg I ew) (Int.natCast_nonneg _) hy) rfl ?_)
          | (refine isAc 68 ?_; refine do_R rfl (st_call rfl (c_scmp z y) (.cons (.same rfl) (.cons (.same rfl) .nil)) rfl) rfl ?_)
          | (refine isLc 68 rfl ?_; refine lex_R rfl (by kernel_rfl) rfl (st_call rfl (c_scmp z y) (.cons (.same rfl) (.cons (.same rfl) .nil)) rfl) rfl ?_)
          | refine aops_nil ?_
          | refine lex_done _ rfl (by kernel_rfl) ?_
          | refine aw_ct rfl ?_
          | refine aw_cf rfl ?_
          | refine aw_block ?_
          | with_reducible refine then_n ?_
          | refine aw_skip ?_
          | refine aw_exit ?_
          | with_reducible refine then_x ?_
          | with_reducible refine then_r ?_
          | with_reducible refine block_x ?_
          | with_reducible refine block_n ?_
          | with_reducible refine block_r ?_
          | refine aw_ret ?_
        refine aw_cond rfl (fun p => ?_) (fun p => ?_)
        · repeat' first
            | refine aw_seq ?_
            | refine aw_region ?_
            | refine aw_lex [] ?_
            | (refine isA ?_; refine do_F rfl ?_)
            | (refine isL ?_; refine lex_F rfl (by kernel_rfl) rfl rfl ?_)
            | (refine isLg rfl ?_; refine lex_S rfl (by kernel_rfl) rfl rfl ?_)
            | exact fin1 rfl rfl (congrArg B (vS_no (heap_no hz (eb.trans p))).symm)
            | refine aops_nil ?_
            | refine lex_done _ rfl (by kernel_rfl) ?_
            | refine aw_ct rfl ?_
            | refine aw_cf rfl ?_
            | refine aw_block ?_
            | with_reducible refine then_n ?_
            | refine aw_skip ?_
            | refine aw_exit ?_
            | with_reducible refine then_x ?_
            | with_reducible refine then_r ?_
            | with_reducible refine block_x ?_
            | with_reducible refine block_n ?_
            | with_reducible refine block_r ?_
            | refine aw_ret ?_
        · repeat' first
            | refine aw_seq ?_
            | refine aw_region ?_
            | refine aw_lex [] ?_
            | (refine isA ?_; refine do_F rfl ?_)
            | (refine isL ?_; refine lex_F rfl (by kernel_rfl) rfl rfl ?_)
            | (refine isLg rfl ?_; refine lex_S rfl (by kernel_rfl) rfl rfl ?_)
            | refine aops_nil ?_
            | refine lex_done _ rfl (by kernel_rfl) ?_
            | refine aw_ct rfl ?_
            | refine aw_cf rfl ?_
            | refine aw_block ?_
            | with_reducible refine then_n ?_
            | refine aw_skip ?_
            | refine aw_exit ?_
            | with_reducible refine then_x ?_
            | with_reducible refine then_r ?_
            | with_reducible refine block_x ?_
            | with_reducible refine block_n ?_
            | with_reducible refine block_r ?_
            | refine aw_ret ?_
          refine ⟨⟨i + 1, hlt, heap_step hb hz (eb.trans p)⟩, by simp only; omega, ?_⟩
          exact sub0 [0] rfl rfl (by decide) (by repeat' first | exact HLes.nil | refine HLes.cons rfl rfl rfl rfl ?_ ?_ | exact les_nil | refine les_cons ?_ ?_ | exact le_any | exact le_refl rfl | exact le_sl rfl rfl | exact le_ptr rfl) (by repeat' first | exact les_nil | refine les_cons ?_ ?_ | exact le_any | exact le_refl rfl | exact le_sl rfl rfl | exact le_ptr rfl | exact le_i (by assumption) (by omega))
      · have q1 : s.out.length = 0 := by have := of_decide_eq_false p1; rw [IntKind.wrap_i64] at this; omega
        have eb : bel z s.out = false := by rw [List.eq_nil_of_length_eq_zero q1]; rfl
        repeat' first
          | refine aw_seq ?_
          | refine aw_region ?_
          | refine aw_lex [] ?_
          | (refine isA ?_; refine do_F rfl ?_)
          | (refine isL ?_; refine lex_F rfl (by kernel_rfl) rfl rfl ?_)
          | (refine isLg rfl ?_; refine lex_S rfl (by kernel_rfl) rfl rfl ?_)
          | refine aops_nil ?_
          | refine lex_done _ rfl (by kernel_rfl) ?_
          | refine aw_ct rfl ?_
          | refine aw_cf rfl ?_
          | refine aw_block ?_
          | with_reducible refine then_n ?_
          | refine aw_skip ?_
          | refine aw_exit ?_
          | with_reducible refine then_x ?_
          | with_reducible refine then_r ?_
          | with_reducible refine block_x ?_
          | with_reducible refine block_n ?_
          | with_reducible refine block_r ?_
          | refine aw_ret ?_
        refine ⟨⟨i + 1, hlt, heap_step hb hz eb⟩, by simp only; omega, ?_⟩
        exact sub0 [0] rfl rfl (by decide) (by repeat' first | exact HLes.nil | refine HLes.cons rfl rfl rfl rfl ?_ ?_ | exact les_nil | refine les_cons ?_ ?_ | exact le_any | exact le_refl rfl | exact le_sl rfl rfl | exact le_ptr rfl) (by repeat' first | exact les_nil | refine les_cons ?_ ?_ | exact le_any | exact le_refl rfl | exact le_sl rfl rfl | exact le_ptr rfl | exact le_i (by assumption) (by omega))
    · have hge : i = s.heap.length := by
        have : ¬ ((i : Int) < s.heap.length) := by simpa using h
        omega
      subst hge
      have hB := heap_yes hq hb
      have e1 := vS_rd hB
      have e2 := vS_rs hB
      simp only [Bool.and_eq_true, inV_iff] at hq
      obtain ⟨hv0, ⟨hp0, hp1⟩, hv1, hv2, hv3⟩ := hq
      repeat' first
        | refine aw_seq ?_
        | refine aw_region ?_
        | refine aw_lex [] ?_
        | (refine isA ?_; refine do_F rfl ?_)
        | (refine isL ?_; refine lex_F rfl (by kernel_rfl) rfl rfl ?_)
        | (refine isLg rfl ?_; refine lex_S rfl (by kernel_rfl) rfl rfl ?_)
        | refine aops_nil ?_
        | refine lex_done _ rfl (by kernel_rfl) ?_
        | refine aw_ct rfl ?_
        | refine aw_cf rfl ?_
        | refine aw_block ?_
        | with_reducible refine then_n ?_
        | refine aw_skip ?_
        | refine aw_exit ?_
        | with_reducible refine then_x ?_
        | with_reducible refine then_r ?_
        | with_reducible refine block_x ?_
        | with_reducible refine block_n ?_
        | with_reducible refine block_r ?_
        | refine aw_ret ?_
      refine aw_cond rfl (fun h => ?_) (fun h => ?_)
      · have e1 := e1 h
        rw [vRead_d s (by omega)] at e1
        have hp : s.pos = ((s.pos.toNat : Nat) : Int) := by omega
        have a7 := c_sflat s.runs g5 (by omega)
        have a8 := c_seqB2 (s.runs.flatten ++ s.out ++ s.heap ++ s.dfr) (s.input.take s.pos.toNat) (by rw [List.length_append, List.length_append, List.length_append]; omega) (by simp; omega)
        repeat' first
          | refine aw_seq ?_
          | refine aw_region ?_
          | (refine isA ?_; refine do_F rfl ?_)
          | (refine isL ?_; refine lex_F rfl (by kernel_rfl) rfl rfl ?_)
          | (refine isLg rfl ?_; refine lex_S rfl (by kernel_rfl) rfl rfl ?_)
          | refine aops_nil ?_
          | refine lex_done _ rfl (by kernel_rfl) ?_
          | refine aw_ct rfl ?_
          | refine aw_cf rfl ?_
          | refine aw_block ?_
          | with_reducible refine then_n ?_
          | refine aw_skip ?_
          | refine aw_exit ?_
          | with_reducible refine then_x ?_
          | with_reducible refine then_r ?_
          | with_reducible refine block_x ?_
          | with_reducible refine block_n ?_
          | with_reducible refine block_r ?_
          | refine aw_ret ?_
        refine aw_perG (fun H => H[0]? = some (⟨27, 10, soE s, 0⟩ : Reg)) 13 rfl ?_
        refine perG_P 0 rfl rfl (by kernel_rfl) rfl (fun _ => rfl) rfl ?_
        refine perG_R 1 rfl rfl (by kernel_rfl) rfl (fun _ hG => rd_sc rfl rfl hG rfl rfl) rfl ?_
        refine perG_P 3 rfl rfl (by kernel_rfl) rfl (fun _ => rfl) rfl ?_
        refine perG_R 4 rfl rfl (by kernel_rfl) rfl (fun _ hG => rd_sc rfl rfl hG rfl rfl) rfl ?_
        refine perG_P 6 rfl rfl (by kernel_rfl) rfl (fun _ => rfl) rfl ?_
        refine perG_R 7 rfl rfl (by kernel_rfl) rfl (fun _ hG => rd_sc rfl rfl hG rfl rfl) rfl ?_
        refine perG_P 9 rfl rfl (by kernel_rfl) rfl (fun _ => rfl) rfl ?_
        refine perG_R 10 rfl rfl (by kernel_rfl) rfl (fun _ hG => rd_sc rfl rfl hG rfl rfl) rfl ?_
        refine perG_1 2 (by kernel_rfl) ?_
        refine br_W rfl rfl (st_callK rfl a7 (.cons (.same rfl) .nil) (fun q hq => by simp at hq; subst hq; exact flat_noH _ _) rfl rfl) rfl rfl ?_
        refine perG_1 5 (by kernel_rfl) ?_
        refine br_W rfl rfl (ap_l (t := rwT) (xs := s.runs.flatten) (ys := s.out) rfl rfl rfl rfl (.lst _ _) (by omega) rfl) rfl rfl ?_
        refine perG_1 8 (by kernel_rfl) ?_
        refine br_W rfl rfl (ap_l (t := rwT) (xs := s.runs.flatten ++ s.out) (ys := s.heap) rfl rfl rfl rfl (.lst _ _) (by rw [List.length_append]; omega) rfl) rfl rfl ?_
        refine perG_1 11 (by kernel_rfl) ?_
        refine br_W rfl rfl (ap_l (t := rwT) (xs := s.runs.flatten ++ s.out ++ s.heap) (ys := s.dfr) rfl rfl rfl rfl (.lst _ _) (by rw [List.length_append, List.length_append]; omega) rfl) rfl rfl ?_
        refine perG_P 12 rfl rfl (by kernel_rfl) rfl (fun _ => rfl) rfl ?_
        refine perG_done (by kernel_rfl) ?_
        repeat' first
          | refine aw_seq ?_
          | refine aw_region ?_
          | refine aw_lex [] ?_
          | (refine isA ?_; refine do_F rfl ?_)
          | (refine isL ?_; refine lex_F rfl (by kernel_rfl) rfl rfl ?_)
          | (refine isLg rfl ?_; refine lex_S rfl (by kernel_rfl) rfl rfl ?_)
          | (refine isAc 20 ?_; refine do_R rfl (st_call rfl a4 (.cons (.same rfl) .nil) rfl) rfl ?_)
          | (refine isLc 20 rfl ?_; refine lex_R rfl (by kernel_rfl) rfl (st_call rfl a4 (.cons (.same rfl) .nil) rfl) rfl ?_)
          | (refine isAc 86 ?_; refine do_R rfl (st_call rfl a8 (.cons (pur_row rfl) (.cons (.same rfl) .nil)) rfl) rfl ?_)
          | (refine isLc 86 rfl ?_; refine lex_R rfl (by kernel_rfl) rfl (st_call rfl a8 (.cons (pur_row rfl) (.cons (.same rfl) .nil)) rfl) rfl ?_)
          | (refine isAx (x := .tmp 105) ?_; refine do_R rfl (st_takeL rfl rfl (congrArg I hp) (by omega)) rfl ?_)
          | (refine isLx (x := .tmp 105) rfl ?_; refine lex_R rfl (by kernel_rfl) rfl (st_takeL rfl rfl (congrArg I hp) (by omega)) rfl ?_)
          | refine aops_nil ?_
          | refine lex_done _ rfl (by kernel_rfl) ?_
          | refine aw_ct rfl ?_
          | refine aw_cf rfl ?_
          | refine aw_block ?_
          | with_reducible refine then_n ?_
          | refine aw_skip ?_
          | refine aw_exit ?_
          | with_reducible refine then_x ?_
          | with_reducible refine then_r ?_
          | with_reducible refine block_x ?_
          | with_reducible refine block_n ?_
          | with_reducible refine block_r ?_
          | refine aw_ret ?_
          | refine aw_cond rfl (fun hbr => ?_) (fun hbr => ?_)
          | (refine isAg ?_; refine do_br rfl rfl (fun hbr => ?_) (fun hbr => ?_) <;> (fail_if_success (with_reducible (have hx : true = true := hbr))) <;> (fail_if_success (with_reducible (have hx : false = false := hbr))))
          | (refine isLg rfl ?_; refine lex_br rfl rfl rfl rfl (fun hbr => ?_) (fun hbr => ?_) <;> (fail_if_success (with_reducible (have hx : true = true := hbr))) <;> (fail_if_success (with_reducible (have hx : false = false := hbr))))
        all_goals exact fin1 rfl rfl (congrArg B (by rw [e1]; clear e1 e2 hp; simp only [*, Bool.true_or, Bool.false_or, Bool.or_true, Bool.or_false, Bool.true_and, Bool.false_and, Bool.and_true, Bool.and_false, Bool.not_true, Bool.not_false, cond_true, cond_false]))
      · have e2 := e2 h
        rw [vRest_d s (by omega) (by omega)] at e2
        repeat' first
          | refine aw_seq ?_
          | refine aw_region ?_
          | refine aw_lex [] ?_
          | (refine isA ?_; refine do_F rfl ?_)
          | (refine isL ?_; refine lex_F rfl (by kernel_rfl) rfl rfl ?_)
          | (refine isLg rfl ?_; refine lex_S rfl (by kernel_rfl) rfl rfl ?_)
          | refine aops_nil ?_
          | refine lex_done _ rfl (by kernel_rfl) ?_
          | refine aw_ct rfl ?_
          | refine aw_cf rfl ?_
          | refine aw_block ?_
          | with_reducible refine then_n ?_
          | refine aw_skip ?_
          | refine aw_exit ?_
          | with_reducible refine then_x ?_
          | with_reducible refine then_r ?_
          | with_reducible refine block_x ?_
          | with_reducible refine block_n ?_
          | with_reducible refine block_r ?_
          | refine aw_ret ?_
          | (refine isAg ?_; refine do_br rfl rfl (fun hbr => ?_) (fun hbr => ?_) <;> (fail_if_success (with_reducible (have hx : true = true := hbr))) <;> (fail_if_success (with_reducible (have hx : false = false := hbr))))
          | (refine isLg rfl ?_; refine lex_br rfl rfl rfl rfl (fun hbr => ?_) (fun hbr => ?_) <;> (fail_if_success (with_reducible (have hx : true = true := hbr))) <;> (fail_if_success (with_reducible (have hx : false = false := hbr))))
        all_goals first
          | exact fin1 rfl rfl (congrArg B (by rw [e2]; clear e1 e2; simp only [*, Bool.true_or, Bool.false_or, Bool.or_true, Bool.or_false, Bool.true_and, Bool.false_and, Bool.and_true, Bool.and_false, Bool.not_true, Bool.not_false, cond_true, cond_false]))
          | skip
        refine aw_cond rfl (fun q => ?_) (fun q => ?_)
        · repeat' first
            | refine aw_seq ?_
            | refine aw_region ?_
            | refine aw_lex [] ?_
            | (refine isA ?_; refine do_F rfl ?_)
            | (refine isL ?_; refine lex_F rfl (by kernel_rfl) rfl rfl ?_)
            | (refine isLg rfl ?_; refine lex_S rfl (by kernel_rfl) rfl rfl ?_)
            | exact fin1 rfl rfl (congrArg B (by rw [e2]; clear e1 e2; simp only [*, Bool.true_or, Bool.false_or, Bool.or_true, Bool.or_false, Bool.true_and, Bool.false_and, Bool.and_true, Bool.and_false, Bool.not_true, Bool.not_false, cond_true, cond_false]))
            | refine aops_nil ?_
            | refine lex_done _ rfl (by kernel_rfl) ?_
            | refine aw_ct rfl ?_
            | refine aw_cf rfl ?_
            | refine aw_block ?_
            | with_reducible refine then_n ?_
            | refine aw_skip ?_
            | refine aw_exit ?_
            | with_reducible refine then_x ?_
            | with_reducible refine then_r ?_
            | with_reducible refine block_x ?_
            | with_reducible refine block_n ?_
            | with_reducible refine block_r ?_
            | refine aw_ret ?_
        have e3 : vS s = (eqB s.runs.flatten s.input && cond (decide (s.ph = 2)) (vMerge s) (cond (decide (s.ph = 3)) (vEmit s) (cond (decide (s.ph = 4)) (vDone s) false))) := by
          rw [e2]
          clear e1 e2
          simp only [*, Bool.true_or, Bool.false_or, Bool.or_true, Bool.or_false, Bool.true_and, Bool.false_and, Bool.and_true, Bool.and_false, Bool.not_true, Bool.not_false, cond_true, cond_false]
        clear e1 e2
        repeat' first
          | refine aw_seq ?_
          | refine aw_region ?_
          | refine aw_lex [] ?_
          | (refine isA ?_; refine do_F rfl ?_)
          | (refine isL ?_; refine lex_F rfl (by kernel_rfl) rfl rfl ?_)
          | (refine isLg rfl ?_; refine lex_S rfl (by kernel_rfl) rfl rfl ?_)
          | refine aops_nil ?_
          | refine lex_done _ rfl (by kernel_rfl) ?_
          | refine aw_ct rfl ?_
          | refine aw_cf rfl ?_
          | refine aw_block ?_
          | with_reducible refine then_n ?_
          | refine aw_skip ?_
          | refine aw_exit ?_
          | with_reducible refine then_x ?_
          | with_reducible refine then_r ?_
          | with_reducible refine block_x ?_
          | with_reducible refine block_n ?_
          | with_reducible refine block_r ?_
          | refine aw_ret ?_
        refine aw_cond rfl (fun h2 => ?_) (fun h2 => ?_)
        · rw [h2, cond_true] at e3
          repeat' first
            | refine aw_seq ?_
            | refine aw_region ?_
            | refine aw_lex [] ?_
            | (refine isA ?_; refine do_F rfl ?_)
            | (refine isL ?_; refine lex_F rfl (by kernel_rfl) rfl rfl ?_)
            | (refine isLg rfl ?_; refine lex_S rfl (by kernel_rfl) rfl rfl ?_)
            | refine aops_nil ?_
            | refine lex_done _ rfl (by kernel_rfl) ?_
            | refine aw_ct rfl ?_
            | refine aw_cf rfl ?_
            | refine aw_block ?_
            | with_reducible refine then_n ?_
            | refine aw_skip ?_
            | refine aw_exit ?_
            | with_reducible refine then_x ?_
            | with_reducible refine then_r ?_
            | with_reducible refine block_x ?_
            | with_reducible refine block_n ?_
            | with_reducible refine block_r ?_
            | refine aw_ret ?_
          refine lex_br rfl rfl rfl rfl (fun h3 => ?_) (fun h3 => ?_)
          · repeat' first
              | refine aw_seq ?_
              | refine aw_region ?_
              | refine aw_lex [] ?_
              | (refine isA ?_; refine do_F rfl ?_)
              | (refine isL ?_; refine lex_F rfl (by kernel_rfl) rfl rfl ?_)
              | (refine isLg rfl ?_; refine lex_S rfl (by kernel_rfl) rfl rfl ?_)
              | exact fin1 rfl rfl (congrArg B (by rw [e3, vMerge_s h3, Bool.and_false]))
              | refine aops_nil ?_
              | refine lex_done _ rfl (by kernel_rfl) ?_
              | refine aw_ct rfl ?_
              | refine aw_cf rfl ?_
              | refine aw_block ?_
              | with_reducible refine then_n ?_
              | refine aw_skip ?_
              | refine aw_exit ?_
              | with_reducible refine then_x ?_
              | with_reducible refine then_r ?_
              | with_reducible refine block_x ?_
              | with_reducible refine block_n ?_
              | with_reducible refine block_r ?_
              | refine aw_ret ?_
          · obtain ⟨a, b, rest, hr⟩ := two_runs h3
            rw [vMerge_c hr] at e3
            have ra : s.runs[0]? = some a := by rw [hr]; rfl
            have rb : s.runs[1]? = some b := by rw [hr]; rfl
            have la := g5.at ra
            have lb := g5.at rb
            have lab : a.length + b.length ≤ 10000000 := by rw [hr] at g6; simp only [tot, List.map_cons, List.sum_cons] at g6; omega
            repeat' first
              | refine aw_seq ?_
              | refine aw_region ?_
              | refine aw_lex [] ?_
              | (refine isA ?_; refine do_F rfl ?_)
              | (refine isL ?_; refine lex_F rfl (by kernel_rfl) rfl rfl ?_)
              | (refine isLg rfl ?_; refine lex_S rfl (by kernel_rfl) rfl rfl ?_)
              | (refine isAc 66 ?_; refine do_R rfl (st_call rfl (c_in _ _ _) (.cons (.same rfl) (.cons (.same rfl) (.cons (.same rfl) .nil))) rfl) rfl ?_)
              | (refine isLc 66 rfl ?_; refine lex_R rfl (by kernel_rfl) rfl (st_call rfl (c_in _ _ _) (.cons (.same rfl) (.cons (.same rfl) (.cons (.same rfl) .nil))) rfl) rfl ?_)
              | (refine isAi (x := .tmp 138) ?_; refine do_R rfl (ia_l (t := rnT) (z := a) rfl rfl rfl rfl (Int.natCast_nonneg 0) ra) rfl ?_)
              | (refine isLi (x := .tmp 138) rfl ?_; refine lex_R rfl (by kernel_rfl) rfl (ia_l (t := rnT) (z := a) rfl rfl rfl rfl (Int.natCast_nonneg 0) ra) rfl ?_)
              | (refine isAi (x := .tmp 150) ?_; refine do_R rfl (ia_l (t := rnT) (z := b) rfl rfl rfl rfl (Int.natCast_nonneg 1) rb) rfl ?_)
              | (refine isLi (x := .tmp 150) rfl ?_; refine lex_R rfl (by kernel_rfl) rfl (ia_l (t := rnT) (z := b) rfl rfl rfl rfl (Int.natCast_nonneg 1) rb) rfl ?_)
              | refine aops_nil ?_
              | refine lex_done _ rfl (by kernel_rfl) ?_
              | refine aw_ct rfl ?_
              | refine aw_cf rfl ?_
              | refine aw_block ?_
              | with_reducible refine then_n ?_
              | refine aw_skip ?_
              | refine aw_exit ?_
              | with_reducible refine then_x ?_
              | with_reducible refine then_r ?_
              | with_reducible refine block_x ?_
              | with_reducible refine block_n ?_
              | with_reducible refine block_r ?_
              | refine aw_ret ?_
              | (refine isAg ?_; refine do_br rfl rfl (fun hbr => ?_) (fun hbr => ?_) <;> (fail_if_success (with_reducible (have hx : true = true := hbr))) <;> (fail_if_success (with_reducible (have hx : false = false := hbr))))
              | (refine isLg rfl ?_; refine lex_br rfl rfl rfl rfl (fun hbr => ?_) (fun hbr => ?_) <;> (fail_if_success (with_reducible (have hx : true = true := hbr))) <;> (fail_if_success (with_reducible (have hx : false = false := hbr))))
            all_goals first
              | exact fin1 rfl rfl (congrArg B (by rw [e3]; simp only [*, Bool.true_or, Bool.false_or, Bool.or_true, Bool.or_false, Bool.true_and, Bool.false_and, Bool.and_true, Bool.and_false, Bool.not_true, Bool.not_false, cond_true, cond_false]))
              | skip
            refine aw_cond rfl (fun p => ?_) (fun p => ?_)
            · repeat' first
                | refine aw_seq ?_
                | refine aw_region ?_
                | refine aw_lex [] ?_
                | (refine isA ?_; refine do_F rfl ?_)
                | (refine isL ?_; refine lex_F rfl (by kernel_rfl) rfl rfl ?_)
                | (refine isLg rfl ?_; refine lex_S rfl (by kernel_rfl) rfl rfl ?_)
                | exact fin1 rfl rfl (congrArg B (by rw [e3]; simp only [*, Bool.true_or, Bool.false_or, Bool.or_true, Bool.or_false, Bool.true_and, Bool.false_and, Bool.and_true, Bool.and_false, Bool.not_true, Bool.not_false, cond_true, cond_false]))
                | refine aops_nil ?_
                | refine lex_done _ rfl (by kernel_rfl) ?_
                | refine aw_ct rfl ?_
                | refine aw_cf rfl ?_
                | refine aw_block ?_
                | with_reducible refine then_n ?_
                | refine aw_skip ?_
                | refine aw_exit ?_
                | with_reducible refine then_x ?_
                | with_reducible refine then_r ?_
                | with_reducible refine block_x ?_
                | with_reducible refine block_n ?_
                | with_reducible refine block_r ?_
                | refine aw_ret ?_
            have p1 : (!inV s.lp 0 a.length) = false := by assumption
            have p1 : inV s.lp 0 a.length = true := by simpa using p1
            have p2 : inV s.rp 0 b.length = true := by simpa using p
            rw [p1, p2] at e3
            simp only [Bool.true_or, Bool.false_or, Bool.or_true, Bool.or_false, Bool.true_and, Bool.false_and, Bool.and_true, Bool.and_false, Bool.not_true, Bool.not_false, cond_true, cond_false] at e3
            obtain ⟨q1, q2⟩ := inV_iff.1 p1
            obtain ⟨q3, q4⟩ := inV_iff.1 p2
            obtain ⟨i, hi⟩ := Int.eq_ofNat_of_zero_le q1
            obtain ⟨j, hj⟩ := Int.eq_ofNat_of_zero_le q3
            have ei : s.lp.toNat = i := by omega
            have ej : s.rp.toNat = j := by omega
            rw [ei, ej] at e3
            have w1 : IntKind.i64.wrap (s.lp + s.rp) = ((i + j : Nat) : Int) := by rw [hi, hj, IntKind.wrap_i64]; omega
            have li : (a.take i).length ≤ 100000000 := by simp; omega
            have lj : (b.take j).length ≤ 100000000 := by simp; omega
            have m1 := (c_smg (a.take i) (b.take j) li lj).frozen (pur_row rfl)
            have m2 := (c_smg a b (by omega) (by omega)).frozen (pur_row rfl)
            have n2 := mg_len a b
            have n1 := mg_len (a.take i) (b.take j)
            have x1 := c_l6Rows (mgV (a.take i) (b.take j)) s.out (by omega)
            rw [show eqLd (mgV (a.take i) (b.take j)) s.out = eqLd s.out (mgV (a.take i) (b.take j)) from by rw [Bool.eq_iff_iff, eqLd_iff, eqLd_iff]; exact eq_comm] at x1
            have x2 := c_l6Rows s.out ((mgV a b).take (i + j)) (by omega)
            generalize mgV (a.take i) (b.take j) = M1 at m1 x1 e3 n1
            generalize mgV a b = M2 at m2 x2 e3 n2
            repeat' first
              | refine aw_seq ?_
              | refine aw_region ?_
              | refine aw_lex [] ?_
              | (refine isA ?_; refine do_F rfl ?_)
              | (refine isL ?_; refine lex_F rfl (by kernel_rfl) rfl rfl ?_)
              | (refine isLg rfl ?_; refine lex_S rfl (by kernel_rfl) rfl rfl ?_)
              | (refine isAx (x := .tmp 162) ?_; refine do_R rfl (st_takeL rfl rfl (congrArg I hi) (by omega)) rfl ?_)
              | (refine isLx (x := .tmp 162) rfl ?_; refine lex_R rfl (by kernel_rfl) rfl (st_takeL rfl rfl (congrArg I hi) (by omega)) rfl ?_)
              | (refine isAx (x := .tmp 170) ?_; refine do_R rfl (st_takeL rfl rfl (congrArg I hj) (by omega)) rfl ?_)
              | (refine isLx (x := .tmp 170) rfl ?_; refine lex_R rfl (by kernel_rfl) rfl (st_takeL rfl rfl (congrArg I hj) (by omega)) rfl ?_)
              | (refine isAx (x := .tmp 187) ?_; refine do_R rfl (st_takeL rfl rfl (congrArg I w1) (by omega)) rfl ?_)
              | (refine isLx (x := .tmp 187) rfl ?_; refine lex_R rfl (by kernel_rfl) rfl (st_takeL rfl rfl (congrArg I w1) (by omega)) rfl ?_)
              | (refine isAi (x := .tmp 159) ?_; refine do_R rfl (ia_l (t := rnT) (z := a) rfl rfl rfl rfl (Int.natCast_nonneg 0) ra) rfl ?_)
              | (refine isLi (x := .tmp 159) rfl ?_; refine lex_R rfl (by kernel_rfl) rfl (ia_l (t := rnT) (z := a) rfl rfl rfl rfl (Int.natCast_nonneg 0) ra) rfl ?_)
              | (refine isAi (x := .tmp 167) ?_; refine do_R rfl (ia_l (t := rnT) (z := b) rfl rfl rfl rfl (Int.natCast_nonneg 1) rb) rfl ?_)
              | (refine isLi (x := .tmp 167) rfl ?_; refine lex_R rfl (by kernel_rfl) rfl (ia_l (t := rnT) (z := b) rfl rfl rfl rfl (Int.natCast_nonneg 1) rb) rfl ?_)
              | (refine isAi (x := .tmp 178) ?_; refine do_R rfl (ia_l (t := rnT) (z := a) rfl rfl rfl rfl (Int.natCast_nonneg 0) ra) rfl ?_)
              | (refine isLi (x := .tmp 178) rfl ?_; refine lex_R rfl (by kernel_rfl) rfl (ia_l (t := rnT) (z := a) rfl rfl rfl rfl (Int.natCast_nonneg 0) ra) rfl ?_)
              | (refine isAi (x := .tmp 183) ?_; refine do_R rfl (ia_l (t := rnT) (z := b) rfl rfl rfl rfl (Int.natCast_nonneg 1) rb) rfl ?_)
              | (refine isLi (x := .tmp 183) rfl ?_; refine lex_R rfl (by kernel_rfl) rfl (ia_l (t := rnT) (z := b) rfl rfl rfl rfl (Int.natCast_nonneg 1) rb) rfl ?_)
              | (refine isAc 87 (x := #[.tmp 165, .tmp 173]) ?_; refine do_R rfl (st_call rfl m1 (.cons (.same rfl) (.cons (.same rfl) .nil)) rfl) rfl ?_)
              | (refine isLc 87 (x := #[.tmp 165, .tmp 173]) rfl ?_; refine lex_R rfl (by kernel_rfl) rfl (st_call rfl m1 (.cons (.same rfl) (.cons (.same rfl) .nil)) rfl) rfl ?_)
              | (refine isAc 87 (x := #[.tmp 181, .tmp 186]) ?_; refine do_R rfl (st_call rfl m2 (.cons (.same rfl) (.cons (.same rfl) .nil)) rfl) rfl ?_)
              | (refine isLc 87 (x := #[.tmp 181, .tmp 186]) rfl ?_; refine lex_R rfl (by kernel_rfl) rfl (st_call rfl m2 (.cons (.same rfl) (.cons (.same rfl) .nil)) rfl) rfl ?_)
              | (refine isAc 72 (x := #[.tmp 196, .tmp 198]) ?_; refine do_R rfl (st_call rfl x1 (.cons (.same rfl) (.cons (.same rfl) .nil)) rfl) rfl ?_)
              | (refine isLc 72 (x := #[.tmp 196, .tmp 198]) rfl ?_; refine lex_R rfl (by kernel_rfl) rfl (st_call rfl x1 (.cons (.same rfl) (.cons (.same rfl) .nil)) rfl) rfl ?_)
              | (refine isAc 72 (x := #[.tmp 176, .tmp 193]) ?_; refine do_R rfl (st_call rfl x2 (.cons (.same rfl) (.cons (.same rfl) .nil)) rfl) rfl ?_)
              | (refine isLc 72 (x := #[.tmp 176, .tmp 193]) rfl ?_; refine lex_R rfl (by kernel_rfl) rfl (st_call rfl x2 (.cons (.same rfl) (.cons (.same rfl) .nil)) rfl) rfl ?_)
              | (refine isAc 85 ?_; refine do_R rfl (st_call rfl a5 (.cons (.same rfl) .nil) rfl) rfl ?_)
              | (refine isLc 85 rfl ?_; refine lex_R rfl (by kernel_rfl) rfl (st_call rfl a5 (.cons (.same rfl) .nil) rfl) rfl ?_)
              | (refine isAc 86 ?_; refine do_R rfl (st_call rfl a6 (.cons (.same rfl) (.cons (.same rfl) .nil)) rfl) rfl ?_)
              | (refine isLc 86 rfl ?_; refine lex_R rfl (by kernel_rfl) rfl (st_call rfl a6 (.cons (.same rfl) (.cons (.same rfl) .nil)) rfl) rfl ?_)
              | refine aops_nil ?_
              | refine lex_done _ rfl (by kernel_rfl) ?_
              | refine aw_ct rfl ?_
              | refine aw_cf rfl ?_
              | refine aw_block ?_
              | with_reducible refine then_n ?_
              | refine aw_skip ?_
              | refine aw_exit ?_
              | with_reducible refine then_x ?_
              | with_reducible refine then_r ?_
              | with_reducible refine block_x ?_
              | with_reducible refine block_n ?_
              | with_reducible refine block_r ?_
              | refine aw_ret ?_
              | (refine isAg ?_; refine do_br rfl rfl (fun hbr => ?_) (fun hbr => ?_) <;> (fail_if_success (with_reducible (have hx : true = true := hbr))) <;> (fail_if_success (with_reducible (have hx : false = false := hbr))))
              | (refine isLg rfl ?_; refine lex_br rfl rfl rfl rfl (fun hbr => ?_) (fun hbr => ?_) <;> (fail_if_success (with_reducible (have hx : true = true := hbr))) <;> (fail_if_success (with_reducible (have hx : false = false := hbr))))
            all_goals exact fin1 rfl rfl (congrArg B (by rw [e3]; clear hi hj q1 q2 q3 q4; simp only [*, Bool.true_or, Bool.false_or, Bool.or_true, Bool.or_false, Bool.true_and, Bool.false_and, Bool.and_true, Bool.and_false, Bool.not_true, Bool.not_false, cond_true, cond_false]))
        · rw [h2, cond_false, vTail] at e3
          repeat' first
            | refine aw_seq ?_
            | refine aw_region ?_
            | refine aw_lex [] ?_
            | (refine isA ?_; refine do_F rfl ?_)
            | (refine isL ?_; refine lex_F rfl (by kernel_rfl) rfl rfl ?_)
            | (refine isLg rfl ?_; refine lex_S rfl (by kernel_rfl) rfl rfl ?_)
            | (refine isAc 85 ?_; refine do_R rfl (st_call rfl a5 (.cons (.same rfl) .nil) rfl) rfl ?_)
            | (refine isLc 85 rfl ?_; refine lex_R rfl (by kernel_rfl) rfl (st_call rfl a5 (.cons (.same rfl) .nil) rfl) rfl ?_)
            | (refine isAc 86 ?_; refine do_R rfl (st_call rfl a6 (.cons (.same rfl) (.cons (.same rfl) .nil)) rfl) rfl ?_)
            | (refine isLc 86 rfl ?_; refine lex_R rfl (by kernel_rfl) rfl (st_call rfl a6 (.cons (.same rfl) (.cons (.same rfl) .nil)) rfl) rfl ?_)
            | refine aops_nil ?_
            | refine lex_done _ rfl (by kernel_rfl) ?_
            | refine aw_ct rfl ?_
            | refine aw_cf rfl ?_
            | refine aw_block ?_
            | with_reducible refine then_n ?_
            | refine aw_skip ?_
            | refine aw_exit ?_
            | with_reducible refine then_x ?_
            | with_reducible refine then_r ?_
            | with_reducible refine block_x ?_
            | with_reducible refine block_n ?_
            | with_reducible refine block_r ?_
            | refine aw_ret ?_
            | (refine isAg ?_; refine do_br rfl rfl (fun hbr => ?_) (fun hbr => ?_) <;> (fail_if_success (with_reducible (have hx : true = true := hbr))) <;> (fail_if_success (with_reducible (have hx : false = false := hbr))))
            | (refine isLg rfl ?_; refine lex_br rfl rfl rfl rfl (fun hbr => ?_) (fun hbr => ?_) <;> (fail_if_success (with_reducible (have hx : true = true := hbr))) <;> (fail_if_success (with_reducible (have hx : false = false := hbr))))
          all_goals first
            | exact fin1 rfl rfl (congrArg B (by rw [e3]; simp only [*, Bool.true_or, Bool.false_or, Bool.or_true, Bool.or_false, Bool.true_and, Bool.false_and, Bool.and_true, Bool.and_false, Bool.not_true, Bool.not_false, cond_true, cond_false]))
            | skip
          refine aw_cond rfl (fun q => ?_) (fun q => ?_)
          · repeat' first
              | refine aw_seq ?_
              | refine aw_region ?_
              | refine aw_lex [] ?_
              | (refine isA ?_; refine do_F rfl ?_)
              | (refine isL ?_; refine lex_F rfl (by kernel_rfl) rfl rfl ?_)
              | (refine isLg rfl ?_; refine lex_S rfl (by kernel_rfl) rfl rfl ?_)
              | exact fin1 rfl rfl (congrArg B (by rw [e3]; simp only [Bool.not_eq_true'] at q; rw [q, Bool.false_and]))
              | refine aops_nil ?_
              | refine lex_done _ rfl (by kernel_rfl) ?_
              | refine aw_ct rfl ?_
              | refine aw_cf rfl ?_
              | refine aw_block ?_
              | with_reducible refine then_n ?_
              | refine aw_skip ?_
              | refine aw_exit ?_
              | with_reducible refine then_x ?_
              | with_reducible refine then_r ?_
              | with_reducible refine block_x ?_
              | with_reducible refine block_n ?_
              | with_reducible refine block_r ?_
              | refine aw_ret ?_
          have q2 : eqB s.runs.flatten s.input = true := by simpa using q
          have w1 : IntKind.i64.wrap ((s.input.length : Int) - 1) = (s.input.length : Int) - 1 := by rw [IntKind.wrap_i64]; omega
          rw [q2, ← w1] at e3
          repeat' first
            | refine aw_seq ?_
            | refine aw_region ?_
            | refine aw_lex [] ?_
            | (refine isA ?_; refine do_F rfl ?_)
            | (refine isL ?_; refine lex_F rfl (by kernel_rfl) rfl rfl ?_)
            | (refine isLg rfl ?_; refine lex_S rfl (by kernel_rfl) rfl rfl ?_)
            | refine aops_nil ?_
            | refine lex_done _ rfl (by kernel_rfl) ?_
            | refine aw_ct rfl ?_
            | refine aw_cf rfl ?_
            | refine aw_block ?_
            | with_reducible refine then_n ?_
            | refine aw_skip ?_
            | refine aw_exit ?_
            | with_reducible refine then_x ?_
            | with_reducible refine then_r ?_
            | with_reducible refine block_x ?_
            | with_reducible refine block_n ?_
            | with_reducible refine block_r ?_
            | refine aw_ret ?_
          refine aw_cond rfl (fun h3 => ?_) (fun h3 => ?_)
          · rw [h3, cond_true] at e3
            repeat' first
              | refine aw_seq ?_
              | refine aw_region ?_
              | refine aw_lex [] ?_
              | (refine isA ?_; refine do_F rfl ?_)
              | (refine isL ?_; refine lex_F rfl (by kernel_rfl) rfl rfl ?_)
              | (refine isLg rfl ?_; refine lex_S rfl (by kernel_rfl) rfl rfl ?_)
              | (refine isAc 66 ?_; refine do_R rfl (st_call rfl (c_in _ _ _) (.cons (.same rfl) (.cons (.same rfl) (.cons (.same rfl) .nil))) rfl) rfl ?_)
              | (refine isLc 66 rfl ?_; refine lex_R rfl (by kernel_rfl) rfl (st_call rfl (c_in _ _ _) (.cons (.same rfl) (.cons (.same rfl) (.cons (.same rfl) .nil))) rfl) rfl ?_)
              | refine aops_nil ?_
              | refine lex_done _ rfl (by kernel_rfl) ?_
              | refine aw_ct rfl ?_
              | refine aw_cf rfl ?_
              | refine aw_block ?_
              | with_reducible refine then_n ?_
              | refine aw_skip ?_
              | refine aw_exit ?_
              | with_reducible refine then_x ?_
              | with_reducible refine then_r ?_
              | with_reducible refine block_x ?_
              | with_reducible refine block_n ?_
              | with_reducible refine block_r ?_
              | refine aw_ret ?_
              | (refine isAg ?_; refine do_br rfl rfl (fun hbr => ?_) (fun hbr => ?_) <;> (fail_if_success (with_reducible (have hx : true = true := hbr))) <;> (fail_if_success (with_reducible (have hx : false = false := hbr))))
              | (refine isLg rfl ?_; refine lex_br rfl rfl rfl rfl (fun hbr => ?_) (fun hbr => ?_) <;> (fail_if_success (with_reducible (have hx : true = true := hbr))) <;> (fail_if_success (with_reducible (have hx : false = false := hbr))))
            all_goals exact fin1 rfl rfl (congrArg B (by rw [e3]; clear w1; simp only [*, Bool.true_or, Bool.false_or, Bool.or_true, Bool.or_false, Bool.true_and, Bool.false_and, Bool.and_true, Bool.and_false, Bool.not_true, Bool.not_false, cond_true, cond_false]))
          · rw [h3, cond_false] at e3
            repeat' first
              | refine aw_seq ?_
              | refine aw_region ?_
              | refine aw_lex [] ?_
              | (refine isA ?_; refine do_F rfl ?_)
              | (refine isL ?_; refine lex_F rfl (by kernel_rfl) rfl rfl ?_)
              | (refine isLg rfl ?_; refine lex_S rfl (by kernel_rfl) rfl rfl ?_)
              | refine aops_nil ?_
              | refine lex_done _ rfl (by kernel_rfl) ?_
              | refine aw_ct rfl ?_
              | refine aw_cf rfl ?_
              | refine aw_block ?_
              | with_reducible refine then_n ?_
              | refine aw_skip ?_
              | refine aw_exit ?_
              | with_reducible refine then_x ?_
              | with_reducible refine then_r ?_
              | with_reducible refine block_x ?_
              | with_reducible refine block_n ?_
              | with_reducible refine block_r ?_
              | refine aw_ret ?_
              | (refine isAg ?_; refine do_br rfl rfl (fun hbr => ?_) (fun hbr => ?_) <;> (fail_if_success (with_reducible (have hx : true = true := hbr))) <;> (fail_if_success (with_reducible (have hx : false = false := hbr))))
              | (refine isLg rfl ?_; refine lex_br rfl rfl rfl rfl (fun hbr => ?_) (fun hbr => ?_) <;> (fail_if_success (with_reducible (have hx : true = true := hbr))) <;> (fail_if_success (with_reducible (have hx : false = false := hbr))))
            all_goals exact fin1 rfl rfl (congrArg B (by rw [e3]; clear w1; simp only [*, Bool.true_or, Bool.false_or, Bool.or_true, Bool.or_false, Bool.true_and, Bool.false_and, Bool.and_true, Bool.and_false, Bool.not_true, Bool.not_false, cond_true, cond_false]))
end Go.Proofs.Ytojcojanokhnaaa.Ab
