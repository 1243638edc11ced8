/- Texts FtA, FtB in one. -/
import Derived.Test.YtojcojanokhnaaaGL
import Derived.Test.YtojcojanokhnaaaGH
set_option linter.unusedVariables false
set_option linter.unusedSimpArgs false
set_option maxRecDepth 20000
set_option maxHeartbeats 8000000
/- FtA -/
namespace Go.Proofs.Ytojcojanokhnaaa.Ab
open Go.RowKit

theorem VS.base {s : So} (h : VS s) : VBa s := by
  cases h with
  | read b => exact b
  | merge b => exact b
  | emit b => exact b
  | done b => exact b
theorem runs_le : ∀ {rs : List Rn}, (∀ r ∈ rs, RunOk r) → rs.length ≤ tot rs
  | [], _ => Nat.zero_le _
  | r :: rs, h => by
    have h1 := runs_le (rs := rs) fun x hx => h x (List.mem_cons_of_mem _ hx)
    have h2 := List.length_pos_iff.2 (h r (List.mem_cons_self ..)).1
    have e : tot (r :: rs) = r.length + tot rs := by simp [tot]
    rw [e, List.length_cons]
    omega
theorem VS.small {s : So} (h : VS s) : s.input.length ≤ 24 ∧ s.heap.length ≤ 24 ∧ s.dfr.length ≤ 24 ∧ s.out.length ≤ 24 ∧ s.runs.length ≤ tot s.runs ∧ tot s.runs ≤ 24 := by
  have hb := h.base
  have h1 := (avR_iff.1 hb.input).2
  have h2 := runs_le hb.runs
  have h3 := flat_len s.runs
  cases h with
  | read b q =>
    have hl := q.bag.length_eq
    simp only [List.length_append, List.length_take] at hl
    omega
  | @merge b t ph x y rest i j runs lp rp m =>
    have hl := t.bag.length_eq
    have ml := m.len
    have m1 := m.ha
    have m2 := m.hb
    have e : tot s.runs = x.length + (y.length + tot rest) := by rw [runs]; simp [tot]
    rw [t.heap, t.dfr]
    simp only [List.length_nil]
    omega
  | @emit b t ph x i runs lp hi rp out =>
    have hl := t.bag.length_eq
    rw [t.heap, t.dfr, out]
    simp only [List.length_nil]
    omega
  | done b t ph runs lp rp out =>
    have hl := t.bag.length_eq
    rw [t.heap, t.dfr, out]
    simp only [List.length_nil]
    omega
theorem VS.ok {s : So} (h : VS s) : okSo s := by
  obtain ⟨h1, h2, h3, h4, h5, h6⟩ := h.small
  exact ⟨by omega, by omega, by omega, by omega, by omega, by omega⟩

theorem c_sfit (s y : So) (g : Int) (n : Nat) (hv : VS s) (h1 : inV g 8 60 = true) (hw : s.wr ≤ 1000000000) (hn : n ≤ 100) (hf : Fits g s n y) : Meets Go.Proofs.Try.prog 39 [.agg (soE s), I g] [] (.tup [I n, B true]) [] true := by
  have hok := hv.ok
  have hgb : 8 ≤ g ∧ g ≤ 60 := inV_iff.1 h1
  have a1 := c_svS s hok
  rw [vS_iff.2 hv] at a1
  have a2 := c_in g 8 60
  rw [h1] at a2
  refine meets_of [4, 5] Go.Proofs.Try.func39 rfl rfl ?_
  simp only [Go.Proofs.Try.ntmps39, List.length_cons, List.length_nil, Nat.reduceAdd, Nat.reduceSub, List.replicate_succ, List.replicate_zero, List.cons_append, List.nil_append]
  repeat' first | (refine do_br rfl rfl (fun h => absurd (of_decide_eq_true h) (by omega)) (fun _ => ?_)) | refine aw_seq ?_ | refine aw_region ?_ | refine aw_lex [] ?_ | (refine isA ?_; refine do_F rfl ?_) | (refine isL ?_; refine lex_F rfl (by kernel_rfl) rfl rfl ?_) | (refine isLg rfl ?_; refine lex_S rfl (by kernel_rfl) rfl rfl ?_) | (refine isAc 18 ?_; refine do_R rfl (st_call rfl a1 (.cons (.same rfl) .nil) rfl) rfl ?_) | (refine isLc 18 rfl ?_; refine lex_R rfl (by kernel_rfl) rfl (st_call rfl a1 (.cons (.same rfl) .nil) rfl) rfl ?_) | (refine isAc 66 ?_; refine do_R rfl (st_call rfl a2 (.cons (.same rfl) (.cons (.same rfl) (.cons (.same rfl) .nil))) rfl) rfl ?_) | (refine isLc 66 rfl ?_; refine lex_R rfl (by kernel_rfl) rfl (st_call rfl a2 (.cons (.same rfl) (.cons (.same rfl) (.cons (.same rfl) .nil))) rfl) rfl ?_) | refine aops_nil ?_ | refine lex_done _ rfl (by kernel_rfl) ?_ | refine aw_ct rfl ?_ | refine aw_cf rfl ?_ | refine aw_block ?_ | with_reducible refine then_n ?_ | refine aw_skip ?_ | refine aw_exit ?_ | (with_reducible first | refine then_x ?_ | refine then_r ?_ | refine block_x ?_ | refine block_n ?_ | refine block_r ?_) | refine aw_ret ?_
  refine aw_loop (α := { t : So × Nat × Nat // VS t.1 ∧ Fits g t.1 t.2.1 y ∧ t.2.1 + t.2.2 = n ∧ 0 ≤ t.1.wr ∧ t.1.wr + 4 * t.2.1 ≤ 2000000000 }) (fun t => ⟨[.any, I g, .ptr 0 0, .any, .any, .any, I t.1.2.2, .any, .any, .any, .any, .any, .any, .any, .any, .any, .any, .any, .any, .any, .any, .any, .any, .any, .any, .any, .any, .any, .any, .any, .any, .any, .any, .any], [bxS (soE t.1.1)], 0⟩) (fun t => t.1.2.1) ⟨(s, n, 0), hv, hf, rfl, hv.base.wr, by simp only; omega⟩ ?_ ?_
  · exact sub0 [0] rfl rfl (by decide) (.cons rfl rfl rfl rfl (les_refl' rfl) .nil) (by repeat' first | exact les_nil | refine les_cons ?_ ?_ | exact le_any | exact le_refl rfl | exact le_sl rfl rfl | exact le_ptr rfl)
  · rintro ⟨⟨t, m, k⟩, jv, jf, jn, jw0, jw⟩
    simp only at jv jf jn jw0 jw ⊢
    have am := c_smem t jv.ok
    repeat' first | refine aw_seq ?_ | refine aw_region ?_ | refine aw_lex [] ?_ | (refine isA ?_; refine do_F rfl ?_) | (refine isL ?_; refine lex_F rfl (by kernel_rfl) rfl rfl ?_) | (refine isLg rfl ?_; refine lex_S rfl (by kernel_rfl) rfl rfl ?_) | (refine isAc 20 ?_; refine do_R rfl (st_call rfl am (.cons (.same rfl) .nil) rfl) rfl ?_) | (refine isLc 20 rfl ?_; refine lex_R rfl (by kernel_rfl) rfl (st_call rfl am (.cons (.same rfl) .nil) rfl) rfl ?_) | refine aops_nil ?_ | refine lex_done _ rfl (by kernel_rfl) ?_ | refine aw_ct rfl ?_ | refine aw_cf rfl ?_ | refine aw_block ?_ | with_reducible refine then_n ?_ | refine aw_skip ?_ | refine aw_exit ?_ | (with_reducible first | refine then_x ?_ | refine then_r ?_ | refine block_x ?_ | refine block_n ?_ | refine block_r ?_) | refine aw_ret ?_
    cases jf with
    | stop hs =>
      refine aw_cond rfl (fun h => absurd (of_decide_eq_true h) (by omega)) (fun _ => ?_)
      repeat' first | refine aw_seq ?_ | refine aw_region ?_ | refine aw_lex [] ?_ | (refine isA ?_; refine do_F rfl ?_) | (refine isL ?_; refine lex_F rfl (by kernel_rfl) rfl rfl ?_) | (refine isLg rfl ?_; refine lex_S rfl (by kernel_rfl) rfl rfl ?_) | exact finPT rfl (.tup (.cons (pur_i (by omega)) (.cons (.same rfl) .nil))) | refine aops_nil ?_ | refine lex_done _ rfl (by kernel_rfl) ?_ | refine aw_ct rfl ?_ | refine aw_cf rfl ?_ | refine aw_block ?_ | with_reducible refine then_n ?_ | refine aw_skip ?_ | refine aw_exit ?_ | (with_reducible first | refine then_x ?_ | refine then_r ?_ | refine block_x ?_ | refine block_n ?_ | refine block_r ?_) | refine aw_ret ?_
    | @step _ x _ r m hs st f =>
      have hp : t.ph = 1 := Classical.byContradiction fun h => by have := (mem_np h).2; omega
      have hx := step_valid jv hgb.1 hgb.2 (by omega) st
      have hwx := step_wr st jw0 (by omega)
      refine aw_cond rfl (fun _ => ?_) (fun h => absurd (of_decide_eq_false h) (by omega))
      repeat' first | refine aw_seq ?_ | refine aw_region ?_ | refine aw_lex [] ?_ | (refine isA ?_; refine do_F rfl ?_) | (refine isL ?_; refine lex_F rfl (by kernel_rfl) rfl rfl ?_) | (refine isLg rfl ?_; refine lex_S rfl (by kernel_rfl) rfl rfl ?_) | (refine isAc 14 ?_; refine do_R rfl (st_call rfl (c_sstep1 t x g r jv.ok (vS_iff.2 jv) h1 hp st) (.cons (.same rfl) (.cons (.same rfl) .nil)) rfl) rfl ?_) | (refine isLc 14 rfl ?_; refine lex_R rfl (by kernel_rfl) rfl (st_call rfl (c_sstep1 t x g r jv.ok (vS_iff.2 jv) h1 hp st) (.cons (.same rfl) (.cons (.same rfl) .nil)) rfl) rfl ?_) | refine aops_nil ?_ | refine lex_done _ rfl (by kernel_rfl) ?_ | refine aw_ct rfl ?_ | refine aw_cf rfl ?_ | refine aw_block ?_ | with_reducible refine then_n ?_ | refine aw_skip ?_ | refine aw_exit ?_ | (with_reducible first | refine then_x ?_ | refine then_r ?_ | refine block_x ?_ | refine block_n ?_ | refine block_r ?_) | refine aw_ret ?_
      refine ⟨⟨(x, m, k + 1), hx, f, by simp only; omega, by simp only; omega, by simp only; omega⟩, by simp only; omega, ?_⟩
      exact sub0 [0] rfl rfl (by decide) (.cons rfl rfl rfl rfl (les_refl' rfl) .nil) (by
        repeat' first | exact les_nil | refine les_cons ?_ ?_ | exact le_any | exact le_refl rfl | exact le_ptr rfl | exact le_k (congrArg _ (show ((k + 1 : Nat) : Int) = IntKind.i64.wrap ((k : Int) + 1) by rw [IntKind.wrap_i64]; omega)))
theorem c_sfit0 (s : So) (g : Int) (hok : okSo s) (h : (vS s && (decide (s.wr ≤ 1000000000) && inV g 8 60)) = false) : Meets Go.Proofs.Try.prog 39 [.agg (soE s), I g] [] (.tup [I 0, B false]) [] true := by
  have a1 := c_svS s hok
  have a2 := c_in g 8 60
  refine meets_of [4, 5] Go.Proofs.Try.func39 rfl rfl ?_
  simp only [Go.Proofs.Try.ntmps39, List.length_cons, List.length_nil, Nat.reduceAdd, Nat.reduceSub, List.replicate_succ, List.replicate_zero, List.cons_append, List.nil_append]
  repeat' first | refine aw_seq ?_ | refine aw_region ?_ | refine aw_lex [] ?_ | (refine isA ?_; refine do_F rfl ?_) | (refine isL ?_; refine lex_F rfl (by kernel_rfl) rfl rfl ?_) | (refine isLg rfl ?_; refine lex_S rfl (by kernel_rfl) rfl rfl ?_) | (refine isAc 18 ?_; refine do_R rfl (st_call rfl a1 (.cons (.same rfl) .nil) rfl) rfl ?_) | (refine isLc 18 rfl ?_; refine lex_R rfl (by kernel_rfl) rfl (st_call rfl a1 (.cons (.same rfl) .nil) rfl) rfl ?_) | (refine isAc 66 ?_; refine do_R rfl (st_call rfl a2 (.cons (.same rfl) (.cons (.same rfl) (.cons (.same rfl) .nil))) rfl) rfl ?_) | (refine isLc 66 rfl ?_; refine lex_R rfl (by kernel_rfl) rfl (st_call rfl a2 (.cons (.same rfl) (.cons (.same rfl) (.cons (.same rfl) .nil))) rfl) rfl ?_) | refine aops_nil ?_ | refine lex_done _ rfl (by kernel_rfl) ?_ | refine aw_ct rfl ?_ | refine aw_cf rfl ?_ | refine aw_block ?_ | with_reducible refine then_n ?_ | refine aw_skip ?_ | refine aw_exit ?_ | (with_reducible first | refine then_x ?_ | refine then_r ?_ | refine block_x ?_ | refine block_n ?_ | refine block_r ?_) | refine aw_ret ?_ | refine aw_cond rfl (fun hbr => ?_) (fun hbr => ?_) | (refine isAg ?_; refine do_br rfl rfl (fun hbr => ?_) (fun hbr => ?_) <;> (fail_if_success (with_reducible (have hx : true = true := hbr))) <;> (fail_if_success (with_reducible (have hx : false = false := hbr)))) | (refine isLg rfl ?_; refine lex_br rfl rfl rfl rfl (fun hbr => ?_) (fun hbr => ?_) <;> (fail_if_success (with_reducible (have hx : true = true := hbr))) <;> (fail_if_success (with_reducible (have hx : false = false := hbr))))
  all_goals first
    | exact finPT rfl (.tup (.cons (.same rfl) (.cons (.same rfl) .nil)))
    | (exfalso
       have q1 : vS s = true := by have := (by assumption : (!vS s) = false); simpa using this
       have q2 : ¬ 1000000000 < s.wr := of_decide_eq_false (by assumption)
       have q3 : inV g 8 60 = true := by have := (by assumption : (!inV g 8 60) = false); simpa using this
       rw [q1, decide_eq_true (by omega), q3] at h
       cases h)
theorem c_ifit0 (s : So) (g : Int) (hok : okSo s) (h : (vS s && (decide (s.wr ≤ 1000000000) && inV g 8 60)) = false) : Meets Go.Proofs.Try.prog 38 [.agg (soE s), I g] [] (.tup [I 0, B false]) [] true := by
  have a1 := c_ivS s hok
  have a2 := c_isgrant g
  refine meets_of [4, 5] Go.Proofs.Try.func38 rfl rfl ?_
  simp only [Go.Proofs.Try.ntmps38, List.length_cons, List.length_nil, Nat.reduceAdd, Nat.reduceSub, List.replicate_succ, List.replicate_zero, List.cons_append, List.nil_append]
  repeat' first | refine aw_seq ?_ | refine aw_region ?_ | refine aw_lex [] ?_ | (refine isA ?_; refine do_F rfl ?_) | (refine isL ?_; refine lex_F rfl (by kernel_rfl) rfl rfl ?_) | (refine isLg rfl ?_; refine lex_S rfl (by kernel_rfl) rfl rfl ?_) | (refine isAc 17 ?_; refine do_R rfl (st_call rfl a1 (.cons (.same rfl) .nil) rfl) rfl ?_) | (refine isLc 17 rfl ?_; refine lex_R rfl (by kernel_rfl) rfl (st_call rfl a1 (.cons (.same rfl) .nil) rfl) rfl ?_) | (refine isAc 57 ?_; refine do_R rfl (st_call rfl a2 (.cons (.same rfl) .nil) rfl) rfl ?_) | (refine isLc 57 rfl ?_; refine lex_R rfl (by kernel_rfl) rfl (st_call rfl a2 (.cons (.same rfl) .nil) rfl) rfl ?_) | refine aops_nil ?_ | refine lex_done _ rfl (by kernel_rfl) ?_ | refine aw_ct rfl ?_ | refine aw_cf rfl ?_ | refine aw_block ?_ | with_reducible refine then_n ?_ | refine aw_skip ?_ | refine aw_exit ?_ | (with_reducible first | refine then_x ?_ | refine then_r ?_ | refine block_x ?_ | refine block_n ?_ | refine block_r ?_) | refine aw_ret ?_ | refine aw_cond rfl (fun hbr => ?_) (fun hbr => ?_) | (refine isAg ?_; refine do_br rfl rfl (fun hbr => ?_) (fun hbr => ?_) <;> (fail_if_success (with_reducible (have hx : true = true := hbr))) <;> (fail_if_success (with_reducible (have hx : false = false := hbr)))) | (refine isLg rfl ?_; refine lex_br rfl rfl rfl rfl (fun hbr => ?_) (fun hbr => ?_) <;> (fail_if_success (with_reducible (have hx : true = true := hbr))) <;> (fail_if_success (with_reducible (have hx : false = false := hbr))))
  all_goals first
    | exact finPT rfl (.tup (.cons (.same rfl) (.cons (.same rfl) .nil)))
    | (exfalso
       have q1 : vS s = true := by have := (by assumption : (!vS s) = false); simpa using this
       have q2 : ¬ 1000000000 < s.wr := of_decide_eq_false (by assumption)
       have q3 : inV g 8 60 = true := by have := (by assumption : (!inV g 8 60) = false); simpa using this
       rw [q1, decide_eq_true (by omega), q3] at h
       cases h)
theorem c_ifit (s y : So) (g : Int) (n : Nat) (hv : VS s) (h1 : inV g 8 60 = true) (hw : s.wr ≤ 1000000000) (hn : n ≤ 100) (hf : Fits g s n y) : Meets Go.Proofs.Try.prog 38 [.agg (soE s), I g] [] (.tup [I n, B true]) [] true := by
  have hok := hv.ok
  have hgb : 8 ≤ g ∧ g ≤ 60 := inV_iff.1 h1
  have a1 := c_ivS s hok
  rw [vS_iff.2 hv] at a1
  have a2 := c_isgrant g
  rw [h1] at a2
  have ac := (c_iclone s hok).frozen (.agg (.cons (pur_row rfl) (.cons (.same rfl) (.cons (pur_row rfl) (.cons (pur_row rfl) (.cons (pur_row rfl) (.cons (pur_nest (b := 5) rfl fun j x hx => by rw [Nat.add_comm]; exact nR_at hx) (.cons (.same rfl) (.cons (.same rfl) (.cons (.same rfl) (.cons (.same rfl) .nil)))))))))))
  refine meets_of [4, 5] Go.Proofs.Try.func38 rfl rfl ?_
  simp only [Go.Proofs.Try.ntmps38, List.length_cons, List.length_nil, Nat.reduceAdd, Nat.reduceSub, List.replicate_succ, List.replicate_zero, List.cons_append, List.nil_append]
  repeat' first | (refine do_br rfl rfl (fun h => absurd (of_decide_eq_true h) (by omega)) (fun _ => ?_)) | refine aw_seq ?_ | refine aw_region ?_ | refine aw_lex [] ?_ | (refine isA ?_; refine do_F rfl ?_) | (refine isL ?_; refine lex_F rfl (by kernel_rfl) rfl rfl ?_) | (refine isLg rfl ?_; refine lex_S rfl (by kernel_rfl) rfl rfl ?_) | (refine isAc 17 ?_; refine do_R rfl (st_call rfl a1 (.cons (.same rfl) .nil) rfl) rfl ?_) | (refine isLc 17 rfl ?_; refine lex_R rfl (by kernel_rfl) rfl (st_call rfl a1 (.cons (.same rfl) .nil) rfl) rfl ?_) | (refine isAc 57 ?_; refine do_R rfl (st_call rfl a2 (.cons (.same rfl) .nil) rfl) rfl ?_) | (refine isLc 57 rfl ?_; refine lex_R rfl (by kernel_rfl) rfl (st_call rfl a2 (.cons (.same rfl) .nil) rfl) rfl ?_) | (refine isAc 56 ?_; refine do_R rfl (st_call rfl ac (.cons (.same rfl) .nil) rfl) rfl ?_) | (refine isLc 56 rfl ?_; refine lex_R rfl (by kernel_rfl) rfl (st_call rfl ac (.cons (.same rfl) .nil) rfl) rfl ?_) | refine aops_nil ?_ | refine lex_done _ rfl (by kernel_rfl) ?_ | refine aw_ct rfl ?_ | refine aw_cf rfl ?_ | refine aw_block ?_ | with_reducible refine then_n ?_ | refine aw_skip ?_ | refine aw_exit ?_ | (with_reducible first | refine then_x ?_ | refine then_r ?_ | refine block_x ?_ | refine block_n ?_ | refine block_r ?_) | refine aw_ret ?_
  refine aw_loop (α := { t : So × Nat × Nat // VS t.1 ∧ Fits g t.1 t.2.1 y ∧ t.2.1 + t.2.2 = n ∧ 0 ≤ t.1.wr ∧ t.1.wr + 4 * t.2.1 ≤ 2000000000 }) (fun t => ⟨[.any, I g, .any, .any, .any, .any, .ptr 0 0, I t.1.2.2, .any, .any, .any, .any, .any, .any, .any, .any, .any, .any, .any, .any, .any, .any, .any, .any, .any, .any, .any, .any, .any, .any, .any, .any, .any, .any, .any, .any, .any, .any, .any, .any], [bxS (soE t.1.1)], 0⟩) (fun t => t.1.2.1) ⟨(s, n, 0), hv, hf, rfl, hv.base.wr, by simp only; omega⟩ ?_ ?_
  · exact sub0 [1] rfl rfl (by decide) (.cons rfl rfl rfl rfl (les_refl' rfl) .nil) (by repeat' first | exact les_nil | refine les_cons ?_ ?_ | exact le_any | exact le_refl rfl | exact le_sl rfl rfl | exact le_ptr rfl)
  · rintro ⟨⟨t, m, k⟩, jv, jf, jn, jw0, jw⟩
    simp only at jv jf jn jw0 jw ⊢
    have am := c_imem t jv.ok
    repeat' first | refine aw_seq ?_ | refine aw_region ?_ | refine aw_lex [] ?_ | (refine isA ?_; refine do_F rfl ?_) | (refine isL ?_; refine lex_F rfl (by kernel_rfl) rfl rfl ?_) | (refine isLg rfl ?_; refine lex_S rfl (by kernel_rfl) rfl rfl ?_) | (refine isAc 19 ?_; refine do_R rfl (st_call rfl am (.cons (.same rfl) .nil) rfl) rfl ?_) | (refine isLc 19 rfl ?_; refine lex_R rfl (by kernel_rfl) rfl (st_call rfl am (.cons (.same rfl) .nil) rfl) rfl ?_) | refine aops_nil ?_ | refine lex_done _ rfl (by kernel_rfl) ?_ | refine aw_ct rfl ?_ | refine aw_cf rfl ?_ | refine aw_block ?_ | with_reducible refine then_n ?_ | refine aw_skip ?_ | refine aw_exit ?_ | (with_reducible first | refine then_x ?_ | refine then_r ?_ | refine block_x ?_ | refine block_n ?_ | refine block_r ?_) | refine aw_ret ?_
    cases jf with
    | stop hs =>
      refine aw_cond rfl (fun h => absurd (of_decide_eq_true h) (by omega)) (fun _ => ?_)
      repeat' first | refine aw_seq ?_ | refine aw_region ?_ | refine aw_lex [] ?_ | (refine isA ?_; refine do_F rfl ?_) | (refine isL ?_; refine lex_F rfl (by kernel_rfl) rfl rfl ?_) | (refine isLg rfl ?_; refine lex_S rfl (by kernel_rfl) rfl rfl ?_) | exact finPT rfl (.tup (.cons (pur_i (by omega)) (.cons (.same rfl) .nil))) | refine aops_nil ?_ | refine lex_done _ rfl (by kernel_rfl) ?_ | refine aw_ct rfl ?_ | refine aw_cf rfl ?_ | refine aw_block ?_ | with_reducible refine then_n ?_ | refine aw_skip ?_ | refine aw_exit ?_ | (with_reducible first | refine then_x ?_ | refine then_r ?_ | refine block_x ?_ | refine block_n ?_ | refine block_r ?_) | refine aw_ret ?_
    | @step _ x _ r m hs st f =>
      have hp : t.ph = 1 := Classical.byContradiction fun h => by have := (mem_np h).2; omega
      have hx := step_valid jv hgb.1 hgb.2 (by omega) st
      have hwx := step_wr st jw0 (by omega)
      refine aw_cond rfl (fun _ => ?_) (fun h => absurd (of_decide_eq_false h) (by omega))
      repeat' first | refine aw_seq ?_ | refine aw_region ?_ | refine aw_lex [] ?_ | (refine isA ?_; refine do_F rfl ?_) | (refine isL ?_; refine lex_F rfl (by kernel_rfl) rfl rfl ?_) | (refine isLg rfl ?_; refine lex_S rfl (by kernel_rfl) rfl rfl ?_) | (refine isAc 13 ?_; refine do_R rfl (st_call rfl (c_istep1 t x g r jv.ok (vS_iff.2 jv) h1 hp st) (.cons (.same rfl) (.cons (.same rfl) .nil)) rfl) rfl ?_) | (refine isLc 13 rfl ?_; refine lex_R rfl (by kernel_rfl) rfl (st_call rfl (c_istep1 t x g r jv.ok (vS_iff.2 jv) h1 hp st) (.cons (.same rfl) (.cons (.same rfl) .nil)) rfl) rfl ?_) | refine aops_nil ?_ | refine lex_done _ rfl (by kernel_rfl) ?_ | refine aw_ct rfl ?_ | refine aw_cf rfl ?_ | refine aw_block ?_ | with_reducible refine then_n ?_ | refine aw_skip ?_ | refine aw_exit ?_ | (with_reducible first | refine then_x ?_ | refine then_r ?_ | refine block_x ?_ | refine block_n ?_ | refine block_r ?_) | refine aw_ret ?_
      refine ⟨⟨(x, m, k + 1), hx, f, by simp only; omega, by simp only; omega, by simp only; omega⟩, by simp only; omega, ?_⟩
      exact sub0 [0] rfl rfl (by decide) (.cons rfl rfl rfl rfl (les_refl' rfl) .nil) (by
        repeat' first | exact les_nil | refine les_cons ?_ ?_ | exact le_any | exact le_refl rfl | exact le_ptr rfl | exact le_k (congrArg _ (show ((k + 1 : Nat) : Int) = IntKind.i64.wrap ((k : Int) + 1) by rw [IntKind.wrap_i64]; omega)))
end Go.Proofs.Ytojcojanokhnaaa.Ab

/- FtB -/
namespace Go.Proofs.Ytojcojanokhnaaa.Ab
open Go.RowKit

/-- What StepsToFit answers: the same on both sides. -/
theorem c_fit (s : So) (g : Int) (hok : okSo s) : ∃ (n : Int) (b : Bool), Meets Go.Proofs.Try.prog 39 [.agg (soE s), I g] [] (.tup [I n, B b]) [] true ∧ Meets Go.Proofs.Try.prog 38 [.agg (soE s), I g] [] (.tup [I n, B b]) [] true := by
  cases h : (vS s && (decide (s.wr ≤ 1000000000) && inV g 8 60)) with
  | false => exact ⟨0, false, c_sfit0 s g hok h, c_ifit0 s g hok h⟩
  | true =>
    simp only [Bool.and_eq_true, decide_eq_true_eq] at h
    obtain ⟨h1, h2, h3⟩ := h
    have hv := vS_iff.1 h1
    have hg : 8 ≤ g ∧ g ≤ 60 := inV_iff.1 h3
    obtain ⟨q1, q2, q3, q4, q5, q6⟩ := hv.small
    have hb := bufN_le s
    obtain ⟨n, y, hf, hn⟩ := fits_ex hg.1 hg.2 (bufN s) (Nat.le_refl _) hv (by omega)
    exact ⟨n, true, c_sfit s y g n hv h3 h2 (by omega) hf, c_ifit s y g n hv h3 h2 (by omega) hf⟩
theorem law_StepsToFit (s : So) (g : Int) (hs : rdSo s) : Meets Go.Proofs.Try.prog 8 [.agg (soE s), I g] [] (B true) [] false := by
  refine meets_of [4] Go.Proofs.Try.func8 rfl rfl ?_
  simp only [Go.Proofs.Try.ntmps8, List.length_cons, List.length_nil, Nat.reduceAdd, Nat.reduceSub, List.replicate_succ, List.replicate_zero, List.cons_append, List.nil_append]
  repeat' first | refine aw_seq ?_ | refine aw_region ?_ | refine aw_lex [] ?_ | (refine isA ?_; refine do_F rfl ?_) | (refine isL ?_; refine lex_F rfl (by kernel_rfl) rfl rfl ?_) | (refine isLg rfl ?_; refine lex_S rfl (by kernel_rfl) rfl rfl ?_) | (refine isAc 33 ?_; refine do_R rfl (st_call rfl (c_szSorter s _ hs.runs) (.cons (.same rfl) (.cons (.same rfl) .nil)) rfl) rfl ?_) | (refine isLc 33 rfl ?_; refine lex_R rfl (by kernel_rfl) rfl (st_call rfl (c_szSorter s _ hs.runs) (.cons (.same rfl) (.cons (.same rfl) .nil)) rfl) rfl ?_) | refine aops_nil ?_ | refine lex_done _ rfl (by kernel_rfl) ?_ | refine aw_ct rfl ?_ | refine aw_cf rfl ?_ | refine aw_block ?_ | with_reducible refine then_n ?_ | refine aw_skip ?_ | refine aw_exit ?_ | (with_reducible first | refine then_x ?_ | refine then_r ?_ | refine block_x ?_ | refine block_n ?_ | refine block_r ?_) | refine aw_ret ?_
  refine aw_cond rfl (fun h => ?_) (fun h => ?_)
  · repeat' first | refine aw_seq ?_ | refine aw_region ?_ | refine aw_lex [] ?_ | (refine isA ?_; refine do_F rfl ?_) | (refine isL ?_; refine lex_F rfl (by kernel_rfl) rfl rfl ?_) | (refine isLg rfl ?_; refine lex_S rfl (by kernel_rfl) rfl rfl ?_) | exact fin1 rfl rfl rfl | refine aops_nil ?_ | refine lex_done _ rfl (by kernel_rfl) ?_ | refine aw_ct rfl ?_ | refine aw_cf rfl ?_ | refine aw_block ?_ | with_reducible refine then_n ?_ | refine aw_skip ?_ | refine aw_exit ?_ | (with_reducible first | refine then_x ?_ | refine then_r ?_ | refine block_x ?_ | refine block_n ?_ | refine block_r ?_) | refine aw_ret ?_
  obtain ⟨g1, _, h0, h1⟩ := szS_ok hs (by omega) (by omega) h
  obtain ⟨n, b, f1, f2⟩ := c_fit s g g1
  repeat' first | (refine isA ?_; refine do_R rfl (neqI_same rfl rfl rfl) rfl ?_) | (refine isA ?_; refine do_R rfl (neqB_same rfl rfl rfl (by kernel_rfl)) rfl ?_) | refine aw_seq ?_ | refine aw_region ?_ | refine aw_lex [] ?_ | (refine isA ?_; refine do_F rfl ?_) | (refine isL ?_; refine lex_F rfl (by kernel_rfl) rfl rfl ?_) | (refine isLg rfl ?_; refine lex_S rfl (by kernel_rfl) rfl rfl ?_) | (refine isAc 34 ?_; refine do_R rfl (st_call rfl (c_toSorter s g1) (.cons (.same rfl) .nil) rfl) rfl ?_) | (refine isLc 34 rfl ?_; refine lex_R rfl (by kernel_rfl) rfl (st_call rfl (c_toSorter s g1) (.cons (.same rfl) .nil) rfl) rfl ?_) | (refine isAc 39 ?_; refine do_R rfl (st_call rfl f1 (.cons (.same rfl) (.cons (.same rfl) .nil)) rfl) rfl ?_) | (refine isLc 39 rfl ?_; refine lex_R rfl (by kernel_rfl) rfl (st_call rfl f1 (.cons (.same rfl) (.cons (.same rfl) .nil)) rfl) rfl ?_) | (refine isAc 38 ?_; refine do_R rfl (st_call rfl f2 (.cons (.same rfl) (.cons (.same rfl) .nil)) rfl) rfl ?_) | (refine isLc 38 rfl ?_; refine lex_R rfl (by kernel_rfl) rfl (st_call rfl f2 (.cons (.same rfl) (.cons (.same rfl) .nil)) rfl) rfl ?_) | (refine isAc 35 ?_; refine do_R rfl (st_call rfl (c_eqSorter s g1) (.cons (.same rfl) (.cons (.same rfl) .nil)) rfl) rfl ?_) | (refine isLc 35 rfl ?_; refine lex_R rfl (by kernel_rfl) rfl (st_call rfl (c_eqSorter s g1) (.cons (.same rfl) (.cons (.same rfl) .nil)) rfl) rfl ?_) | exact fin1 rfl rfl rfl | refine aops_nil ?_ | refine lex_done _ rfl (by kernel_rfl) ?_ | refine aw_ct rfl ?_ | refine aw_cf rfl ?_ | refine aw_block ?_ | with_reducible refine then_n ?_ | refine aw_skip ?_ | refine aw_exit ?_ | (with_reducible first | refine then_x ?_ | refine then_r ?_ | refine block_x ?_ | refine block_n ?_ | refine block_r ?_) | refine aw_ret ?_
end Go.Proofs.Ytojcojanokhnaaa.Ab
