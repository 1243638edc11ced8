/- Texts MuA in one. -/
import Derived.Test.YtkcicbigpbdjpaaQB
import Derived.Test.YtkcicbigpbdjpaaQC
import Derived.Test.YtkcicbigpbdjpaaQA
set_option linter.unusedVariables false
set_option linter.unusedSimpArgs false
set_option maxRecDepth 20000
set_option maxHeartbeats 4000000
/- MuA -/
namespace Go.Proofs.Ytkcicbigpbdjpaa.Ab
open Go.RowKit

theorem set_last {L : List Reg} {b b' : Reg} {n : Nat} (h : L.length = n) : (L ++ [b]).set n b' = L ++ [b'] := by
  subst h; rw [List.set_append_right _ _ (Nat.le_refl _), Nat.sub_self]; rfl
theorem c_clones (rs : List Rn) (hok : okRn rs) : Meets Go.Proofs.Try.prog 113 [rnL rs] [] (.sl 0 0 rs.length) (rnN rs) false := by
  have hl := hok.1
  refine meets_of [2] Go.Proofs.Try.func113 rfl rfl ?_
  simp only [Go.Proofs.Try.ntmps113, List.length_cons, List.length_nil, Nat.reduceAdd, Nat.reduceSub, List.replicate_succ, List.replicate_zero, List.cons_append, List.nil_append]
  repeat' first
    | refine aw_seq ?_
    | refine aw_region ?_
    | refine aw_lex [] ?_
    | (refine isA ?_; refine do_F rfl ?_)
    | (refine isL ?_; refine lex_F rfl (by kernel_rfl) rfl rfl ?_)
    | (refine isLg rfl ?_; refine lex_S rfl (by kernel_rfl) rfl rfl ?_)
    | refine aops_nil ?_
    | refine lex_done _ rfl (by kernel_rfl) ?_
    | refine aw_ct rfl ?_
    | refine aw_cf rfl ?_
    | refine aw_block ?_
    | with_reducible refine then_n ?_
    | refine aw_skip ?_
    | refine aw_exit ?_
    | with_reducible refine then_x ?_
    | with_reducible refine then_r ?_
    | with_reducible refine block_x ?_
    | with_reducible refine block_n ?_
    | with_reducible refine block_r ?_
    | refine aw_ret ?_
  refine aw_loop (α := { i : Nat // i ≤ rs.length }) (fun i => ⟨[.any, .any, .any, .sl 0 0 (rs.take i.1).length, .any, .any, rnL rs, I rs.length, I i.1, .any, .any, .any, .any, .any, .any, .any, .any, .any, .any, .any, .any], rnN (rs.take i.1), 0⟩) (fun i => rs.length - i.1) ⟨0, Nat.zero_le _⟩ ?_ ?_
  · refine Sub.trans (T := ⟨[.any, .any, .any, nilV, .any, .any, rnL rs, I rs.length, I 0, .any, .any, .any, .any, .any, .any, .any, .any, .any, .any, .any, .any], [], 0⟩) (sub_nil 39 1 ?_ (.rest _)) (sub0 [] rfl rfl (by decide) .nil (by repeat' first | exact les_nil | refine les_cons ?_ ?_ | exact le_any | exact le_refl rfl | exact le_sl rfl rfl | exact le_ptr rfl))
    exact .cons (.same _) (.cons (.same _) (.cons (.same _) (.cons .nil (.rest _))))
  · rintro ⟨i, hi⟩
    have hnl : (rnN (rs.take i)).length = (rs.take i).length + 1 := by simp [nR_length]
    repeat' first
      | refine aw_seq ?_
      | refine aw_region ?_
      | refine aw_lex [] ?_
      | (refine isA ?_; refine do_F rfl ?_)
      | (refine isL ?_; refine lex_F rfl (by kernel_rfl) rfl rfl ?_)
      | (refine isLg rfl ?_; refine lex_S rfl (by kernel_rfl) rfl rfl ?_)
      | refine aops_nil ?_
      | refine lex_done _ rfl (by kernel_rfl) ?_
      | refine aw_ct rfl ?_
      | refine aw_cf rfl ?_
      | refine aw_block ?_
      | with_reducible refine then_n ?_
      | refine aw_skip ?_
      | refine aw_exit ?_
      | with_reducible refine then_x ?_
      | with_reducible refine then_r ?_
      | with_reducible refine block_x ?_
      | with_reducible refine block_n ?_
      | with_reducible refine block_r ?_
      | refine aw_ret ?_
    refine aw_cond rfl (fun h => ?_) (fun h => ?_)
    · have hlt : i < rs.length := by simpa using h
      obtain ⟨x, hx⟩ : ∃ z, rs[i]? = some z := ⟨_, List.getElem?_eq_getElem hlt⟩
      have ets : rs.take (i + 1) = rs.take i ++ [x] := take_snoc hx
      have etl : (rs.take i).length = i := by simp; omega
      repeat' first
        | refine aw_seq ?_
        | refine aw_region ?_
        | refine aw_lex [] ?_
        | (refine isA ?_; refine do_F rfl ?_)
        | (refine isL ?_; refine lex_F rfl (by kernel_rfl) rfl rfl ?_)
        | (refine isLg rfl ?_; refine lex_S rfl (by kernel_rfl) rfl rfl ?_)
        | (refine isAi ?_; refine do_R rfl (ia_l (t := rnT) (z := x) rfl rfl rfl rfl (Int.natCast_nonneg i) hx) rfl ?_)
        | (refine isLi rfl ?_; refine lex_R rfl (by kernel_rfl) rfl (ia_l (t := rnT) (z := x) rfl rfl rfl rfl (Int.natCast_nonneg i) hx) rfl ?_)
        | (refine isAs (x := .tmp 5) ?_; refine do_R rfl (step_stores (vs := [rwL x]) rfl rfl rfl rfl (fun c hc => by simp at hc; subst hc; rfl) (get_last rfl) rfl (Nat.le_refl _)) rfl ?_)
        | (refine isLs (x := .tmp 5) rfl ?_; refine lex_R rfl (by kernel_rfl) rfl (step_stores (vs := [rwL x]) rfl rfl rfl rfl (fun c hc => by simp at hc; subst hc; rfl) (get_last rfl) rfl (Nat.le_refl _)) rfl ?_)
        | refine aops_nil ?_
        | refine lex_done _ rfl (by kernel_rfl) ?_
        | refine aw_ct rfl ?_
        | refine aw_cf rfl ?_
        | refine aw_block ?_
        | with_reducible refine then_n ?_
        | refine aw_skip ?_
        | refine aw_exit ?_
        | with_reducible refine then_x ?_
        | with_reducible refine then_r ?_
        | with_reducible refine block_x ?_
        | with_reducible refine block_n ?_
        | with_reducible refine block_r ?_
        | refine aw_ret ?_
      refine aops_sub (T := ⟨[.any, .any, .any, .sl 0 0 i, .any, .ptr (i + 1) 0, rnL rs, I rs.length, I i, .any, .any, .any, .sl 0 0 i, .ptr (i + 1) 0, .any, .any, .any, .any, .any, .any, .any], rnN (rs.take i) ++ [⟨39, 1, [rwL x], 0⟩], 0⟩) (sub_id (by rw [set_last rfl]; rfl) (by
        repeat' first
          | exact EqS.nil
          | refine EqS.any ?_
          | refine EqS.same rfl ?_
          | refine EqS.same (congrArg (V.sl 0 0) etl) ?_
          | refine EqS.same (congrArg (fun n => V.ptr n 0) (hnl.trans (by rw [etl]))) ?_)) ?_
      repeat' first
        | refine aw_seq ?_
        | refine aw_region ?_
        | refine aw_lex [] ?_
        | (refine isA ?_; refine do_F rfl ?_)
        | (refine isL ?_; refine lex_F rfl (by kernel_rfl) rfl rfl ?_)
        | (refine isLg rfl ?_; refine lex_S rfl (by kernel_rfl) rfl rfl ?_)
        | (refine isAl (x := .tmp 13) ?_; refine do_R rfl (rd_sc rfl rfl (get_last (by rw [hnl, etl])) rfl rfl) rfl ?_)
        | (refine isLl (x := .tmp 13) rfl ?_; refine lex_R rfl (by kernel_rfl) rfl (rd_sc rfl rfl (get_last (by rw [hnl, etl])) rfl rfl) rfl ?_)
        | (refine isAc 130 ?_; refine do_R rfl (st_callK (r' := .sl (i + 2) 0 x.length) (H' := rnN (rs.take i) ++ [⟨39, 1, [rwL x], 0⟩] ++ [rwR x]) rfl (c_clone x (hok.at hx)) (.cons (.same rfl) .nil) (fun q hq => by simp at hq; subst hq; exact flat_noH _ _) (by simp only [List.length_append, hnl, etl, shV, Nat.zero_add, List.length_singleton]) rfl) rfl ?_)
        | (refine isLc 130 rfl ?_; refine lex_R rfl (by kernel_rfl) rfl (st_callK (r' := .sl (i + 2) 0 x.length) (H' := rnN (rs.take i) ++ [⟨39, 1, [rwL x], 0⟩] ++ [rwR x]) rfl (c_clone x (hok.at hx)) (.cons (.same rfl) .nil) (fun q hq => by simp at hq; subst hq; exact flat_noH _ _) (by simp only [List.length_append, hnl, etl, shV, Nat.zero_add, List.length_singleton]) rfl) rfl ?_)
        | (refine isAp ?_; refine do_R rfl (ap_nest (outs := rs.take i) (hz := (rnN (rs.take i) ++ [(⟨39, 1, [rwL x], 0⟩ : Reg)] ++ [rwR x]).length) (zi := i + 2) (n := x.length) rfl (congrArg (V.sl 0 0) etl.symm) rfl rfl (get_last rfl) (by omega) rfl) rfl ?_)
        | (refine isLp rfl ?_; refine lex_R rfl (by kernel_rfl) rfl (ap_nest (outs := rs.take i) (hz := (rnN (rs.take i) ++ [(⟨39, 1, [rwL x], 0⟩ : Reg)] ++ [rwR x]).length) (zi := i + 2) (n := x.length) rfl (congrArg (V.sl 0 0) etl.symm) rfl rfl (get_last rfl) (by omega) rfl) rfl ?_)
        | refine aops_nil ?_
        | refine lex_done _ rfl (by kernel_rfl) ?_
        | refine aw_ct rfl ?_
        | refine aw_cf rfl ?_
        | refine aw_block ?_
        | with_reducible refine then_n ?_
        | refine aw_skip ?_
        | refine aw_exit ?_
        | with_reducible refine then_x ?_
        | with_reducible refine then_r ?_
        | with_reducible refine block_x ?_
        | with_reducible refine block_n ?_
        | with_reducible refine block_r ?_
        | refine aw_ret ?_
      refine ⟨⟨i + 1, hlt⟩, by simp only; omega, ?_⟩
      have q := hle_pass (D := ⟨39, 1, nC 1 (rs.take i), 2⟩) (S := ⟨39, 1, [.sl (i + 2) 0 x.length], 0⟩) (out := rs.take i) (z := x) (A := [⟨39, 1, [rwL x], 0⟩, rwR x]) (k := 1) rfl
      have ei : 1 + (rs.take i).length + 1 = i + 2 := by omega
      have ej : (rs.take i).length + 2 + 2 = i + 4 := by omega
      rw [ei, ← ets] at q
      simp only [List.length_cons, List.length_nil, Nat.zero_add, Nat.reduceAdd, ej, etl] at q
      refine sub_of ((i + 4) :: (List.range' 1 i ++ [i + 2])) rfl (fun i hi => absurd hi (Nat.not_lt_zero _)) ?_ (by
        repeat' first
          | exact les_nil
          | refine les_cons ?_ ?_
          | exact le_any
          | exact le_refl rfl
          | exact le_sl (congrArg some (by simp only [List.length_append, List.length_set, hnl, etl, List.length_singleton])) (by rw [ets, List.length_append, etl]; rfl)
          | exact le_i (by assumption) (by omega))
      show HLe _ (rnN (rs.take (i + 1))) (⟨39, 1, nC 1 (rs.take i), 2⟩ :: (nR rwT 71 (rs.take i) ++ [⟨39, 1, [rwL x], 0⟩] ++ [rwR x] ++ [⟨39, 1, [.sl (i + 2) 0 x.length], 0⟩]) ++ [⟨39, 1, nC 1 (rs.take i) ++ [.sl (i + 2) 0 x.length], 0⟩])
      simp only [List.append_assoc, List.cons_append, List.nil_append] at q ⊢
      exact q
    · have hge : i = rs.length := by
        have : ¬ ((i : Int) < rs.length) := by simpa using h
        omega
      subst hge
      repeat' first
        | refine aw_seq ?_
        | refine aw_region ?_
        | refine aw_lex [] ?_
        | (refine isA ?_; refine do_F rfl ?_)
        | (refine isL ?_; refine lex_F rfl (by kernel_rfl) rfl rfl ?_)
        | (refine isLg rfl ?_; refine lex_S rfl (by kernel_rfl) rfl rfl ?_)
        | exact finN _ rfl (by rw [List.take_length]; exact hle_rn0 _) (le_sl rfl (by rw [List.take_length])) (Or.inr ⟨rfl, by exact rnN_flatS _⟩)
        | refine aops_nil ?_
        | refine lex_done _ rfl (by kernel_rfl) ?_
        | refine aw_ct rfl ?_
        | refine aw_cf rfl ?_
        | refine aw_block ?_
        | with_reducible refine then_n ?_
        | refine aw_skip ?_
        | refine aw_exit ?_
        | with_reducible refine then_x ?_
        | with_reducible refine then_r ?_
        | with_reducible refine block_x ?_
        | with_reducible refine block_n ?_
        | with_reducible refine block_r ?_
        | refine aw_ret ?_

/-! ### MergeRuns -/
inductive MrR : List Rn → List Rn → Nat → Prop where
  | stop {rs : List Rn} (h : rs.length ≤ 1) : MrR rs rs 0
  | step {rs out : List Rn} {n : Nat} (h : 1 < rs.length) (t : MrR (mpV rs) out n) : MrR rs out (n + 1)
theorem mp_half : ∀ rs : List Rn, (mpV rs).length = (rs.length + 1) / 2
  | [] => rfl
  | [x] => by simp [mpV]
  | x :: y :: r => by have := mp_half r; simp only [mpV, List.length_cons]; omega
theorem mr_ex : ∀ (N : Nat) {rs : List Rn}, rs.length ≤ N → ∃ out n, MrR rs out n ∧ n ≤ N
  | N, rs, hN => by
    rcases Nat.lt_or_ge 1 rs.length with h | h
    · cases N with
      | zero => omega
      | succ N =>
        obtain ⟨out, n, h1, h2⟩ := mr_ex N (rs := mpV rs) (by rw [mp_half]; omega)
        exact ⟨out, n + 1, .step h h1, by omega⟩
    · exact ⟨rs, 0, .stop h, Nat.zero_le _⟩
theorem mr_len {rs out : List Rn} {n : Nat} (h : MrR rs out n) : out.length ≤ 1 ∧ n ≤ rs.length ∧ tot out = tot rs := by
  induction h with
  | stop h => exact ⟨h, Nat.zero_le _, rfl⟩
  | @step rs out n h t ih =>
    have e := mp_tot rs
    have l := mp_half rs
    exact ⟨ih.1, by omega, by omega⟩
theorem mr_more {rs out : List Rn} {m : Nat} (h : MrR rs out m) (hl : 1 < rs.length) : ∃ k, m = k + 1 ∧ MrR (mpV rs) out k := by
  cases h with
  | stop h => omega
  | step h t => exact ⟨_, rfl, t⟩
theorem mr_end {rs out : List Rn} {m : Nat} (h : MrR rs out m) (hl : rs.length ≤ 1) : m = 0 ∧ rs = out := by
  cases h with
  | stop h => exact ⟨rfl, rfl⟩
  | step h t => omega
structure OkM (rs : List Rn) : Prop where
  len : rs.length ≤ 10000000
  tot : tot rs ≤ 10000000
theorem OkM.rn {rs : List Rn} (h : OkM rs) : okRn rs := ⟨by have := h.len; omega, fun x hx => by
  have : x.length ≤ Ab.tot rs := mem_sum (List.mem_map.2 ⟨x, hx, rfl⟩)
  have := h.tot
  omega⟩
theorem OkM.mp {rs : List Rn} (h : OkM rs) : OkM (mpV rs) := by
  have := mp_ok h.len h.tot
  exact ⟨this.2.2, this.2.1⟩
theorem c_imr0 (rs : List Rn) (hok : OkM rs) (hv : avS rs = false) : Meets Go.Proofs.Try.prog 43 [rnL rs] [] (.tup [nilV, I 0, B false]) [] false := by
  have a1 := c_iavS rs hok.rn
  rw [hv] at a1
  refine meets_of [2, 3, 4] Go.Proofs.Try.func43 rfl rfl ?_
  simp only [Go.Proofs.Try.ntmps43, List.length_cons, List.length_nil, Nat.reduceAdd, Nat.reduceSub, List.replicate_succ, List.replicate_zero, List.cons_append, List.nil_append]
  repeat' first
    | refine aw_seq ?_
    | refine aw_region ?_
    | refine aw_lex [] ?_
    | (refine isA ?_; refine do_F rfl ?_)
    | (refine isL ?_; refine lex_F rfl (by kernel_rfl) rfl rfl ?_)
    | (refine isLg rfl ?_; refine lex_S rfl (by kernel_rfl) rfl rfl ?_)
    | (refine isAc 22 ?_; refine do_R rfl (st_call rfl a1 (.cons (.same rfl) .nil) rfl) rfl ?_)
    | (refine isLc 22 rfl ?_; refine lex_R rfl (by kernel_rfl) rfl (st_call rfl a1 (.cons (.same rfl) .nil) rfl) rfl ?_)
    | exact finNT [] rfl hle_nil (le_refl rfl) (Or.inr ⟨rfl, fun q hq => by cases hq⟩)
    | refine aops_nil ?_
    | refine lex_done _ rfl (by kernel_rfl) ?_
    | refine aw_ct rfl ?_
    | refine aw_cf rfl ?_
    | refine aw_block ?_
    | with_reducible refine then_n ?_
    | refine aw_skip ?_
    | refine aw_exit ?_
    | with_reducible refine then_x ?_
    | with_reducible refine then_r ?_
    | with_reducible refine block_x ?_
    | with_reducible refine block_n ?_
    | with_reducible refine block_r ?_
    | refine aw_ret ?_
theorem c_imr (rs out : List Rn) (n : Nat) (hok : OkM rs) (hv : avS rs = true) (h : MrR rs out n) : Meets Go.Proofs.Try.prog 43 [rnL rs] [] (.tup [.sl 0 0 out.flatten.length, I n, B true]) [rwR out.flatten] false := by
  have a1 := c_iavS rs hok.rn
  rw [hv] at a1
  have hR : ∀ j x, rs[j]? = some x → (rnN rs)[1 + j]? = some (rwR x) := row_in (K0 := [⟨39, 1, nC 1 rs, 0⟩]) (D := []) rfl (by simp)
  have a2 := (c_clones rs hok.rn).frozen (pur_nest rfl hR)
  have hn := (mr_len h).2.1
  have hl := hok.len
  refine meets_of [2, 3, 4] Go.Proofs.Try.func43 rfl rfl ?_
  simp only [Go.Proofs.Try.ntmps43, List.length_cons, List.length_nil, Nat.reduceAdd, Nat.reduceSub, List.replicate_succ, List.replicate_zero, List.cons_append, List.nil_append]
  repeat' first
    | refine aw_seq ?_
    | refine aw_region ?_
    | refine aw_lex [] ?_
    | (refine isA ?_; refine do_F rfl ?_)
    | (refine isL ?_; refine lex_F rfl (by kernel_rfl) rfl rfl ?_)
    | (refine isLg rfl ?_; refine lex_S rfl (by kernel_rfl) rfl rfl ?_)
    | (refine isAc 22 ?_; refine do_R rfl (st_call rfl a1 (.cons (.same rfl) .nil) rfl) rfl ?_)
    | (refine isLc 22 rfl ?_; refine lex_R rfl (by kernel_rfl) rfl (st_call rfl a1 (.cons (.same rfl) .nil) rfl) rfl ?_)
    | (refine isAc 113 ?_; refine do_R rfl (st_call rfl a2 (.cons (.same rfl) .nil) rfl) rfl ?_)
    | (refine isLc 113 rfl ?_; refine lex_R rfl (by kernel_rfl) rfl (st_call rfl a2 (.cons (.same rfl) .nil) rfl) rfl ?_)
    | refine aops_nil ?_
    | refine lex_done _ rfl (by kernel_rfl) ?_
    | refine aw_ct rfl ?_
    | refine aw_cf rfl ?_
    | refine aw_block ?_
    | with_reducible refine then_n ?_
    | refine aw_skip ?_
    | refine aw_exit ?_
    | with_reducible refine then_x ?_
    | with_reducible refine then_r ?_
    | with_reducible refine block_x ?_
    | with_reducible refine block_n ?_
    | with_reducible refine block_r ?_
    | refine aw_ret ?_
  refine aw_loop (α := { p : List Rn × Nat // OkM p.1 ∧ p.2 ≤ n ∧ MrR p.1 out (n - p.2) }) (fun p => ⟨[rnL p.1.1, .any, .any, .any, .any, I p.1.2, .any, .any, .any, .any, .any, .any, .any, .any, .any, .any, .any, .any, .any, .any, .any], [], 0⟩) (fun p => n - p.1.2) ⟨(rs, 0), hok, Nat.zero_le _, h⟩ ?_ ?_
  · exact sub0 [] rfl rfl (by decide) .nil (by repeat' first | exact les_nil | refine les_cons ?_ ?_ | exact le_any | exact le_refl rfl | exact le_sl rfl rfl | exact le_ptr rfl)
  · rintro ⟨⟨x, k⟩, k1, k2, k3⟩
    simp only at k1 k2 k3
    repeat' first
      | refine aw_seq ?_
      | refine aw_region ?_
      | refine aw_lex [] ?_
      | (refine isA ?_; refine do_F rfl ?_)
      | (refine isL ?_; refine lex_F rfl (by kernel_rfl) rfl rfl ?_)
      | (refine isLg rfl ?_; refine lex_S rfl (by kernel_rfl) rfl rfl ?_)
      | refine aops_nil ?_
      | refine lex_done _ rfl (by kernel_rfl) ?_
      | refine aw_ct rfl ?_
      | refine aw_cf rfl ?_
      | refine aw_block ?_
      | with_reducible refine then_n ?_
      | refine aw_skip ?_
      | refine aw_exit ?_
      | with_reducible refine then_x ?_
      | with_reducible refine then_r ?_
      | with_reducible refine block_x ?_
      | with_reducible refine block_n ?_
      | with_reducible refine block_r ?_
      | refine aw_ret ?_
    refine aw_cond rfl (fun p => ?_) (fun p => ?_)
    · have hlt : 1 < x.length := by have := of_decide_eq_true p; simp only at this; omega
      have hRm : ∀ j y, (mpV x)[j]? = some y → (rnN (mpV x))[1 + j]? = some (rwR y) := row_in (K0 := [⟨39, 1, nC 1 (mpV x), 0⟩]) (D := []) rfl (by simp)
      have a3 := (c_imp x k1.len k1.tot).frozen (pur_nest rfl hRm)
      obtain ⟨m, hm, t⟩ := mr_more k3 hlt
      repeat' first
        | refine aw_seq ?_
        | refine aw_region ?_
        | refine aw_lex [] ?_
        | (refine isA ?_; refine do_F rfl ?_)
        | (refine isL ?_; refine lex_F rfl (by kernel_rfl) rfl rfl ?_)
        | (refine isLg rfl ?_; refine lex_S rfl (by kernel_rfl) rfl rfl ?_)
        | (refine isAc 49 ?_; refine do_R rfl (st_call rfl a3 (.cons (.same rfl) .nil) rfl) rfl ?_)
        | (refine isLc 49 rfl ?_; refine lex_R rfl (by kernel_rfl) rfl (st_call rfl a3 (.cons (.same rfl) .nil) rfl) rfl ?_)
        | refine aops_nil ?_
        | refine lex_done _ rfl (by kernel_rfl) ?_
        | refine aw_ct rfl ?_
        | refine aw_cf rfl ?_
        | refine aw_block ?_
        | with_reducible refine then_n ?_
        | refine aw_skip ?_
        | refine aw_exit ?_
        | with_reducible refine then_x ?_
        | with_reducible refine then_r ?_
        | with_reducible refine block_x ?_
        | with_reducible refine block_n ?_
        | with_reducible refine block_r ?_
        | refine aw_ret ?_
      refine ⟨⟨(mpV x, k + 1), k1.mp, by simp only; omega, by simp only; rw [show n - (k + 1) = m by omega]; exact t⟩, by simp only; omega, ?_⟩
      exact sub0 [] rfl rfl (by decide) .nil (by
        repeat' first
          | exact les_nil
          | refine les_cons ?_ ?_
          | exact le_any
          | exact le_refl rfl
          | exact le_i (show k < n by omega) (by omega))
    · have hge : x.length ≤ 1 := by have := of_decide_eq_false p; simp only at this; omega
      obtain ⟨hm, rfl⟩ := mr_end k3 hge
      obtain rfl : k = n := by omega
      have a4 := c_iflat x k1.rn (by have := k1.tot; omega)
      repeat' first
        | refine aw_seq ?_
        | refine aw_region ?_
        | refine aw_lex [] ?_
        | (refine isA ?_; refine do_F rfl ?_)
        | (refine isL ?_; refine lex_F rfl (by kernel_rfl) rfl rfl ?_)
        | (refine isLg rfl ?_; refine lex_S rfl (by kernel_rfl) rfl rfl ?_)
        | (refine isAc 29 ?_; refine do_R rfl (st_callK rfl a4 (.cons (.same rfl) .nil) (fun q hq => by simp at hq; subst hq; exact flat_noH _ _) rfl rfl) rfl ?_)
        | (refine isLc 29 rfl ?_; refine lex_R rfl (by kernel_rfl) rfl (st_callK rfl a4 (.cons (.same rfl) .nil) (fun q hq => by simp at hq; subst hq; exact flat_noH _ _) rfl rfl) rfl ?_)
        | exact finNT [0] rfl (hle_of (by decide) (.cons rfl rfl rfl rfl (les_refl (flat_noH _ _)) .nil)) (le_tup (les_cons (le_sl rfl rfl) (les_cons (le_refl rfl) (les_cons (le_refl rfl) les_nil)))) (Or.inr ⟨rfl, fun q hq => by simp at hq; subst hq; exact ⟨Nat.zero_ne_one, fun _ => (flat_rw _).flatS⟩⟩)
        | refine aops_nil ?_
        | refine lex_done _ rfl (by kernel_rfl) ?_
        | refine aw_ct rfl ?_
        | refine aw_cf rfl ?_
        | refine aw_block ?_
        | with_reducible refine then_n ?_
        | refine aw_skip ?_
        | refine aw_exit ?_
        | with_reducible refine then_x ?_
        | with_reducible refine then_r ?_
        | with_reducible refine block_x ?_
        | with_reducible refine block_n ?_
        | with_reducible refine block_r ?_
        | refine aw_ret ?_
theorem c_smr0 (rs : List Rn) (hok : OkM rs) (hv : avS rs = false) : Meets Go.Proofs.Try.prog 41 [rnL rs] [] (.tup [rwL [], I 0, B false]) [] true := by
  have a1 := c_savS rs hok.rn
  rw [hv] at a1
  refine meets_of [2, 3, 4] Go.Proofs.Try.func41 rfl rfl ?_
  simp only [Go.Proofs.Try.ntmps41, List.length_cons, List.length_nil, Nat.reduceAdd, Nat.reduceSub, List.replicate_succ, List.replicate_zero, List.cons_append, List.nil_append]
  repeat' first
    | (refine isA ?_; refine do_R rfl (lit_of rfl rfl rfl rfl rfl) rfl ?_)
    | refine aw_seq ?_
    | refine aw_region ?_
    | refine aw_lex [] ?_
    | (refine isA ?_; refine do_F rfl ?_)
    | (refine isL ?_; refine lex_F rfl (by kernel_rfl) rfl rfl ?_)
    | (refine isLg rfl ?_; refine lex_S rfl (by kernel_rfl) rfl rfl ?_)
    | (refine isAc 23 ?_; refine do_R rfl (st_call rfl a1 (.cons (.same rfl) .nil) rfl) rfl ?_)
    | (refine isLc 23 rfl ?_; refine lex_R rfl (by kernel_rfl) rfl (st_call rfl a1 (.cons (.same rfl) .nil) rfl) rfl ?_)
    | exact finPT rfl (.tup (.cons (.same rfl) (.cons (.same rfl) (.cons (.same rfl) .nil))))
    | refine aops_nil ?_
    | refine lex_done _ rfl (by kernel_rfl) ?_
    | refine aw_ct rfl ?_
    | refine aw_cf rfl ?_
    | refine aw_block ?_
    | with_reducible refine then_n ?_
    | refine aw_skip ?_
    | refine aw_exit ?_
    | with_reducible refine then_x ?_
    | with_reducible refine then_r ?_
    | with_reducible refine block_x ?_
    | with_reducible refine block_n ?_
    | with_reducible refine block_r ?_
    | refine aw_ret ?_
theorem c_smr (rs out : List Rn) (n : Nat) (hok : OkM rs) (hv : avS rs = true) (h : MrR rs out n) : Meets Go.Proofs.Try.prog 41 [rnL rs] [] (.tup [rwL out.flatten, I n, B true]) [] true := by
  have a1 := c_savS rs hok.rn
  rw [hv] at a1
  have hn := (mr_len h).2.1
  have ho := (mr_len h).1
  have ht := (mr_len h).2.2
  have hl := hok.len
  have hlt := hok.tot
  refine meets_of [2, 3, 4] Go.Proofs.Try.func41 rfl rfl ?_
  simp only [Go.Proofs.Try.ntmps41, List.length_cons, List.length_nil, Nat.reduceAdd, Nat.reduceSub, List.replicate_succ, List.replicate_zero, List.cons_append, List.nil_append]
  repeat' first
    | refine aw_seq ?_
    | refine aw_region ?_
    | refine aw_lex [] ?_
    | (refine isA ?_; refine do_F rfl ?_)
    | (refine isL ?_; refine lex_F rfl (by kernel_rfl) rfl rfl ?_)
    | (refine isLg rfl ?_; refine lex_S rfl (by kernel_rfl) rfl rfl ?_)
    | (refine isAc 23 ?_; refine do_R rfl (st_call rfl a1 (.cons (.same rfl) .nil) rfl) rfl ?_)
    | (refine isLc 23 rfl ?_; refine lex_R rfl (by kernel_rfl) rfl (st_call rfl a1 (.cons (.same rfl) .nil) rfl) rfl ?_)
    | refine aops_nil ?_
    | refine lex_done _ rfl (by kernel_rfl) ?_
    | refine aw_ct rfl ?_
    | refine aw_cf rfl ?_
    | refine aw_block ?_
    | with_reducible refine then_n ?_
    | refine aw_skip ?_
    | refine aw_exit ?_
    | with_reducible refine then_x ?_
    | with_reducible refine then_r ?_
    | with_reducible refine block_x ?_
    | with_reducible refine block_n ?_
    | with_reducible refine block_r ?_
    | refine aw_ret ?_
  refine aw_loop (α := { p : List Rn × Nat // OkM p.1 ∧ p.2 ≤ n ∧ MrR p.1 out (n - p.2) ∧ (0 < p.1.length ∨ p.2 = 0) }) (fun p => ⟨[.any, .any, .any, .any, .any, rnL p.1.1, I p.1.2, .any, .any, .any, .any, .any, .any, .any, .any, .any, .any, .any, .any, .any, .any, .any, .any, .any, .any, .any, .any, .any, .any, .any], [], 0⟩) (fun p => n - p.1.2) ⟨(rs, 0), hok, Nat.zero_le _, h, Or.inr rfl⟩ ?_ ?_
  · exact sub0 [] rfl rfl (by decide) .nil (by repeat' first | exact les_nil | refine les_cons ?_ ?_ | exact le_any | exact le_refl rfl | exact le_sl rfl rfl | exact le_ptr rfl)
  · rintro ⟨⟨x, k⟩, k1, k2, k3, k4⟩
    simp only at k1 k2 k3 k4
    repeat' first
      | refine aw_seq ?_
      | refine aw_region ?_
      | refine aw_lex [] ?_
      | (refine isA ?_; refine do_F rfl ?_)
      | (refine isL ?_; refine lex_F rfl (by kernel_rfl) rfl rfl ?_)
      | (refine isLg rfl ?_; refine lex_S rfl (by kernel_rfl) rfl rfl ?_)
      | refine aops_nil ?_
      | refine lex_done _ rfl (by kernel_rfl) ?_
      | refine aw_ct rfl ?_
      | refine aw_cf rfl ?_
      | refine aw_block ?_
      | with_reducible refine then_n ?_
      | refine aw_skip ?_
      | refine aw_exit ?_
      | with_reducible refine then_x ?_
      | with_reducible refine then_r ?_
      | with_reducible refine block_x ?_
      | with_reducible refine block_n ?_
      | with_reducible refine block_r ?_
      | refine aw_ret ?_
    refine aw_cond rfl (fun p => ?_) (fun p => ?_)
    · have hlt : 1 < x.length := by have := of_decide_eq_true p; simp only at this; omega
      have hRm : ∀ j y, (mpV x)[j]? = some y → (rnN (mpV x))[1 + j]? = some (rwR y) := row_in (K0 := [⟨39, 1, nC 1 (mpV x), 0⟩]) (D := []) rfl (by simp)
      have a3 := (c_smp x k1.len k1.tot).frozen (pur_nest rfl hRm)
      obtain ⟨m, hm, t⟩ := mr_more k3 hlt
      repeat' first
        | refine aw_seq ?_
        | refine aw_region ?_
        | refine aw_lex [] ?_
        | (refine isA ?_; refine do_F rfl ?_)
        | (refine isL ?_; refine lex_F rfl (by kernel_rfl) rfl rfl ?_)
        | (refine isLg rfl ?_; refine lex_S rfl (by kernel_rfl) rfl rfl ?_)
        | (refine isAc 54 ?_; refine do_R rfl (st_call rfl a3 (.cons (.same rfl) .nil) rfl) rfl ?_)
        | (refine isLc 54 rfl ?_; refine lex_R rfl (by kernel_rfl) rfl (st_call rfl a3 (.cons (.same rfl) .nil) rfl) rfl ?_)
        | refine aops_nil ?_
        | refine lex_done _ rfl (by kernel_rfl) ?_
        | refine aw_ct rfl ?_
        | refine aw_cf rfl ?_
        | refine aw_block ?_
        | with_reducible refine then_n ?_
        | refine aw_skip ?_
        | refine aw_exit ?_
        | with_reducible refine then_x ?_
        | with_reducible refine then_r ?_
        | with_reducible refine block_x ?_
        | with_reducible refine block_n ?_
        | with_reducible refine block_r ?_
        | refine aw_ret ?_
      refine ⟨⟨(mpV x, k + 1), k1.mp, by simp only; omega, by simp only; rw [show n - (k + 1) = m by omega]; exact t, Or.inl (by simp only; rw [mp_half]; omega)⟩, by simp only; omega, ?_⟩
      exact sub0 [] rfl rfl (by decide) .nil (by
        repeat' first
          | exact les_nil
          | refine les_cons ?_ ?_
          | exact le_any
          | exact le_refl rfl
          | exact le_i (show k < n by omega) (by omega))
    · have hge : x.length ≤ 1 := by have := of_decide_eq_false p; simp only at this; omega
      obtain ⟨hm, rfl⟩ := mr_end k3 hge
      obtain rfl : k = n := by omega
      repeat' first
        | refine aw_seq ?_
        | refine aw_region ?_
        | refine aw_lex [] ?_
        | (refine isA ?_; refine do_F rfl ?_)
        | (refine isL ?_; refine lex_F rfl (by kernel_rfl) rfl rfl ?_)
        | (refine isLg rfl ?_; refine lex_S rfl (by kernel_rfl) rfl rfl ?_)
        | refine aops_nil ?_
        | refine lex_done _ rfl (by kernel_rfl) ?_
        | refine aw_ct rfl ?_
        | refine aw_cf rfl ?_
        | refine aw_block ?_
        | with_reducible refine then_n ?_
        | refine aw_skip ?_
        | refine aw_exit ?_
        | with_reducible refine then_x ?_
        | with_reducible refine then_r ?_
        | with_reducible refine block_x ?_
        | with_reducible refine block_n ?_
        | with_reducible refine block_r ?_
        | refine aw_ret ?_
      refine aw_cond rfl (fun q => ?_) (fun q => ?_)
      · have h0 : x.length = 0 := by have := of_decide_eq_true q; simp only at this; omega
        obtain rfl : k = 0 := by omega
        obtain rfl : x = [] := List.eq_nil_of_length_eq_zero h0
        repeat' first
          | (refine isA ?_; refine do_R rfl (lit_of rfl rfl rfl rfl rfl) rfl ?_)
          | refine aw_seq ?_
          | refine aw_region ?_
          | refine aw_lex [] ?_
          | (refine isA ?_; refine do_F rfl ?_)
          | (refine isL ?_; refine lex_F rfl (by kernel_rfl) rfl rfl ?_)
          | (refine isLg rfl ?_; refine lex_S rfl (by kernel_rfl) rfl rfl ?_)
          | exact finPT rfl (.tup (.cons (.same rfl) (.cons (.same rfl) (.cons (.same rfl) .nil))))
          | refine aops_nil ?_
          | refine lex_done _ rfl (by kernel_rfl) ?_
          | refine aw_ct rfl ?_
          | refine aw_cf rfl ?_
          | refine aw_block ?_
          | with_reducible refine then_n ?_
          | refine aw_skip ?_
          | refine aw_exit ?_
          | with_reducible refine then_x ?_
          | with_reducible refine then_r ?_
          | with_reducible refine block_x ?_
          | with_reducible refine block_n ?_
          | with_reducible refine block_r ?_
          | refine aw_ret ?_
      · have h0 : x.length ≠ 0 := by have := of_decide_eq_false q; simp only at this; omega
        obtain ⟨y, rfl⟩ := List.length_eq_one_iff.1 (show x.length = 1 by omega)
        have hy : y.length ≤ 1000000000 := k1.rn.2 y (by simp)
        have e : ([y] : List Rn).flatten = y := by simp
        rw [e]
        repeat' first
          | refine aw_seq ?_
          | refine aw_region ?_
          | refine aw_lex [] ?_
          | (refine isA ?_; refine do_F rfl ?_)
          | (refine isL ?_; refine lex_F rfl (by kernel_rfl) rfl rfl ?_)
          | (refine isLg rfl ?_; refine lex_S rfl (by kernel_rfl) rfl rfl ?_)
          | (refine isAi ?_; refine do_R rfl (ia_l (t := rnT) (z := y) rfl rfl rfl rfl (Int.natCast_nonneg 0) rfl) rfl ?_)
          | (refine isLi rfl ?_; refine lex_R rfl (by kernel_rfl) rfl (ia_l (t := rnT) (z := y) rfl rfl rfl rfl (Int.natCast_nonneg 0) rfl) rfl ?_)
          | (refine isAp ?_; refine do_R rfl (ap_l (t := rwT) (xs := []) (ys := y) rfl rfl rfl rfl (.lst _ _) (by simp; omega) rfl) rfl ?_)
          | (refine isLp rfl ?_; refine lex_R rfl (by kernel_rfl) rfl (ap_l (t := rwT) (xs := []) (ys := y) rfl rfl rfl rfl (.lst _ _) (by simp; omega) rfl) rfl ?_)
          | exact finPT rfl (.tup (.cons (pur_row rfl) (.cons (.same rfl) (.cons (.same rfl) .nil))))
          | refine aops_nil ?_
          | refine lex_done _ rfl (by kernel_rfl) ?_
          | refine aw_ct rfl ?_
          | refine aw_cf rfl ?_
          | refine aw_block ?_
          | with_reducible refine then_n ?_
          | refine aw_skip ?_
          | refine aw_exit ?_
          | with_reducible refine then_x ?_
          | with_reducible refine then_r ?_
          | with_reducible refine block_x ?_
          | with_reducible refine block_n ?_
          | with_reducible refine block_r ?_
          | refine aw_ret ?_
end Go.Proofs.Ytkcicbigpbdjpaa.Ab
