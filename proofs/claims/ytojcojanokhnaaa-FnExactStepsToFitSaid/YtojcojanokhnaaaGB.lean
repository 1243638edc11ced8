/- Texts ClR, Mk0, SoA, SsA in one. -/
import Derived.Test.YtojcojanokhnaaaGA
import Derived.Test.YtojcojanokhnaaaAb5
import Derived.Test.YtojcojanokhnaaaAb6
import Derived.Test.YtojcojanokhnaaaAb7
set_option linter.unusedVariables false
set_option linter.unusedSimpArgs false
set_option maxRecDepth 20000
set_option maxHeartbeats 8000000
/- ClR -/
namespace Go.Proofs.Ytojcojanokhnaaa.Ab
open Go.RowKit

theorem get_last {L : List Reg} {N : Reg} {n : Nat} (h : L.length = n) : (L ++ [N])[n]? = some N := by
  rw [List.getElem?_append_right (by omega), show n - L.length = 0 by omega]; rfl
/-- The rows of the runs so far and of one more. -/
theorem hle_pass {D S : Reg} {out : List Rn} {z : Rn} {A : List Reg} {k : Nat} (hE : A[k]? = some (rwR z)) : HLe ((out.length + A.length + 2) :: (List.range' 1 out.length ++ [1 + out.length + k])) (rnN (out ++ [z])) (D :: (nR rwT 78 out ++ A ++ [S]) ++ [⟨84, 1, nC 1 out ++ [.sl (1 + out.length + k) 0 z.length], 0⟩]) := by
  have hk : k < A.length := (List.getElem?_eq_some_iff.1 hE).1
  refine hle_push (get_last (by simp [nR_length]; omega)) ?_ (row_in (K0 := [D]) (D := A ++ [S] ++ [⟨84, 1, nC 1 out ++ [.sl (1 + out.length + k) 0 z.length], 0⟩]) rfl (by simp)) (by omega) (by omega) (by omega)
  rw [show 1 + out.length + k = (out.length + k) + 1 by omega, List.cons_append, List.getElem?_cons_succ, List.append_assoc, List.append_assoc, List.getElem?_append_right (by simp [nR_length]), nR_length, Nat.add_sub_cancel_left, List.getElem?_append_left hk]
  exact hE
theorem set_last {L : List Reg} {b b' : Reg} {n : Nat} (h : L.length = n) : (L ++ [b]).set n b' = L ++ [b'] := by
  subst h; rw [List.set_append_right _ _ (Nat.le_refl _), Nat.sub_self]; rfl
theorem c_clones (rs : List Rn) (hok : okRn rs) : Meets Go.Proofs.Try.prog 115 [rnL rs] [] (.sl 0 0 rs.length) (rnN rs) false := by
  have hl := hok.1
  refine meets_of [2] Go.Proofs.Try.func115 rfl rfl ?_
  simp only [Go.Proofs.Try.ntmps115, List.length_cons, List.length_nil, Nat.reduceAdd, Nat.reduceSub, List.replicate_succ, List.replicate_zero, List.cons_append, List.nil_append]
  repeat' first | refine aw_seq ?_ | refine aw_region ?_ | refine aw_lex [] ?_ | (refine isA ?_; refine do_F rfl ?_) | (refine isL ?_; refine lex_F rfl (by kernel_rfl) rfl rfl ?_) | (refine isLg rfl ?_; refine lex_S rfl (by kernel_rfl) rfl rfl ?_) | refine aops_nil ?_ | refine lex_done _ rfl (by kernel_rfl) ?_ | refine aw_ct rfl ?_ | refine aw_cf rfl ?_ | refine aw_block ?_ | with_reducible refine then_n ?_ | refine aw_skip ?_ | refine aw_exit ?_ | (with_reducible first | refine then_x ?_ | refine then_r ?_ | refine block_x ?_ | refine block_n ?_ | refine block_r ?_) | refine aw_ret ?_
  refine aw_loop (α := { i : Nat // i ≤ rs.length }) (fun i => ⟨[.any, .any, .any, .sl 0 0 (rs.take i.1).length, .any, .any, rnL rs, I rs.length, I i.1, .any, .any, .any, .any, .any, .any, .any, .any, .any, .any, .any, .any], rnN (rs.take i.1), 0⟩) (fun i => rs.length - i.1) ⟨0, Nat.zero_le _⟩ ?_ ?_
  · refine Sub.trans (T := ⟨[.any, .any, .any, nilV, .any, .any, rnL rs, I rs.length, I 0, .any, .any, .any, .any, .any, .any, .any, .any, .any, .any, .any, .any], [], 0⟩) (sub_nil 84 1 ?_ (.rest _)) (sub0 [] rfl rfl (by decide) .nil (by repeat' first | exact les_nil | refine les_cons ?_ ?_ | exact le_any | exact le_refl rfl | exact le_sl rfl rfl | exact le_ptr rfl))
    exact .cons (.same _) (.cons (.same _) (.cons (.same _) (.cons .nil (.rest _))))
  · rintro ⟨i, hi⟩
    have hnl : (rnN (rs.take i)).length = (rs.take i).length + 1 := by simp [nR_length]
    repeat' first | refine aw_seq ?_ | refine aw_region ?_ | refine aw_lex [] ?_ | (refine isA ?_; refine do_F rfl ?_) | (refine isL ?_; refine lex_F rfl (by kernel_rfl) rfl rfl ?_) | (refine isLg rfl ?_; refine lex_S rfl (by kernel_rfl) rfl rfl ?_) | refine aops_nil ?_ | refine lex_done _ rfl (by kernel_rfl) ?_ | refine aw_ct rfl ?_ | refine aw_cf rfl ?_ | refine aw_block ?_ | with_reducible refine then_n ?_ | refine aw_skip ?_ | refine aw_exit ?_ | (with_reducible first | refine then_x ?_ | refine then_r ?_ | refine block_x ?_ | refine block_n ?_ | refine block_r ?_) | refine aw_ret ?_
    refine aw_cond rfl (fun h => ?_) (fun h => ?_)
    · have hlt : i < rs.length := by simpa using h
      obtain ⟨x, hx⟩ : ∃ z, rs[i]? = some z := ⟨_, List.getElem?_eq_getElem hlt⟩
      have ets : rs.take (i + 1) = rs.take i ++ [x] := take_snoc hx
      have etl : (rs.take i).length = i := by simp; omega
      repeat' first | refine aw_seq ?_ | refine aw_region ?_ | refine aw_lex [] ?_ | (refine isA ?_; refine do_F rfl ?_) | (refine isL ?_; refine lex_F rfl (by kernel_rfl) rfl rfl ?_) | (refine isLg rfl ?_; refine lex_S rfl (by kernel_rfl) rfl rfl ?_) | (refine isAi ?_; refine do_R rfl (ia_l (t := rnT) (z := x) rfl rfl rfl rfl (Int.natCast_nonneg i) hx) rfl ?_) | (refine isLi rfl ?_; refine lex_R rfl (by kernel_rfl) rfl (ia_l (t := rnT) (z := x) rfl rfl rfl rfl (Int.natCast_nonneg i) hx) rfl ?_) | (refine isAs (x := .tmp 5) ?_; refine do_R rfl (step_stores (vs := [rwL x]) rfl rfl rfl rfl (fun c hc => by simp at hc; subst hc; rfl) (get_last rfl) rfl (Nat.le_refl _)) rfl ?_) | (refine isLs (x := .tmp 5) rfl ?_; refine lex_R rfl (by kernel_rfl) rfl (step_stores (vs := [rwL x]) rfl rfl rfl rfl (fun c hc => by simp at hc; subst hc; rfl) (get_last rfl) rfl (Nat.le_refl _)) rfl ?_) | refine aops_nil ?_ | refine lex_done _ rfl (by kernel_rfl) ?_ | refine aw_ct rfl ?_ | refine aw_cf rfl ?_ | refine aw_block ?_ | with_reducible refine then_n ?_ | refine aw_skip ?_ | refine aw_exit ?_ | (with_reducible first | refine then_x ?_ | refine then_r ?_ | refine block_x ?_ | refine block_n ?_ | refine block_r ?_) | refine aw_ret ?_
      refine aops_sub (T := ⟨[.any, .any, .any, .sl 0 0 i, .any, .ptr (i + 1) 0, rnL rs, I rs.length, I i, .any, .any, .any, .sl 0 0 i, .ptr (i + 1) 0, .any, .any, .any, .any, .any, .any, .any], rnN (rs.take i) ++ [⟨84, 1, [rwL x], 0⟩], 0⟩) (sub_id (by rw [set_last rfl]; rfl) (by
        repeat' first | exact EqS.nil | refine EqS.any ?_ | refine EqS.same rfl ?_ | refine EqS.same (congrArg (V.sl 0 0) etl) ?_ | refine EqS.same (congrArg (fun n => V.ptr n 0) (hnl.trans (by rw [etl]))) ?_)) ?_
      repeat' first | refine aw_seq ?_ | refine aw_region ?_ | refine aw_lex [] ?_ | (refine isA ?_; refine do_F rfl ?_) | (refine isL ?_; refine lex_F rfl (by kernel_rfl) rfl rfl ?_) | (refine isLg rfl ?_; refine lex_S rfl (by kernel_rfl) rfl rfl ?_) | (refine isAl (x := .tmp 13) ?_; refine do_R rfl (rd_sc rfl rfl (get_last (by rw [hnl, etl])) rfl rfl) rfl ?_) | (refine isLl (x := .tmp 13) rfl ?_; refine lex_R rfl (by kernel_rfl) rfl (rd_sc rfl rfl (get_last (by rw [hnl, etl])) rfl rfl) rfl ?_) | (refine isAc 114 ?_; refine do_R rfl (st_callK (r' := .sl (i + 2) 0 x.length) (H' := rnN (rs.take i) ++ [⟨84, 1, [rwL x], 0⟩] ++ [rwR x]) rfl (c_clone x (hok.at hx)) (.cons (.same rfl) .nil) (fun q hq => by simp at hq; subst hq; exact flat_noH _ _) (by simp only [List.length_append, hnl, etl, shV, Nat.zero_add, List.length_singleton]) rfl) rfl ?_) | (refine isLc 114 rfl ?_; refine lex_R rfl (by kernel_rfl) rfl (st_callK (r' := .sl (i + 2) 0 x.length) (H' := rnN (rs.take i) ++ [⟨84, 1, [rwL x], 0⟩] ++ [rwR x]) rfl (c_clone x (hok.at hx)) (.cons (.same rfl) .nil) (fun q hq => by simp at hq; subst hq; exact flat_noH _ _) (by simp only [List.length_append, hnl, etl, shV, Nat.zero_add, List.length_singleton]) rfl) rfl ?_) | (refine isAp ?_; refine do_R rfl (ap_nest (outs := rs.take i) (hz := (rnN (rs.take i) ++ [(⟨84, 1, [rwL x], 0⟩ : Reg)] ++ [rwR x]).length) (zi := i + 2) (n := x.length) rfl (congrArg (V.sl 0 0) etl.symm) rfl rfl (get_last rfl) (by omega) rfl) rfl ?_) | (refine isLp rfl ?_; refine lex_R rfl (by kernel_rfl) rfl (ap_nest (outs := rs.take i) (hz := (rnN (rs.take i) ++ [(⟨84, 1, [rwL x], 0⟩ : Reg)] ++ [rwR x]).length) (zi := i + 2) (n := x.length) rfl (congrArg (V.sl 0 0) etl.symm) rfl rfl (get_last rfl) (by omega) rfl) rfl ?_) | refine aops_nil ?_ | refine lex_done _ rfl (by kernel_rfl) ?_ | refine aw_ct rfl ?_ | refine aw_cf rfl ?_ | refine aw_block ?_ | with_reducible refine then_n ?_ | refine aw_skip ?_ | refine aw_exit ?_ | (with_reducible first | refine then_x ?_ | refine then_r ?_ | refine block_x ?_ | refine block_n ?_ | refine block_r ?_) | refine aw_ret ?_
      refine ⟨⟨i + 1, hlt⟩, by simp only; omega, ?_⟩
      have q := hle_pass (D := ⟨84, 1, nC 1 (rs.take i), 2⟩) (S := ⟨84, 1, [.sl (i + 2) 0 x.length], 0⟩) (out := rs.take i) (z := x) (A := [⟨84, 1, [rwL x], 0⟩, rwR x]) (k := 1) rfl
      have ei : 1 + (rs.take i).length + 1 = i + 2 := by omega
      have ej : (rs.take i).length + 2 + 2 = i + 4 := by omega
      rw [ei, ← ets] at q
      simp only [List.length_cons, List.length_nil, Nat.zero_add, Nat.reduceAdd, ej, etl] at q
      refine sub_of ((i + 4) :: (List.range' 1 i ++ [i + 2])) rfl (fun i hi => absurd hi (Nat.not_lt_zero _)) ?_ (by
        repeat' first | exact les_nil | refine les_cons ?_ ?_ | exact le_any | exact le_refl rfl | exact le_sl (congrArg some (by simp only [List.length_append, List.length_set, hnl, etl, List.length_singleton])) (by rw [ets, List.length_append, etl]; rfl) | exact le_i (by assumption) (by omega))
      show HLe _ (rnN (rs.take (i + 1))) (⟨84, 1, nC 1 (rs.take i), 2⟩ :: (nR rwT 78 (rs.take i) ++ [⟨84, 1, [rwL x], 0⟩] ++ [rwR x] ++ [⟨84, 1, [.sl (i + 2) 0 x.length], 0⟩]) ++ [⟨84, 1, nC 1 (rs.take i) ++ [.sl (i + 2) 0 x.length], 0⟩])
      simp only [List.append_assoc, List.cons_append, List.nil_append] at q ⊢
      exact q
    · have hge : i = rs.length := by
        have : ¬ ((i : Int) < rs.length) := by simpa using h
        omega
      subst hge
      repeat' first | refine aw_seq ?_ | refine aw_region ?_ | refine aw_lex [] ?_ | (refine isA ?_; refine do_F rfl ?_) | (refine isL ?_; refine lex_F rfl (by kernel_rfl) rfl rfl ?_) | (refine isLg rfl ?_; refine lex_S rfl (by kernel_rfl) rfl rfl ?_) | exact finN _ rfl (by rw [List.take_length]; exact hle_rn0 _) (le_sl rfl (by rw [List.take_length])) (Or.inr ⟨rfl, by exact rnN_flatS _⟩) | refine aops_nil ?_ | refine lex_done _ rfl (by kernel_rfl) ?_ | refine aw_ct rfl ?_ | refine aw_cf rfl ?_ | refine aw_block ?_ | with_reducible refine then_n ?_ | refine aw_skip ?_ | refine aw_exit ?_ | (with_reducible first | refine then_x ?_ | refine then_r ?_ | refine block_x ?_ | refine block_n ?_ | refine block_r ?_) | refine aw_ret ?_
end Go.Proofs.Ytojcojanokhnaaa.Ab

/- Mk0 -/
namespace Go.Proofs.Ytojcojanokhnaaa.Ab
open Go.RowKit

theorem c_markRow0 (k : Int) : Meets Go.Proofs.Try.prog 46 [nilV, I k] [] (I k) [] false := by
  refine meets_of [4] Go.Proofs.Try.func46 rfl rfl ?_
  simp only [Go.Proofs.Try.ntmps46, List.length_cons, List.length_nil, Nat.reduceAdd, Nat.reduceSub, List.replicate_succ, List.replicate_zero, List.cons_append, List.nil_append]
  repeat' first | refine aw_seq ?_ | refine aw_region ?_ | refine aw_lex [] ?_ | (refine isA ?_; refine do_F rfl ?_) | (refine isL ?_; refine lex_F rfl (by kernel_rfl) rfl rfl ?_) | (refine isLg rfl ?_; refine lex_S rfl (by kernel_rfl) rfl rfl ?_) | refine aops_nil ?_ | refine lex_done _ rfl (by kernel_rfl) ?_ | refine aw_ct rfl ?_ | refine aw_cf rfl ?_ | refine aw_block ?_ | with_reducible refine then_n ?_ | refine aw_skip ?_ | refine aw_exit ?_ | (with_reducible first | refine then_x ?_ | refine then_r ?_ | refine block_x ?_ | refine block_n ?_ | refine block_r ?_) | refine aw_ret ?_
  refine aw_loop (α := Unit) (fun _ => ⟨[nilV, I k, .any, .any, .any, I 0, .any, .any, .any, .any, .any, .any, .any, .any, .any, .any, .any, .any, .any, .any, .any, .any, .any, .any, .any, .any, .any, .any, .any, .any, .any, .any, .any, .any], [], 0⟩) (fun _ => 0) () ?_ ?_
  · exact sub0 [] rfl rfl (by decide) .nil (by repeat' first | exact les_nil | refine les_cons ?_ ?_ | exact le_any | exact le_refl rfl | exact le_sl rfl rfl | exact le_ptr rfl)
  · intro _
    repeat' first | refine aw_seq ?_ | refine aw_region ?_ | refine aw_lex [] ?_ | (refine isA ?_; refine do_F rfl ?_) | (refine isL ?_; refine lex_F rfl (by kernel_rfl) rfl rfl ?_) | (refine isLg rfl ?_; refine lex_S rfl (by kernel_rfl) rfl rfl ?_) | exact fin1 rfl rfl rfl | refine aops_nil ?_ | refine lex_done _ rfl (by kernel_rfl) ?_ | refine aw_ct rfl ?_ | refine aw_cf rfl ?_ | refine aw_block ?_ | with_reducible refine then_n ?_ | refine aw_skip ?_ | refine aw_exit ?_ | (with_reducible first | refine then_x ?_ | refine then_r ?_ | refine block_x ?_ | refine block_n ?_ | refine block_r ?_) | refine aw_ret ?_
theorem c_markRun0 (k : Int) : Meets Go.Proofs.Try.prog 108 [nilV, I k] [] (I k) [] false := by
  refine meets_of [4] Go.Proofs.Try.func108 rfl rfl ?_
  simp only [Go.Proofs.Try.ntmps108, List.length_cons, List.length_nil, Nat.reduceAdd, Nat.reduceSub, List.replicate_succ, List.replicate_zero, List.cons_append, List.nil_append]
  repeat' first | refine aw_seq ?_ | refine aw_region ?_ | refine aw_lex [] ?_ | (refine isA ?_; refine do_F rfl ?_) | (refine isL ?_; refine lex_F rfl (by kernel_rfl) rfl rfl ?_) | (refine isLg rfl ?_; refine lex_S rfl (by kernel_rfl) rfl rfl ?_) | refine aops_nil ?_ | refine lex_done _ rfl (by kernel_rfl) ?_ | refine aw_ct rfl ?_ | refine aw_cf rfl ?_ | refine aw_block ?_ | with_reducible refine then_n ?_ | refine aw_skip ?_ | refine aw_exit ?_ | (with_reducible first | refine then_x ?_ | refine then_r ?_ | refine block_x ?_ | refine block_n ?_ | refine block_r ?_) | refine aw_ret ?_
  refine aw_loop (α := Unit) (fun _ => ⟨[nilV, I k, .any, .any, .any, I 0, .any, .any, .any, .any, .any, .any, .any, .any, .any, .any, .any, .any, .any, .any], [], 0⟩) (fun _ => 0) () ?_ ?_
  · exact sub0 [] rfl rfl (by decide) .nil (by repeat' first | exact les_nil | refine les_cons ?_ ?_ | exact le_any | exact le_refl rfl | exact le_sl rfl rfl | exact le_ptr rfl)
  · intro _
    repeat' first | refine aw_seq ?_ | refine aw_region ?_ | refine aw_lex [] ?_ | (refine isA ?_; refine do_F rfl ?_) | (refine isL ?_; refine lex_F rfl (by kernel_rfl) rfl rfl ?_) | (refine isLg rfl ?_; refine lex_S rfl (by kernel_rfl) rfl rfl ?_) | exact fin1 rfl rfl rfl | refine aops_nil ?_ | refine lex_done _ rfl (by kernel_rfl) ?_ | refine aw_ct rfl ?_ | refine aw_cf rfl ?_ | refine aw_block ?_ | with_reducible refine then_n ?_ | refine aw_skip ?_ | refine aw_exit ?_ | (with_reducible first | refine then_x ?_ | refine then_r ?_ | refine block_x ?_ | refine block_n ?_ | refine block_r ?_) | refine aw_ret ?_
theorem szL_ok {n : Nat} {l : Int} (hn : n ≤ 9223372036854775807) (h0 : 0 ≤ l) (h1 : l ≤ 1048576) (h : decide (szL n l < 0) = false) : (n : Int) ≤ l ∧ szL n l = l - n := by
  have e : IntKind.i64.wrap (l - n) = l - n := by rw [IntKind.wrap_i64]; omega
  unfold szL at h ⊢
  rw [e] at h ⊢
  by_cases hc : l - (n : Int) < 0
  · rw [decide_eq_true hc] at h; cases h
  · rw [show decide (l - (n : Int) < 0) = false from decide_eq_false hc, cond_false]
    exact ⟨by omega, rfl⟩
end Go.Proofs.Ytojcojanokhnaaa.Ab

/- SoA -/
namespace Go.Proofs.Ytojcojanokhnaaa.Ab
open Go.RowKit

structure So where
  input : List Rw
  pos : Int
  heap : List Rw
  dfr : List Rw
  out : List Rw
  runs : List Rn
  lp : Int
  rp : Int
  ph : Int
  wr : Int
def soE (s : So) : List V := [rwL s.input, I s.pos, rwL s.heap, rwL s.dfr, rwL s.out, rnL s.runs, I s.lp, I s.rp, I s.ph, I s.wr]
structure okSo (s : So) : Prop where
  input : s.input.length ≤ 10000000
  heap : s.heap.length ≤ 10000000
  dfr : s.dfr.length ≤ 10000000
  out : s.out.length ≤ 10000000
  runs : s.runs.length ≤ 10000000
  tot : tot s.runs ≤ 10000000
theorem okSo.rn {s : So} (h : okSo s) : okRn s.runs := ⟨by have := h.runs; omega, fun x hx => by
  have : x.length ≤ Ab.tot s.runs := mem_sum (List.mem_map.2 ⟨x, hx, rfl⟩)
  have := h.tot
  omega⟩

theorem c_toSorter (s : So) (hok : okSo s) : Meets Go.Proofs.Try.prog 34 [.agg (soE s)] [] (.agg (soE s)) [] true := by
  have g1 := hok.input
  have g2 := hok.heap
  have g3 := hok.dfr
  have g4 := hok.out
  have g5 := hok.rn
  refine meets_ofC 2 27 Go.Proofs.Try.func34 rfl rfl ?_
  simp only [Go.Proofs.Try.ntmps34, List.length_cons, List.length_nil, Nat.reduceAdd, Nat.reduceSub, List.replicate_succ, List.replicate_zero, List.cons_append, List.nil_append]
  repeat' first | refine aw_seq ?_ | refine aw_region ?_ | refine aw_lex [] ?_ | (refine isA ?_; refine do_F rfl ?_) | (refine isL ?_; refine lex_F rfl (by kernel_rfl) rfl rfl ?_) | (refine isLg rfl ?_; refine lex_S rfl (by kernel_rfl) rfl rfl ?_) | (refine isAc 41 (x := #[.tmp 5]) ?_; refine do_R rfl (st_call rfl (c_toRowS _ (by omega)) (.cons (.same rfl) .nil) rfl) rfl ?_) | (refine isLc 41 (x := #[.tmp 5]) rfl ?_; refine lex_R rfl (by kernel_rfl) rfl (st_call rfl (c_toRowS _ (by omega)) (.cons (.same rfl) .nil) rfl) rfl ?_) | (refine isAc 41 (x := #[.tmp 12]) ?_; refine do_R rfl (st_call rfl (c_toRowS _ (by omega)) (.cons (.same rfl) .nil) rfl) rfl ?_) | (refine isLc 41 (x := #[.tmp 12]) rfl ?_; refine lex_R rfl (by kernel_rfl) rfl (st_call rfl (c_toRowS _ (by omega)) (.cons (.same rfl) .nil) rfl) rfl ?_) | (refine isAc 41 (x := #[.tmp 16]) ?_; refine do_R rfl (st_call rfl (c_toRowS _ (by omega)) (.cons (.same rfl) .nil) rfl) rfl ?_) | (refine isLc 41 (x := #[.tmp 16]) rfl ?_; refine lex_R rfl (by kernel_rfl) rfl (st_call rfl (c_toRowS _ (by omega)) (.cons (.same rfl) .nil) rfl) rfl ?_) | (refine isAc 41 (x := #[.tmp 20]) ?_; refine do_R rfl (st_call rfl (c_toRowS _ (by omega)) (.cons (.same rfl) .nil) rfl) rfl ?_) | (refine isLc 41 (x := #[.tmp 20]) rfl ?_; refine lex_R rfl (by kernel_rfl) rfl (st_call rfl (c_toRowS _ (by omega)) (.cons (.same rfl) .nil) rfl) rfl ?_) | (refine isAc 104 ?_; refine do_R rfl (st_call rfl (c_toRunS _ g5) (.cons (.same rfl) .nil) rfl) rfl ?_) | (refine isLc 104 rfl ?_; refine lex_R rfl (by kernel_rfl) rfl (st_call rfl (c_toRunS _ g5) (.cons (.same rfl) .nil) rfl) rfl ?_) | exact finC (cell_is rfl rfl rfl rfl rfl) (.same rfl) | refine aops_nil ?_ | refine lex_done _ rfl (by kernel_rfl) ?_ | refine aw_ct rfl ?_ | refine aw_cf rfl ?_ | refine aw_block ?_ | with_reducible refine then_n ?_ | refine aw_skip ?_ | refine aw_exit ?_ | (with_reducible first | refine then_x ?_ | refine then_r ?_ | refine block_x ?_ | refine block_n ?_ | refine block_r ?_) | refine aw_ret ?_

theorem c_eqSorter (s : So) (hok : okSo s) : Meets Go.Proofs.Try.prog 35 [.agg (soE s), .agg (soE s)] [] (B true) [] false := by
  have g1 := hok.input
  have g2 := hok.heap
  have g3 := hok.dfr
  have g4 := hok.out
  have g5 := hok.rn
  refine meets_of [4] Go.Proofs.Try.func35 rfl rfl ?_
  simp only [Go.Proofs.Try.ntmps35, List.length_cons, List.length_nil, Nat.reduceAdd, Nat.reduceSub, List.replicate_succ, List.replicate_zero, List.cons_append, List.nil_append]
  repeat' first | (refine isA ?_; refine do_R rfl (neqI_same rfl rfl rfl) rfl ?_) | refine aw_seq ?_ | refine aw_region ?_ | refine aw_lex [] ?_ | (refine isA ?_; refine do_F rfl ?_) | (refine isL ?_; refine lex_F rfl (by kernel_rfl) rfl rfl ?_) | (refine isLg rfl ?_; refine lex_S rfl (by kernel_rfl) rfl rfl ?_) | (refine isAc 44 (x := #[.tmp 6]) ?_; refine do_R rfl (st_call rfl (c_eqRowS _ (by omega)) (.cons (.same rfl) (.cons (.same rfl) .nil)) rfl) rfl ?_) | (refine isLc 44 (x := #[.tmp 6]) rfl ?_; refine lex_R rfl (by kernel_rfl) rfl (st_call rfl (c_eqRowS _ (by omega)) (.cons (.same rfl) (.cons (.same rfl) .nil)) rfl) rfl ?_) | (refine isAc 44 ?_; refine do_R rfl (st_call rfl (c_eqRowS _ (by omega)) (.cons (.same rfl) (.cons (.same rfl) .nil)) rfl) rfl ?_) | (refine isAc 105 ?_; refine do_R rfl (st_call rfl (c_eqRunS _ g5) (.cons (.same rfl) (.cons (.same rfl) .nil)) rfl) rfl ?_) | (refine isLc 105 rfl ?_; refine lex_R rfl (by kernel_rfl) rfl (st_call rfl (c_eqRunS _ g5) (.cons (.same rfl) (.cons (.same rfl) .nil)) rfl) rfl ?_) | exact fin1 rfl rfl rfl | refine aops_nil ?_ | refine lex_done _ rfl (by kernel_rfl) ?_ | refine aw_ct rfl ?_ | refine aw_cf rfl ?_ | refine aw_block ?_ | with_reducible refine then_n ?_ | refine aw_skip ?_ | refine aw_exit ?_ | (with_reducible first | refine then_x ?_ | refine then_r ?_ | refine block_x ?_ | refine block_n ?_ | refine block_r ?_) | refine aw_ret ?_

/-! ### Sizes -/
def szS (s : So) (l : Int) : Int :=
  let a := szL s.input.length l
  let b := szL s.heap.length a
  let c := szL s.dfr.length b
  let d := szL s.out.length c
  let e := szR s.runs d
  cond (decide (a < 0)) (-1) (cond (decide (b < 0)) (-1) (cond (decide (c < 0)) (-1) (cond (decide (d < 0)) (-1) (cond (decide (e < 0)) (-1) e))))
theorem c_szSorter (s : So) (l : Int) (hl : s.runs.length ≤ 9223372036854775807) : Meets Go.Proofs.Try.prog 33 [.agg (soE s), I l] [] (I (szS s l)) [] false := by
  refine meets_of [4] Go.Proofs.Try.func33 rfl rfl ?_
  simp only [Go.Proofs.Try.ntmps33, List.length_cons, List.length_nil, Nat.reduceAdd, Nat.reduceSub, List.replicate_succ, List.replicate_zero, List.cons_append, List.nil_append]
  repeat' first | refine aw_seq ?_ | refine aw_region ?_ | refine aw_lex [] ?_ | (refine isA ?_; refine do_F rfl ?_) | (refine isL ?_; refine lex_F rfl (by kernel_rfl) rfl rfl ?_) | (refine isLg rfl ?_; refine lex_S rfl (by kernel_rfl) rfl rfl ?_) | (refine isAc 40 ?_; refine do_R rfl (st_call rfl (c_szRowS _ _) (.cons (.same rfl) (.cons (.same rfl) .nil)) rfl) rfl ?_) | (refine isLc 40 rfl ?_; refine lex_R rfl (by kernel_rfl) rfl (st_call rfl (c_szRowS _ _) (.cons (.same rfl) (.cons (.same rfl) .nil)) rfl) rfl ?_) | (refine isAc 103 ?_; refine do_R rfl (st_call rfl (c_szRunS _ _ hl) (.cons (.same rfl) (.cons (.same rfl) .nil)) rfl) rfl ?_) | (refine isLc 103 rfl ?_; refine lex_R rfl (by kernel_rfl) rfl (st_call rfl (c_szRunS _ _ hl) (.cons (.same rfl) (.cons (.same rfl) .nil)) rfl) rfl ?_) | refine aw_cond rfl (fun _ => ?_) (fun _ => ?_) | (refine fin1 rfl rfl ?_; simp only [szS, *, cond_true, cond_false]; done) | refine aops_nil ?_ | refine lex_done _ rfl (by kernel_rfl) ?_ | refine aw_ct rfl ?_ | refine aw_cf rfl ?_ | refine aw_block ?_ | with_reducible refine then_n ?_ | refine aw_skip ?_ | refine aw_exit ?_ | (with_reducible first | refine then_x ?_ | refine then_r ?_ | refine block_x ?_ | refine block_n ?_ | refine block_r ?_) | refine aw_ret ?_
structure rdSo (s : So) : Prop where
  input : s.input.length ≤ 9223372036854775807
  heap : s.heap.length ≤ 9223372036854775807
  dfr : s.dfr.length ≤ 9223372036854775807
  out : s.out.length ≤ 9223372036854775807
  runs : s.runs.length ≤ 9223372036854775807
  each : ∀ x ∈ s.runs, x.length ≤ 9223372036854775807
theorem szS_ok {s : So} {l : Int} (hr : rdSo s) (h0 : 0 ≤ l) (h1 : l ≤ 1048576) (h : decide (szS s l < 0) = false) : okSo s ∧ (s.input.length : Int) + s.heap.length + s.dfr.length + s.out.length + s.runs.length + tot s.runs ≤ l ∧ 0 ≤ szS s l ∧ szS s l ≤ l := by
  unfold szS at h ⊢
  simp only at h ⊢
  have neg : ∀ {b : Bool} {x : Int}, decide (cond b (-1) x < 0) = false → b = false := fun {b x} h => by cases b <;> first | rfl | cases h
  have e1 := neg h
  simp only [e1, cond_false] at h ⊢
  have e2 := neg h
  simp only [e2, cond_false] at h ⊢
  have e3 := neg h
  simp only [e3, cond_false] at h ⊢
  have e4 := neg h
  simp only [e4, cond_false] at h ⊢
  have e5 := neg h
  simp only [e5, cond_false] at h ⊢
  obtain ⟨a1, a2⟩ := szL_ok hr.input h0 h1 e1
  rw [a2] at e2 e3 e4 e5 ⊢
  obtain ⟨b1, b2⟩ := szL_ok hr.heap (by omega) (by omega) e2
  rw [b2] at e3 e4 e5 ⊢
  obtain ⟨c1, c2⟩ := szL_ok hr.dfr (by omega) (by omega) e3
  rw [c2] at e4 e5 ⊢
  obtain ⟨d1, d2⟩ := szL_ok hr.out (by omega) (by omega) e4
  rw [d2] at e5 ⊢
  obtain ⟨f1, f2⟩ := szR_ok hr.runs hr.each (by omega) (by omega) e5
  rw [f2]
  exact ⟨⟨by omega, by omega, by omega, by omega, by omega, by omega⟩, by omega, by omega, by omega⟩

/-! ### Marks held -/
def totS (s : So) : Nat := s.input.length + s.heap.length + s.dfr.length + s.out.length + tot s.runs
def mkSo (k : Int) (s : So) : So :=
  ⟨mkC k s.input s.input.length, s.pos, mkC (kk k (3 * s.input.length)) s.heap s.heap.length, mkC (kk k (3 * (s.input.length + s.heap.length))) s.dfr s.dfr.length, mkC (kk k (3 * (s.input.length + s.heap.length + s.dfr.length))) s.out s.out.length, mkRu (kk k (3 * (s.input.length + s.heap.length + s.dfr.length + s.out.length))) s.runs, s.lp, s.rp, s.ph, s.wr⟩
theorem c_heldSorter (s : So) (hok : okSo s) : Meets Go.Proofs.Try.prog 51 [.agg (soE (mkSo 1 s)), I 1] [] (I (kk 1 (3 * totS s))) [] false := by
  have g1 := hok.input
  have g2 := hok.heap
  have g3 := hok.dfr
  have g4 := hok.out
  have g5 := hok.rn
  have g6 := hok.tot
  have m1 := mkC_len 1 (xs := s.input) (Nat.le_refl _)
  have m2 := mkC_len (kk 1 (3 * s.input.length)) (xs := s.heap) (Nat.le_refl _)
  have m3 := mkC_len (kk 1 (3 * (s.input.length + s.heap.length))) (xs := s.dfr) (Nat.le_refl _)
  have m4 := mkC_len (kk 1 (3 * (s.input.length + s.heap.length + s.dfr.length))) (xs := s.out) (Nat.le_refl _)
  have n1 : decide (kk 1 (3 * s.input.length) < 0) = false := kk_neg (by omega) (by omega) (by omega)
  have n2 : decide (kk 1 (3 * (s.input.length + s.heap.length)) < 0) = false := kk_neg (by omega) (by omega) (by omega)
  have n3 : decide (kk 1 (3 * (s.input.length + s.heap.length + s.dfr.length)) < 0) = false := kk_neg (by omega) (by omega) (by omega)
  have n4 : decide (kk 1 (3 * (s.input.length + s.heap.length + s.dfr.length + s.out.length)) < 0) = false := kk_neg (by omega) (by omega) (by omega)
  have n5 : decide (kk 1 (3 * totS s) < 0) = false := kk_neg (by omega) (by omega) (by unfold totS; omega)
  have q1 := c_heldRowS (mkC 1 s.input s.input.length) 1 (by omega) mkC_at
  have q2 := c_heldRowS (mkC (kk 1 (3 * s.input.length)) s.heap s.heap.length) (kk 1 (3 * s.input.length)) (by omega) mkC_at
  have q3 := c_heldRowS (mkC (kk 1 (3 * (s.input.length + s.heap.length))) s.dfr s.dfr.length) (kk 1 (3 * (s.input.length + s.heap.length))) (by omega) mkC_at
  have q4 := c_heldRowS (mkC (kk 1 (3 * (s.input.length + s.heap.length + s.dfr.length))) s.out s.out.length) (kk 1 (3 * (s.input.length + s.heap.length + s.dfr.length))) (by omega) mkC_at
  rw [m1] at q1
  rw [m2, kk_add, ← Nat.mul_add] at q2
  rw [m3, kk_add, ← Nat.mul_add] at q3
  rw [m4, kk_add, ← Nat.mul_add] at q4
  have q5 := c_heldRunS s.runs (kk 1 (3 * (s.input.length + s.heap.length + s.dfr.length + s.out.length))) g5 (by have := of_decide_eq_false n4; omega) (by rw [kk_val (by omega) (by omega) (by omega)]; omega) (by omega)
  rw [kk_add, ← Nat.mul_add] at q5
  refine meets_of [4] Go.Proofs.Try.func51 rfl rfl ?_
  simp only [Go.Proofs.Try.ntmps51, List.length_cons, List.length_nil, Nat.reduceAdd, Nat.reduceSub, List.replicate_succ, List.replicate_zero, List.cons_append, List.nil_append]
  repeat' first | refine aw_seq ?_ | refine aw_region ?_ | refine aw_lex [] ?_ | (refine isA ?_; refine do_F rfl ?_) | (refine isL ?_; refine lex_F rfl (by kernel_rfl) rfl rfl ?_) | (refine isLg rfl ?_; refine lex_S rfl (by kernel_rfl) rfl rfl ?_) | (refine isAc 52 ?_; refine do_R rfl (st_call rfl q1 (.cons (.same rfl) (.cons (.same rfl) .nil)) rfl) rfl ?_) | (refine isLc 52 rfl ?_; refine lex_R rfl (by kernel_rfl) rfl (st_call rfl q1 (.cons (.same rfl) (.cons (.same rfl) .nil)) rfl) rfl ?_) | refine aops_nil ?_ | refine lex_done _ rfl (by kernel_rfl) ?_ | refine aw_ct rfl ?_ | refine aw_cf rfl ?_ | refine aw_block ?_ | with_reducible refine then_n ?_ | refine aw_skip ?_ | refine aw_exit ?_ | (with_reducible first | refine then_x ?_ | refine then_r ?_ | refine block_x ?_ | refine block_n ?_ | refine block_r ?_) | refine aw_ret ?_
  refine aw_cond rfl (fun h => by rw [n1] at h; cases h) (fun _ => ?_)
  repeat' first | refine aw_seq ?_ | refine aw_region ?_ | refine aw_lex [] ?_ | (refine isA ?_; refine do_F rfl ?_) | (refine isL ?_; refine lex_F rfl (by kernel_rfl) rfl rfl ?_) | (refine isLg rfl ?_; refine lex_S rfl (by kernel_rfl) rfl rfl ?_) | (refine isAc 52 ?_; refine do_R rfl (st_call rfl q2 (.cons (.same rfl) (.cons (.same rfl) .nil)) rfl) rfl ?_) | (refine isLc 52 rfl ?_; refine lex_R rfl (by kernel_rfl) rfl (st_call rfl q2 (.cons (.same rfl) (.cons (.same rfl) .nil)) rfl) rfl ?_) | refine aops_nil ?_ | refine lex_done _ rfl (by kernel_rfl) ?_ | refine aw_ct rfl ?_ | refine aw_cf rfl ?_ | refine aw_block ?_ | with_reducible refine then_n ?_ | refine aw_skip ?_ | refine aw_exit ?_ | (with_reducible first | refine then_x ?_ | refine then_r ?_ | refine block_x ?_ | refine block_n ?_ | refine block_r ?_) | refine aw_ret ?_
  refine aw_cond rfl (fun h => by rw [n2] at h; cases h) (fun _ => ?_)
  repeat' first | refine aw_seq ?_ | refine aw_region ?_ | refine aw_lex [] ?_ | (refine isA ?_; refine do_F rfl ?_) | (refine isL ?_; refine lex_F rfl (by kernel_rfl) rfl rfl ?_) | (refine isLg rfl ?_; refine lex_S rfl (by kernel_rfl) rfl rfl ?_) | (refine isAc 52 ?_; refine do_R rfl (st_call rfl q3 (.cons (.same rfl) (.cons (.same rfl) .nil)) rfl) rfl ?_) | (refine isLc 52 rfl ?_; refine lex_R rfl (by kernel_rfl) rfl (st_call rfl q3 (.cons (.same rfl) (.cons (.same rfl) .nil)) rfl) rfl ?_) | refine aops_nil ?_ | refine lex_done _ rfl (by kernel_rfl) ?_ | refine aw_ct rfl ?_ | refine aw_cf rfl ?_ | refine aw_block ?_ | with_reducible refine then_n ?_ | refine aw_skip ?_ | refine aw_exit ?_ | (with_reducible first | refine then_x ?_ | refine then_r ?_ | refine block_x ?_ | refine block_n ?_ | refine block_r ?_) | refine aw_ret ?_
  refine aw_cond rfl (fun h => by rw [n3] at h; cases h) (fun _ => ?_)
  repeat' first | refine aw_seq ?_ | refine aw_region ?_ | refine aw_lex [] ?_ | (refine isA ?_; refine do_F rfl ?_) | (refine isL ?_; refine lex_F rfl (by kernel_rfl) rfl rfl ?_) | (refine isLg rfl ?_; refine lex_S rfl (by kernel_rfl) rfl rfl ?_) | (refine isAc 52 ?_; refine do_R rfl (st_call rfl q4 (.cons (.same rfl) (.cons (.same rfl) .nil)) rfl) rfl ?_) | (refine isLc 52 rfl ?_; refine lex_R rfl (by kernel_rfl) rfl (st_call rfl q4 (.cons (.same rfl) (.cons (.same rfl) .nil)) rfl) rfl ?_) | refine aops_nil ?_ | refine lex_done _ rfl (by kernel_rfl) ?_ | refine aw_ct rfl ?_ | refine aw_cf rfl ?_ | refine aw_block ?_ | with_reducible refine then_n ?_ | refine aw_skip ?_ | refine aw_exit ?_ | (with_reducible first | refine then_x ?_ | refine then_r ?_ | refine block_x ?_ | refine block_n ?_ | refine block_r ?_) | refine aw_ret ?_
  refine aw_cond rfl (fun h => by rw [n4] at h; cases h) (fun _ => ?_)
  repeat' first | refine aw_seq ?_ | refine aw_region ?_ | refine aw_lex [] ?_ | (refine isA ?_; refine do_F rfl ?_) | (refine isL ?_; refine lex_F rfl (by kernel_rfl) rfl rfl ?_) | (refine isLg rfl ?_; refine lex_S rfl (by kernel_rfl) rfl rfl ?_) | (refine isAc 109 ?_; refine do_R rfl (st_call rfl q5 (.cons (.same rfl) (.cons (.same rfl) .nil)) rfl) rfl ?_) | (refine isLc 109 rfl ?_; refine lex_R rfl (by kernel_rfl) rfl (st_call rfl q5 (.cons (.same rfl) (.cons (.same rfl) .nil)) rfl) rfl ?_) | refine aops_nil ?_ | refine lex_done _ rfl (by kernel_rfl) ?_ | refine aw_ct rfl ?_ | refine aw_cf rfl ?_ | refine aw_block ?_ | with_reducible refine then_n ?_ | refine aw_skip ?_ | refine aw_exit ?_ | (with_reducible first | refine then_x ?_ | refine then_r ?_ | refine block_x ?_ | refine block_n ?_ | refine block_r ?_) | refine aw_ret ?_
  refine aw_cond rfl (fun h => by rw [show (s.input.length + s.heap.length + s.dfr.length + s.out.length) + tot s.runs = totS s from rfl, n5] at h; cases h) (fun _ => ?_)
  repeat' first | refine aw_seq ?_ | refine aw_region ?_ | refine aw_lex [] ?_ | (refine isA ?_; refine do_F rfl ?_) | (refine isL ?_; refine lex_F rfl (by kernel_rfl) rfl rfl ?_) | (refine isLg rfl ?_; refine lex_S rfl (by kernel_rfl) rfl rfl ?_) | exact fin1 rfl rfl rfl | refine aops_nil ?_ | refine lex_done _ rfl (by kernel_rfl) ?_ | refine aw_ct rfl ?_ | refine aw_cf rfl ?_ | refine aw_block ?_ | with_reducible refine then_n ?_ | refine aw_skip ?_ | refine aw_exit ?_ | (with_reducible first | refine then_x ?_ | refine then_r ?_ | refine block_x ?_ | refine block_n ?_ | refine block_r ?_) | refine aw_ret ?_
end Go.Proofs.Ytojcojanokhnaaa.Ab

/- SsA -/
namespace Go.Proofs.Ytojcojanokhnaaa.Ab
open Go.RowKit

theorem finMCN {l : List V} {H : List Reg} {al : Bool} {t : Tmp} {n : Nat} {v r : V} {K : List Reg} (ψ : List Nat) (hv : CellIs l H t n v) (hr : Le ψ r v) (hH : HLe ψ K H) (hal : al = true ∨ (flatV r = true ∧ ∀ q ∈ K, q.mode ≠ 1 ∧ (q.mode = 0 → FlatS q.cells))) :
    (Exit.ret = .ret ∨ Exit.ret = .normal) ∧ ∃ v, CellIs l H t n v ∧ Out al r K v ⟨l, H, 0⟩ := ⟨Or.inl rfl, v, hv, out_ofN (S := ⟨l, H, 0⟩) ψ (fun i hi => absurd hi (Nat.not_lt_zero _)) hH hr hal⟩
/-- A sorter's cells, all its lists rows of the walk's own: the first of them number b. -/
abbrev soO (b : Nat) (s : So) : List V := [.sl b 0 s.input.length, I s.pos, .sl (b + 1) 0 s.heap.length, .sl (b + 2) 0 s.dfr.length, .sl (b + 3) 0 s.out.length, .sl (b + 4) 0 s.runs.length, I s.lp, I s.rp, I s.ph, I s.wr]
abbrev soR (b : Nat) (s : So) : List Reg := rwR s.input :: rwR s.heap :: rwR s.dfr :: rwR s.out :: ⟨84, 1, nC (b + 5) s.runs, 0⟩ :: nR rwT 78 s.runs
theorem soR_len (b : Nat) (s : So) : (soR b s).length = s.runs.length + 5 := by simp [nR_length]
theorem rw_flatS (xs : List Rw) : (rwR xs).mode ≠ 1 ∧ ((rwR xs).mode = 0 → FlatS (rwR xs).cells) := ⟨Nat.zero_ne_one, fun _ => (flat_rw _).flatS⟩
theorem soR_flat (b : Nat) (s : So) : ∀ q ∈ soR b s, q.mode ≠ 1 ∧ (q.mode = 0 → FlatS q.cells) := fun q hq => by
  rcases List.mem_cons.1 hq with rfl | hq
  · exact rw_flatS _
  rcases List.mem_cons.1 hq with rfl | hq
  · exact rw_flatS _
  rcases List.mem_cons.1 hq with rfl | hq
  · exact rw_flatS _
  rcases List.mem_cons.1 hq with rfl | hq
  · exact rw_flatS _
  rcases List.mem_cons.1 hq with rfl | hq
  · exact ⟨Nat.zero_ne_one, fun _ => nC_flatS _ _⟩
  · obtain ⟨x, _, rfl⟩ := List.mem_map.1 hq
    exact rw_flatS _
theorem c_iclone (s : So) (hok : okSo s) : Meets Go.Proofs.Try.prog 56 [.agg (soE s)] [] (.agg (soO 0 s)) (soR 0 s) false := by
  have g1 := hok.input
  have g2 := hok.heap
  have g3 := hok.dfr
  have g4 := hok.out
  refine meets_ofC 2 27 Go.Proofs.Try.func56 rfl rfl ?_
  simp only [Go.Proofs.Try.ntmps56, List.length_cons, List.length_nil, Nat.reduceAdd, Nat.reduceSub, List.replicate_succ, List.replicate_zero, List.cons_append, List.nil_append]
  repeat' first | refine aw_seq ?_ | refine aw_region ?_ | (refine isA ?_; refine do_F rfl ?_) | (refine isL ?_; refine lex_F rfl (by kernel_rfl) rfl rfl ?_) | (refine isLg rfl ?_; refine lex_S rfl (by kernel_rfl) rfl rfl ?_) | refine aops_nil ?_ | refine lex_done _ rfl (by kernel_rfl) ?_ | refine aw_ct rfl ?_ | refine aw_cf rfl ?_ | refine aw_block ?_ | with_reducible refine then_n ?_ | refine aw_skip ?_ | refine aw_exit ?_ | (with_reducible first | refine then_x ?_ | refine then_r ?_ | refine block_x ?_ | refine block_n ?_ | refine block_r ?_) | refine aw_ret ?_
  refine aw_perS 16 (fun H => H[0]? = some (⟨27, 10, soE s, 0⟩ : Reg)) 25 rfl ?_
  refine perS_P 0 (Or.inr rfl) rfl rfl (by kernel_rfl) rfl (fun _ => rfl) rfl ?_
  refine perS_R 1 rfl (by kernel_rfl) rfl (by kernel_rfl) rfl (fun _ hG => rd_sc rfl rfl hG rfl rfl) rfl ?_
  refine perS_P 3 (Or.inr rfl) rfl rfl (by kernel_rfl) rfl (fun _ => rfl) rfl ?_
  refine perS_R 4 rfl (by kernel_rfl) rfl (by kernel_rfl) rfl (fun _ hG => rd_sc rfl rfl hG rfl rfl) rfl ?_
  refine perS_P 6 (Or.inr rfl) rfl rfl (by kernel_rfl) rfl (fun _ => rfl) rfl ?_
  refine perS_R 7 rfl (by kernel_rfl) rfl (by kernel_rfl) rfl (fun _ hG => rd_sc rfl rfl hG rfl rfl) rfl ?_
  refine perS_P 9 (Or.inr rfl) rfl rfl (by kernel_rfl) rfl (fun _ => rfl) rfl ?_
  refine perS_R 10 rfl (by kernel_rfl) rfl (by kernel_rfl) rfl (fun _ hG => rd_sc rfl rfl hG rfl rfl) rfl ?_
  refine perS_P 12 (Or.inr rfl) rfl rfl (by kernel_rfl) rfl (fun _ => rfl) rfl ?_
  refine perS_R 13 rfl (by kernel_rfl) rfl (by kernel_rfl) rfl (fun _ hG => rd_sc rfl rfl hG rfl rfl) rfl ?_
  refine perS_W 2 (by kernel_rfl) rfl rfl (st_callK rfl (c_clone s.input (by omega)) (.cons (.same rfl) .nil) (fun q hq => by simp at hq; subst hq; exact flat_noH _ _) rfl rfl) (Or.inr rfl) rfl ?_
  refine perS_P 15 (Or.inr rfl) rfl rfl (by kernel_rfl) rfl (fun _ => rfl) rfl ?_
  refine perS_W 5 (by kernel_rfl) rfl rfl (st_callK rfl (c_clone s.heap (by omega)) (.cons (.same rfl) .nil) (fun q hq => by simp at hq; subst hq; exact flat_noH _ _) rfl rfl) (Or.inr rfl) rfl ?_
  refine perS_W 8 (by kernel_rfl) rfl rfl (st_callK rfl (c_clone s.dfr (by omega)) (.cons (.same rfl) .nil) (fun q hq => by simp at hq; subst hq; exact flat_noH _ _) rfl rfl) (Or.inr rfl) rfl ?_
  refine perS_W 11 (by kernel_rfl) rfl rfl (st_callK rfl (c_clone s.out (by omega)) (.cons (.same rfl) .nil) (fun q hq => by simp at hq; subst hq; exact flat_noH _ _) rfl rfl) (Or.inr rfl) rfl ?_
  refine perS_W 14 (by kernel_rfl) rfl rfl (st_callKN (r' := .sl 6 0 s.runs.length) (H' := [⟨27, 10, soE s, 0⟩, ⟨27, 10, [nilV, I 0, nilV, nilV, nilV, nilV, I 0, I 0, I 0, I 0], 0⟩, rwR s.input, rwR s.heap, rwR s.dfr, rwR s.out] ++ (⟨84, 1, nC 7 s.runs, 0⟩ :: nR rwT 78 s.runs)) rfl (c_clones s.runs hok.rn) (.cons (.same rfl) .nil) rfl (by rw [nest_sh]; rfl)) (Or.inr rfl) rfl ?_
  refine perS_WF 16 (by kernel_rfl) rfl rfl rfl (Or.inl (by kernel_rfl)) rfl ?_
  refine perS_P 17 (Or.inl (by kernel_rfl)) rfl rfl (by kernel_rfl) rfl (fun _ => rfl) rfl ?_
  refine perS_WF 18 (by kernel_rfl) rfl rfl rfl (Or.inl (by kernel_rfl)) rfl ?_
  refine perS_P 19 (Or.inl (by kernel_rfl)) rfl rfl (by kernel_rfl) rfl (fun _ => rfl) rfl ?_
  refine perS_WF 20 (by kernel_rfl) rfl rfl rfl (Or.inl (by kernel_rfl)) rfl ?_
  refine perS_P 21 (Or.inl (by kernel_rfl)) rfl rfl (by kernel_rfl) rfl (fun _ => rfl) rfl ?_
  refine perS_WF 22 (by kernel_rfl) rfl rfl rfl (Or.inl (by kernel_rfl)) rfl ?_
  refine perS_P 23 (Or.inl (by kernel_rfl)) rfl rfl (by kernel_rfl) rfl (fun _ => rfl) rfl ?_
  refine perS_WF 24 (by kernel_rfl) rfl rfl rfl (Or.inl (by kernel_rfl)) rfl ?_
  refine perS_done (by kernel_rfl) ?_
  have hR : ∀ j x, s.runs[j]? = some x → ([⟨27, 10, [.sl 2 0 s.input.length, I s.pos, .sl 3 0 s.heap.length, .sl 4 0 s.dfr.length, .sl 5 0 s.out.length, .sl 6 0 s.runs.length, I s.lp, I s.rp, I s.ph, I s.wr], 0⟩, ⟨27, 10, [.sl 2 0 s.input.length, I s.pos, .sl 3 0 s.heap.length, .sl 4 0 s.dfr.length, .sl 5 0 s.out.length, .sl 6 0 s.runs.length, I s.lp, I s.rp, I s.ph, I s.wr], 0⟩, rwR s.input, rwR s.heap, rwR s.dfr, rwR s.out, ⟨84, 1, nC 7 s.runs, 0⟩] ++ nR rwT 78 s.runs)[7 + j]? = some (rwR x) := row_in (D := []) rfl (by rw [List.append_nil])
  repeat' first | refine aw_seq ?_ | refine aw_region ?_ | refine aw_lex [] ?_ | (refine isA ?_; refine do_F rfl ?_) | (refine isL ?_; refine lex_F rfl (by kernel_rfl) rfl rfl ?_) | (refine isLg rfl ?_; refine lex_S rfl (by kernel_rfl) rfl rfl ?_) | refine aops_nil ?_ | refine lex_done _ rfl (by kernel_rfl) ?_ | refine aw_ct rfl ?_ | refine aw_cf rfl ?_ | refine aw_block ?_ | with_reducible refine then_n ?_ | refine aw_skip ?_ | refine aw_exit ?_ | (with_reducible first | refine then_x ?_ | refine then_r ?_ | refine block_x ?_ | refine block_n ?_ | refine block_r ?_) | refine aw_ret ?_
  exact finMCN ([2, 3, 4, 5, 6] ++ List.range' 7 s.runs.length) (cell_is rfl rfl rfl rfl rfl) (le_agg (by
        repeat' first | exact les_nil | refine les_cons ?_ ?_ | exact le_refl rfl | exact le_sl rfl rfl)) (hle_nest (hs := [2, 3, 4, 5, 6]) (K1 := [rwR s.input, rwR s.heap, rwR s.dfr, rwR s.out, ⟨84, 1, nC 5 s.runs, 0⟩]) (psi_nodup (by decide) (fun h hh => by simp at hh; omega)) (.cons rfl rfl rfl rfl (les_refl (flat_noH _ _)) (.cons rfl rfl rfl rfl (les_refl (flat_noH _ _)) (.cons rfl rfl rfl rfl (les_refl (flat_noH _ _)) (.cons rfl rfl rfl rfl (les_refl (flat_noH _ _)) (.cons rfl rfl rfl rfl (les_nC fun j hj => psi_at [2, 3, 4, 5, 6] 7 s.runs.length j hj) .nil))))) hR) (Or.inr ⟨rfl, soR_flat 0 s⟩)
end Go.Proofs.Ytojcojanokhnaaa.Ab
