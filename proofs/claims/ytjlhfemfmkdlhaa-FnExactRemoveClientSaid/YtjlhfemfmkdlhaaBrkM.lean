/-
  FnExactSetRequest: both sides.
-/
import Derived.Test.YtjlhfemfmkdlhaaBrkL
namespace Go.Proofs.Ytjlhfemfmkdlhaa.Ab
open Go.RowKit
set_option linter.unusedVariables false
set_option linter.unusedSimpArgs false
set_option maxRecDepth 20000
set_option maxHeartbeats 2000000

theorem flat_cl (xs : List Cl) : FlatL (clT.flat xs) := fun c hc => by
  simp only [Ty.flat, List.mem_flatMap] at hc
  obtain ⟨x, _, hx⟩ := hc
  simp only [clT, clE, List.mem_cons, List.not_mem_nil, or_false] at hx
  rcases hx with rfl | rfl | rfl <;> exact ⟨_, rfl⟩
theorem brK_flat (a w : List Cl) : ∀ q ∈ brK a w, q.mode ≠ 1 ∧ (q.mode = 0 → FlatL q.cells) := fun q hq => by
  simp only [brK, List.mem_cons, List.not_mem_nil, or_false] at hq
  rcases hq with rfl | rfl
  · exact ⟨by simp, fun _ => flat_cl _⟩
  · exact ⟨by simp, fun _ => flat_cl _⟩
theorem brK_noH (a w : List Cl) : ∀ q ∈ brK a w, NoH q.cells := fun q hq => by
  simp only [brK, List.mem_cons, List.not_mem_nil, or_false] at hq
  rcases hq with rfl | rfl <;> exact flat_noH _ _

def setB (xs : List Cl) (i : Nat) (n : Int) : List Cl := match xs[i]? with
  | some z => xs.set i ⟨z.a, n, z.c⟩
  | none => xs
theorem setB_at {xs : List Cl} {i : Nat} {n : Int} {z : Cl} (h : xs[i]? = some z) : setB xs i n = xs.set i ⟨z.a, n, z.c⟩ := by rw [setB, h]
theorem setB_len {xs : List Cl} {i : Nat} {n : Int} : (setB xs i n).length = xs.length := by
  unfold setB
  split <;> simp

def srV (b : Br) (id n : Int) : Br × Bool := cond (validB b && inV n 8 60) (cond (decide (0 ≤ idxC b.act id)) (⟨b.pool, b.next, setB b.act (idxC b.act id).toNat n, b.wait⟩, true) (cond (decide (0 ≤ idxC b.wait id)) (⟨b.pool, b.next, b.act, setB b.wait (idxC b.wait id).toNat n⟩, true) (b, false))) (b, false)
theorem srV_len (b : Br) (id n : Int) : (srV b id n).1.act.length = b.act.length ∧ (srV b id n).1.wait.length = b.wait.length := by
  unfold srV
  cases validB b && inV n 8 60 <;> cases decide (0 ≤ idxC b.act id) <;> cases decide (0 ≤ idxC b.wait id) <;> simp [setB_len]
theorem sr_no {b : Br} {id n : Int} (h : (validB b && inV n 8 60) = false) : srV b id n = (b, false) := by rw [srV, h]; rfl
theorem sr_act {b : Br} {id n : Int} (h : (validB b && inV n 8 60) = true) (ha : decide (0 ≤ idxC b.act id) = true) : srV b id n = (⟨b.pool, b.next, setB b.act (idxC b.act id).toNat n, b.wait⟩, true) := by rw [srV, h, ha]; rfl
theorem sr_wait {b : Br} {id n : Int} (h : (validB b && inV n 8 60) = true) (ha : decide (0 ≤ idxC b.act id) = false) (hw : decide (0 ≤ idxC b.wait id) = true) : srV b id n = (⟨b.pool, b.next, b.act, setB b.wait (idxC b.wait id).toNat n⟩, true) := by rw [srV, h, ha, hw]; rfl
theorem sr_none {b : Br} {id n : Int} (ha : decide (0 ≤ idxC b.act id) = false) (hw : decide (0 ≤ idxC b.wait id) = false) : srV b id n = (b, false) := by rw [srV, ha, hw]; cases validB b && inV n 8 60 <;> rfl
theorem sr_both {b : Br} {id : Int} (h : validB b = true) (ha : decide (0 ≤ idxC b.act id) = true) : decide (0 ≤ idxC b.wait id) = false := by
  rw [decide_eq_false_iff_not]
  intro hw
  obtain ⟨i, x, hx, ex⟩ := idx_pos (of_decide_eq_true ha)
  obtain ⟨k, y, hy, ey⟩ := idx_pos hw
  have hd := disj_false hx hy (ex.trans ey.symm)
  simp [validB, hd] at h

abbrev srR (p : Br × Bool) : V := .tup [.agg (brO p.1), B p.2]
theorem at_some {xs : List Cl} {id : Int} (h : decide (0 ≤ idxC xs id) = true) : ∃ z, xs[0 + (idxC xs id).toNat]? = some z ∧ xs[(idxC xs id).toNat]? = some z ∧ idxC xs id < xs.length := by
  have h0 := of_decide_eq_true h
  have h1 := idx_lt h0
  exact ⟨_, by rw [Nat.zero_add]; exact List.getElem?_eq_getElem h1, List.getElem?_eq_getElem h1, by omega⟩

theorem c_sset (b : Br) (id n : Int) (h1 : b.act.length ≤ 1000000000) (h2 : b.wait.length ≤ 1000000000) : Meets Go.Proofs.Try.prog 35 [.agg (brE b), I id, I n] [] (srR (srV b id n)) (brK (srV b id n).1.act (srV b id n).1.wait) false := by
  refine meets_ofCT 6 24 [7] Go.Proofs.Try.func35 rfl rfl rfl ?_
  simp only [Go.Proofs.Try.ntmps35, List.length_cons, List.length_nil, Nat.reduceAdd, Nat.reduceSub, List.replicate_succ, List.replicate_zero, List.cons_append, List.nil_append]
  repeat' first
    | refine aw_seq ?_
    | refine aw_region ?_
    | refine aw_lex [] ?_
    | (refine isA ?_; refine do_F rfl ?_)
    | (refine isL ?_; refine lex_F rfl (by kernel_rfl) rfl rfl ?_)
    | (refine isLg rfl ?_; refine lex_S rfl (by kernel_rfl) rfl rfl ?_)
    | (refine isAc 79 ?_; refine do_R rfl (st_callK rfl (c_copy _ h1 h2) (.cons (.same rfl) .nil) (brK_noH _ _) rfl rfl) rfl ?_)
    | (refine isLc 79 rfl ?_; refine lex_R rfl (by kernel_rfl) rfl (st_callK rfl (c_copy _ h1 h2) (.cons (.same rfl) .nil) (brK_noH _ _) rfl rfl) rfl ?_)
    | (refine isAc 24 ?_; refine do_R rfl (st_call rfl (c_svalid _ h1 h2) (.cons (.same rfl) .nil) rfl) rfl ?_)
    | (refine isLc 24 rfl ?_; refine lex_R rfl (by kernel_rfl) rfl (st_call rfl (c_svalid _ h1 h2) (.cons (.same rfl) .nil) rfl) rfl ?_)
    | refine aops_nil ?_
    | refine lex_done _ rfl (by kernel_rfl) ?_
    | refine aw_ct rfl ?_
    | refine aw_cf rfl ?_
    | refine aw_block ?_
    | refine then_n ?_
    | refine aw_skip ?_
    | refine aw_exit ?_
    | refine then_x ?_
    | refine then_r ?_
    | refine block_x ?_
    | refine block_n ?_
    | refine block_r ?_
    | refine aw_ret ?_
  refine do_br rfl rfl (fun hv => ?_) (fun hv => ?_)
  · have hv : validB b = false := by simpa using hv
    repeat' first
      | refine aw_seq ?_
      | refine aw_region ?_
      | refine aw_lex [] ?_
      | (refine isA ?_; refine do_F rfl ?_)
      | (refine isL ?_; refine lex_F rfl (by kernel_rfl) rfl rfl ?_)
      | (refine isLg rfl ?_; refine lex_S rfl (by kernel_rfl) rfl rfl ?_)
      | exact (by rw [sr_no (by rw [hv]; rfl)]; exact finMCTf [2, 3] (by decide) (cell_is rfl rfl rfl rfl rfl) (le_tup (les_cons (le_agg (by repeat' first | exact les_nil | refine les_cons ?_ ?_ | exact le_any | exact le_refl rfl | exact le_sl rfl rfl | exact le_ptr rfl)) (les_cons (le_refl rfl) les_nil))) (.cons rfl rfl rfl rfl (les_eq rfl (flat_noH _ _)) (.cons rfl rfl rfl rfl (les_eq rfl (flat_noH _ _)) .nil)) rfl (brK_flat _ _))
      | refine aops_nil ?_
      | refine lex_done _ rfl (by kernel_rfl) ?_
      | refine aw_ct rfl ?_
      | refine aw_cf rfl ?_
      | refine aw_block ?_
      | refine then_n ?_
      | refine aw_skip ?_
      | refine aw_exit ?_
      | refine then_x ?_
      | refine then_r ?_
      | refine block_x ?_
      | refine block_n ?_
      | refine block_r ?_
      | refine aw_ret ?_
  · have hv : validB b = true := by simpa using hv
    repeat' first
      | refine aw_seq ?_
      | refine aw_region ?_
      | refine aw_lex [] ?_
      | (refine isA ?_; refine do_F rfl ?_)
      | (refine isL ?_; refine lex_F rfl (by kernel_rfl) rfl rfl ?_)
      | (refine isLg rfl ?_; refine lex_S rfl (by kernel_rfl) rfl rfl ?_)
      | (refine isAc 65 ?_; refine do_R rfl (st_call rfl (c_in _ _ _) (.cons (.same rfl) (.cons (.same rfl) (.cons (.same rfl) .nil))) rfl) rfl ?_)
      | (refine isLc 65 rfl ?_; refine lex_R rfl (by kernel_rfl) rfl (st_call rfl (c_in _ _ _) (.cons (.same rfl) (.cons (.same rfl) (.cons (.same rfl) .nil))) rfl) rfl ?_)
      | refine aops_nil ?_
      | refine lex_done _ rfl (by kernel_rfl) ?_
      | refine aw_ct rfl ?_
      | refine aw_cf rfl ?_
      | refine aw_block ?_
      | refine then_n ?_
      | refine aw_skip ?_
      | refine aw_exit ?_
      | refine then_x ?_
      | refine then_r ?_
      | refine block_x ?_
      | refine block_n ?_
      | refine block_r ?_
      | refine aw_ret ?_
    refine aw_cond rfl (fun hn => ?_) (fun hn => ?_)
    · have hn : inV n 8 60 = false := by simpa using hn
      repeat' first
        | refine aw_seq ?_
        | refine aw_region ?_
        | refine aw_lex [] ?_
        | (refine isA ?_; refine do_F rfl ?_)
        | (refine isL ?_; refine lex_F rfl (by kernel_rfl) rfl rfl ?_)
        | (refine isLg rfl ?_; refine lex_S rfl (by kernel_rfl) rfl rfl ?_)
        | exact (by rw [sr_no (by rw [hv, hn]; rfl)]; exact finMCTf [2, 3] (by decide) (cell_is rfl rfl rfl rfl rfl) (le_tup (les_cons (le_agg (by repeat' first | exact les_nil | refine les_cons ?_ ?_ | exact le_any | exact le_refl rfl | exact le_sl rfl rfl | exact le_ptr rfl)) (les_cons (le_refl rfl) les_nil))) (.cons rfl rfl rfl rfl (les_eq rfl (flat_noH _ _)) (.cons rfl rfl rfl rfl (les_eq rfl (flat_noH _ _)) .nil)) rfl (brK_flat _ _))
        | refine aops_nil ?_
        | refine lex_done _ rfl (by kernel_rfl) ?_
        | refine aw_ct rfl ?_
        | refine aw_cf rfl ?_
        | refine aw_block ?_
        | refine then_n ?_
        | refine aw_skip ?_
        | refine aw_exit ?_
        | refine then_x ?_
        | refine then_r ?_
        | refine block_x ?_
        | refine block_n ?_
        | refine block_r ?_
        | refine aw_ret ?_
    · have hn : inV n 8 60 = true := by simpa using hn
      have hvn : (validB b && inV n 8 60) = true := by rw [hv, hn]; rfl
      repeat' first
        | refine aw_seq ?_
        | refine aw_region ?_
        | refine aw_lex [] ?_
        | (refine isA ?_; refine do_F rfl ?_)
        | (refine isL ?_; refine lex_F rfl (by kernel_rfl) rfl rfl ?_)
        | (refine isLg rfl ?_; refine lex_S rfl (by kernel_rfl) rfl rfl ?_)
        | (refine isAc 78 ?_; refine do_R rfl (st_call rfl (c_at _ _ h1) (.cons (.same rfl) (.cons (.same rfl) .nil)) rfl) rfl ?_)
        | (refine isAc 78 ?_; refine do_R rfl (st_call rfl (c_at _ _ h2) (.cons (.same rfl) (.cons (.same rfl) .nil)) rfl) rfl ?_)
        | refine aops_nil ?_
        | refine lex_done _ rfl (by kernel_rfl) ?_
        | refine aw_ct rfl ?_
        | refine aw_cf rfl ?_
        | refine aw_block ?_
        | refine then_n ?_
        | refine aw_skip ?_
        | refine aw_exit ?_
        | refine then_x ?_
        | refine then_r ?_
        | refine block_x ?_
        | refine block_n ?_
        | refine block_r ?_
        | refine aw_ret ?_
      refine aw_cond rfl (fun ha => ?_) (fun ha => ?_)
      · obtain ⟨z, hz, hz', hlt⟩ := at_some ha
        have hw := sr_both hv ha
        repeat' first
          | refine aw_seq ?_
          | refine aw_region ?_
          | refine aw_lex [] ?_
          | (refine isA ?_; refine do_F rfl ?_)
          | (refine isL ?_; refine lex_F rfl (by kernel_rfl) rfl rfl ?_)
          | (refine isLg rfl ?_; refine lex_S rfl (by kernel_rfl) rfl rfl ?_)
          | (refine isAi (x := .tmp 33) ?_; refine do_R rfl (step_ia_sl (j := idxC b.act id) rfl rfl rfl (Nat.zero_le _) rfl rfl (of_decide_eq_true ha) hlt) rfl ?_)
          | (refine isLi (x := .tmp 33) rfl ?_; refine lex_R rfl (by kernel_rfl) rfl (step_ia_sl (j := idxC b.act id) rfl rfl rfl (Nat.zero_le _) rfl rfl (of_decide_eq_true ha) hlt) rfl ?_)
          | (refine isAs ?_; refine do_R rfl (set_f (T := clT) (i := 0 + (idxC b.act id).toNat) (off := 1) (z := z) (z' := ⟨z.a, n, z.c⟩) rfl rfl rfl rfl (by decide) rfl hz rfl) rfl ?_)
          | (refine isLs rfl ?_; refine lex_R rfl (by kernel_rfl) rfl (set_f (T := clT) (i := 0 + (idxC b.act id).toNat) (off := 1) (z := z) (z' := ⟨z.a, n, z.c⟩) rfl rfl rfl rfl (by decide) rfl hz rfl) rfl ?_)
          | refine aops_nil ?_
          | refine lex_done _ rfl (by kernel_rfl) ?_
          | refine aw_ct rfl ?_
          | refine aw_cf rfl ?_
          | refine aw_block ?_
          | refine then_n ?_
          | refine aw_skip ?_
          | refine aw_exit ?_
          | refine then_x ?_
          | refine then_r ?_
          | refine block_x ?_
          | refine block_n ?_
          | refine block_r ?_
          | refine aw_ret ?_
        refine aw_cond rfl (fun h => by rw [hw] at h; cases h) (fun _ => ?_)
        repeat' first
          | refine aw_seq ?_
          | refine aw_region ?_
          | refine aw_lex [] ?_
          | (refine isA ?_; refine do_F rfl ?_)
          | (refine isL ?_; refine lex_F rfl (by kernel_rfl) rfl rfl ?_)
          | (refine isLg rfl ?_; refine lex_S rfl (by kernel_rfl) rfl rfl ?_)
          | refine aops_nil ?_
          | refine lex_done _ rfl (by kernel_rfl) ?_
          | refine aw_ct rfl ?_
          | refine aw_cf rfl ?_
          | refine aw_block ?_
          | refine then_n ?_
          | refine aw_skip ?_
          | refine aw_exit ?_
          | refine then_x ?_
          | refine then_r ?_
          | refine block_x ?_
          | refine block_n ?_
          | refine block_r ?_
          | refine aw_ret ?_
        refine do_br rfl rfl (fun _ => ?_) (fun h => by rw [ha] at h; cases h)
        repeat' first
          | refine aw_seq ?_
          | refine aw_region ?_
          | refine aw_lex [] ?_
          | (refine isA ?_; refine do_F rfl ?_)
          | (refine isL ?_; refine lex_F rfl (by kernel_rfl) rfl rfl ?_)
          | (refine isLg rfl ?_; refine lex_S rfl (by kernel_rfl) rfl rfl ?_)
          | exact (by rw [sr_act hvn ha]; exact finMCTf [2, 3] (by decide) (cell_is rfl rfl rfl rfl rfl) (le_tup (les_cons (le_agg (les_cons (le_refl rfl) (les_cons (le_refl rfl) (les_cons (le_sl rfl setB_len.symm) (les_cons (le_sl rfl rfl) les_nil))))) (les_cons (le_refl rfl) les_nil))) (.cons rfl rfl rfl rfl (les_eq (by rw [setB_at hz', Nat.zero_add]) (flat_noH _ _)) (.cons rfl rfl rfl rfl (les_eq rfl (flat_noH _ _)) .nil)) rfl (brK_flat _ _))
          | refine aops_nil ?_
          | refine lex_done _ rfl (by kernel_rfl) ?_
          | refine aw_ct rfl ?_
          | refine aw_cf rfl ?_
          | refine aw_block ?_
          | refine then_n ?_
          | refine aw_skip ?_
          | refine aw_exit ?_
          | refine then_x ?_
          | refine then_r ?_
          | refine block_x ?_
          | refine block_n ?_
          | refine block_r ?_
          | refine aw_ret ?_
      · repeat' first
          | refine aw_seq ?_
          | refine aw_region ?_
          | refine aw_lex [] ?_
          | (refine isA ?_; refine do_F rfl ?_)
          | (refine isL ?_; refine lex_F rfl (by kernel_rfl) rfl rfl ?_)
          | (refine isLg rfl ?_; refine lex_S rfl (by kernel_rfl) rfl rfl ?_)
          | refine aops_nil ?_
          | refine lex_done _ rfl (by kernel_rfl) ?_
          | refine aw_ct rfl ?_
          | refine aw_cf rfl ?_
          | refine aw_block ?_
          | refine then_n ?_
          | refine aw_skip ?_
          | refine aw_exit ?_
          | refine then_x ?_
          | refine then_r ?_
          | refine block_x ?_
          | refine block_n ?_
          | refine block_r ?_
          | refine aw_ret ?_
        refine aw_cond rfl (fun hw => ?_) (fun hw => ?_)
        · obtain ⟨z, hz, hz', hlt⟩ := at_some hw
          repeat' first
            | refine aw_seq ?_
            | refine aw_region ?_
            | refine aw_lex [] ?_
            | (refine isA ?_; refine do_F rfl ?_)
            | (refine isL ?_; refine lex_F rfl (by kernel_rfl) rfl rfl ?_)
            | (refine isLg rfl ?_; refine lex_S rfl (by kernel_rfl) rfl rfl ?_)
            | (refine isAi (x := .tmp 41) ?_; refine do_R rfl (step_ia_sl (j := idxC b.wait id) rfl rfl rfl (Nat.zero_le _) rfl rfl (of_decide_eq_true hw) hlt) rfl ?_)
            | (refine isLi (x := .tmp 41) rfl ?_; refine lex_R rfl (by kernel_rfl) rfl (step_ia_sl (j := idxC b.wait id) rfl rfl rfl (Nat.zero_le _) rfl rfl (of_decide_eq_true hw) hlt) rfl ?_)
            | (refine isAs ?_; refine do_R rfl (set_f (T := clT) (i := 0 + (idxC b.wait id).toNat) (off := 1) (z := z) (z' := ⟨z.a, n, z.c⟩) rfl rfl rfl rfl (by decide) rfl hz rfl) rfl ?_)
            | (refine isLs rfl ?_; refine lex_R rfl (by kernel_rfl) rfl (set_f (T := clT) (i := 0 + (idxC b.wait id).toNat) (off := 1) (z := z) (z' := ⟨z.a, n, z.c⟩) rfl rfl rfl rfl (by decide) rfl hz rfl) rfl ?_)
            | refine aops_nil ?_
            | refine lex_done _ rfl (by kernel_rfl) ?_
            | refine aw_ct rfl ?_
            | refine aw_cf rfl ?_
            | refine aw_block ?_
            | refine then_n ?_
            | refine aw_skip ?_
            | refine aw_exit ?_
            | refine then_x ?_
            | refine then_r ?_
            | refine block_x ?_
            | refine block_n ?_
            | refine block_r ?_
            | refine aw_ret ?_
          refine do_br rfl rfl (fun h => by rw [ha] at h; cases h) (fun _ => ?_)
          repeat' first
            | refine aw_seq ?_
            | refine aw_region ?_
            | refine aw_lex [] ?_
            | (refine isA ?_; refine do_F rfl ?_)
            | (refine isL ?_; refine lex_F rfl (by kernel_rfl) rfl rfl ?_)
            | (refine isLg rfl ?_; refine lex_S rfl (by kernel_rfl) rfl rfl ?_)
            | exact (by rw [sr_wait hvn ha hw]; exact finMCTf [2, 3] (by decide) (cell_is rfl rfl rfl rfl rfl) (le_tup (les_cons (le_agg (les_cons (le_refl rfl) (les_cons (le_refl rfl) (les_cons (le_sl rfl rfl) (les_cons (le_sl rfl setB_len.symm) les_nil))))) (les_cons (le_eq (show B (decide (0 ≤ idxC b.wait id)) = _ by rw [hw]) rfl) les_nil))) (.cons rfl rfl rfl rfl (les_eq rfl (flat_noH _ _)) (.cons rfl rfl rfl rfl (les_eq (by rw [setB_at hz', Nat.zero_add]) (flat_noH _ _)) .nil)) rfl (brK_flat _ _))
            | refine aops_nil ?_
            | refine lex_done _ rfl (by kernel_rfl) ?_
            | refine aw_ct rfl ?_
            | refine aw_cf rfl ?_
            | refine aw_block ?_
            | refine then_n ?_
            | refine aw_skip ?_
            | refine aw_exit ?_
            | refine then_x ?_
            | refine then_r ?_
            | refine block_x ?_
            | refine block_n ?_
            | refine block_r ?_
            | refine aw_ret ?_
        · repeat' first
            | refine aw_seq ?_
            | refine aw_region ?_
            | refine aw_lex [] ?_
            | (refine isA ?_; refine do_F rfl ?_)
            | (refine isL ?_; refine lex_F rfl (by kernel_rfl) rfl rfl ?_)
            | (refine isLg rfl ?_; refine lex_S rfl (by kernel_rfl) rfl rfl ?_)
            | refine aops_nil ?_
            | refine lex_done _ rfl (by kernel_rfl) ?_
            | refine aw_ct rfl ?_
            | refine aw_cf rfl ?_
            | refine aw_block ?_
            | refine then_n ?_
            | refine aw_skip ?_
            | refine aw_exit ?_
            | refine then_x ?_
            | refine then_r ?_
            | refine block_x ?_
            | refine block_n ?_
            | refine block_r ?_
            | refine aw_ret ?_
          refine do_br rfl rfl (fun h => by rw [ha] at h; cases h) (fun _ => ?_)
          repeat' first
            | refine aw_seq ?_
            | refine aw_region ?_
            | refine aw_lex [] ?_
            | (refine isA ?_; refine do_F rfl ?_)
            | (refine isL ?_; refine lex_F rfl (by kernel_rfl) rfl rfl ?_)
            | (refine isLg rfl ?_; refine lex_S rfl (by kernel_rfl) rfl rfl ?_)
            | exact (by rw [sr_none ha hw]; exact finMCTf [2, 3] (by decide) (cell_is rfl rfl rfl rfl rfl) (le_tup (les_cons (le_agg (by repeat' first | exact les_nil | refine les_cons ?_ ?_ | exact le_any | exact le_refl rfl | exact le_sl rfl rfl | exact le_ptr rfl)) (les_cons (le_eq (show B (decide (0 ≤ idxC b.wait id)) = _ by rw [hw]) rfl) les_nil))) (.cons rfl rfl rfl rfl (les_eq rfl (flat_noH _ _)) (.cons rfl rfl rfl rfl (les_eq rfl (flat_noH _ _)) .nil)) rfl (brK_flat _ _))
            | refine aops_nil ?_
            | refine lex_done _ rfl (by kernel_rfl) ?_
            | refine aw_ct rfl ?_
            | refine aw_cf rfl ?_
            | refine aw_block ?_
            | refine then_n ?_
            | refine aw_skip ?_
            | refine aw_exit ?_
            | refine then_x ?_
            | refine then_r ?_
            | refine block_x ?_
            | refine block_n ?_
            | refine block_r ?_
            | refine aw_ret ?_
end Go.Proofs.Ytjlhfemfmkdlhaa.Ab
